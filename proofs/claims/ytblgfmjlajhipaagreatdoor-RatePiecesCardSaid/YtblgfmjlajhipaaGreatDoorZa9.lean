/- Contracts that the proofs of this seat share. Each theorem names its conditions. -/

import Derived.Test.YtblgfmjlajhipaaGreatDoorZa8
set_option maxHeartbeats 16000000
set_option linter.unusedVariables false
namespace Go.Proofs.YtblgfmjlajhipaaGreatDoor
open Go.RowKit Go.Shelf
open Dgt
def EVA (ba bb:Nat) (na nb:Bool) (sa da sb db:ByteArray) (ra rb:Rt) (xn yn:Bool):Nat→Value
 | 0=>.agg #[.bool na,.string sa,.string da]
 | 1=>.agg #[.bool xn,.string (encS ra.num),.string (encS ra.den)]
 | 2=>.agg #[.bool nb,.string sb,.string db]
 | 3=>.agg #[.bool yn,.string (encS rb.num),.string (encS rb.den)]
 | _=>undef
def EVB (ba bb:Nat) (ra rb:Rt) (X Y:Nat):Nat→Value
 | 0=>.pointer (some ⟨ba,1,none⟩)
 | 1=>.string (encS ra.num)
 | 2=>.pointer (some ⟨bb,2,none⟩)
 | 3=>.string (encS rb.den)
 | 4=>.string (encS X)
 | 5=>.pointer (some ⟨bb,1,none⟩)
 | 6=>.string (encS rb.num)
 | 7=>.pointer (some ⟨ba,2,none⟩)
 | 8=>.string (encS ra.den)
 | 9=>.string (encS Y)
 | 10=>.string (encS X)
 | 11=>.string (encS Y)
 | _=>undef
def EVC (ba bb:Nat) (ra rb L:Rt) (X Y D:Nat) (xn:Bool):Nat→Value
 | 0=>.pointer (some ⟨ba,0,none⟩)
 | 1=>.bool xn
 | 2=>.string (encS X)
 | 3=>.string (encS Y)
 | 4=>.string (encS (X+Y))
 | 5=>.string (encS D)
 | 6=>.agg #[.bool L.neg,.string (encS L.num),.string (encS L.den)]
 | _=>undef
set_option maxRecDepth 100000 in
theorem RatAdd_r {va vb:Value} {ra rb:Rt} {k:Nat} (ha:IsR va ra k) (hb:IsR vb rb k) (hk1:1≤k) (hk:k≤4000000) (wq:World) :
  Gv 60 #[va,vb] wq (rtV (addR ra rb)):=by
 unfold Gv;have HVA:=Lib.hid (fun w=>value_r ha (by omega) w);have HVB:=Lib.hid (fun w=>value_r hb (by omega) w);have za:=ha.rz hk1;have zb:=hb.rz hk1;have oka:=ha.ok;have okb:=hb.ok;have HX:=Lib.hid (fun w=>Mul_n (numS_encS ra.num) (numS_encS rb.den) (za.1.enc (by omega)) (zb.2.enc (by omega)) w);have HY:=Lib.hid (fun w=>Mul_n (numS_encS rb.num) (numS_encS ra.den) (zb.1.enc (by omega)) (za.2.enc (by omega)) w);have HD:=Lib.hid (fun w=>Mul_n (numS_encS ra.den) (numS_encS rb.den) (za.2.enc (by omega)) (zb.2.enc (by omega)) w);have zx:=(za.1.mul zb.2).mono (j:=2*k) (by omega);have zy:=(zb.1.mul za.2).mono (j:=2*k) (by omega);have zd:=(za.2.mul zb.2).mono (j:=2*k) (by omega);have hdp:=Nat.mul_pos oka.pos okb.pos;have HE1:Hid (ra.neg=rb.neg→addR ra rb=low ra.neg (ra.num*rb.den+rb.num*ra.den) (ra.den*rb.den)):=Lib.hid fun h=>by unfold addR;rw [if_pos h]
 have HE2:Hid (¬ra.neg=rb.neg→rb.num*ra.den≤ra.num*rb.den→addR ra rb=low ra.neg (ra.num*rb.den-rb.num*ra.den) (ra.den*rb.den)):=Lib.hid fun h h2=>by unfold addR;rw [if_neg h,if_pos h2]
 have HE3:Hid (¬ra.neg=rb.neg→¬rb.num*ra.den≤ra.num*rb.den→addR ra rb=low rb.neg (rb.num*ra.den-ra.num*rb.den) (ra.den*rb.den)):=Lib.hid fun h h2=>by unfold addR;rw [if_neg h,if_neg h2]
 obtain ⟨Z,hZ⟩:∃Z,addR ra rb=Z:=⟨_,rfl⟩;obtain ⟨X,hX⟩:∃X,ra.num*rb.den=X:=⟨_,rfl⟩;obtain ⟨Y,hY⟩:∃Y,rb.num*ra.den=Y:=⟨_,rfl⟩;obtain ⟨D,hD⟩:∃D,ra.den*rb.den=D:=⟨_,rfl⟩;obtain ⟨xn,hxn⟩:∃b,ra.neg=b:=⟨_,rfl⟩;obtain ⟨yn,hyn⟩:∃b,rb.neg=b:=⟨_,rfl⟩;rw [hX] at HX zx;rw [hY] at HY zy;rw [hD] at HD zd hdp;simp only [hX,hY,hD,hZ,hxn,hyn] at HE1 HE2 HE3;rw [hxn] at HVA;rw [hyn] at HVB;rw [hZ];have HS:=Lib.hid (fun w=>Add_n (numS_encS X) (numS_encS Y) (zx.enc (by omega)) (zy.enc (by omega)) w);have HU:=Lib.hid (fun w=>Sub_n (numS_encS X) (numS_encS Y) (zx.enc (by omega)) (zy.enc (by omega)) w);have HU2:=Lib.hid (fun w=>Sub_n (numS_encS Y) (numS_encS X) (zy.enc (by omega)) (zx.enc (by omega)) w)
 have HLQ:=Lib.hid (fun (b:Bool) (N:Nat) (hN:Sz N (2*k+1)) w=>lowest_n b (encS N) (encS D) _ _ w (numS_encS _) (numS_encS _) hdp (Nat.le_trans (encS_size_lt hN) (by omega)) (Nat.le_trans (encS_size_lt zd) (by omega)));have ZX:Hid (Sz (X+Y) (2*k+1)∧Sz (X-Y) (2*k+1)∧Sz (Y-X) (2*k+1)):=Lib.hid ⟨zx.add zy,(zx.sub _).mono (by omega),(zy.sub _).mono (by omega)⟩;clear zx zy zd hdp hX hY hD hZ hxn hyn;obtain ⟨na,sa,da,rfl,-⟩:=ha;obtain ⟨nb,sb,db,rfl,-⟩:=hb;clear za zb hk1 hk oka okb;obtain ⟨W3,hW3,hxa,hxb,hxz,hb3⟩:=boxes3 wq (.cells #[.bool na,.string sa,.string da] 29) (.cells #[.bool nb,.string sb,.string db] 29) (.cells #[.bool false,.string ⟨#[]⟩,.string ⟨#[]⟩] 29);go_enter Tryz.func60,Tryz.ntmps60;go_wp2_with fail;obtain ⟨ba,hba⟩:∃b,wq.heap.size=b:=⟨_,rfl⟩;obtain ⟨bb,hbb⟩:∃b,ba+1=b:=⟨_,rfl⟩;obtain ⟨bz,hbz⟩:∃b,bb+1=b:=⟨_,rfl⟩;rw [hba] at hxa hxb hxz ⊢;rw [hbb] at hxb hxz ⊢;rw [hbz] at hxz ⊢
 have HXA:=Lib.hid hxa;have HXB:=Lib.hid hxb;have HXZ:=Lib.hid hxz;have HB3:=Lib.hid hb3;have HNE:Hid (ba≠bb):=Lib.hid (by omega);have HNZA:Hid (bz≠ba):=Lib.hid (by omega);have HNZB:Hid (bz≠bb):=Lib.hid (by omega);clear hW3 hxa hxb hxz hb3;refine wpTl (w:=W3) (by kernel_rfl) (fun ix v _=>v=EVA ba bb na nb sa da sb db ra rb xn yn ix) 4 (fun t=>(decide (12≤t)&&decide (t<16))) (by decide) (by kernel_rfl) (by kernel_rfl) (by kernel_rfl) (by kernel_rfl) (by kernel_rfl) (fun _ _ _ _ _ h=>h) ?_ ?_
 ·intro i hi o listed a w hR K hK;have ho:=hR.at_;have hi:i<4:=hi;have hii:i=0∨i=1∨i=2∨i=3:=by omega
  rcases hii with rfl|rfl|rfl|rfl
  ·simp at ho;subst ho;have b2:a.tmps.getD 2 undef=.pointer (some ⟨ba,0,none⟩):=hR.b 2;obtain ⟨⟨cx0,cx1,cx2⟩,-⟩:=rwC (hpU hR.below HXA.out);refine pSq ?_;go_simp;exact hK _ _ rfl rB
  ·simp at ho;subst ho;have e0:a.tmps.getD 12 undef=.agg #[.bool na,.string sa,.string da]:=hR.t 0;refine pSq ?_;go_simp;refine (HVA.out w).mono ?_;rintro e w' ⟨rfl,hb⟩;exact hK _ _ (rfl) hb
  ·simp at ho;subst ho;have b3:a.tmps.getD 3 undef=.pointer (some ⟨bb,0,none⟩):=hR.b 3;obtain ⟨⟨cx0,cx1,cx2⟩,-⟩:=rwC (hpU hR.below HXB.out);refine pSq ?_;go_simp;exact hK _ _ rfl rB
  ·simp at ho;subst ho;have e2:a.tmps.getD 14 undef=.agg #[.bool nb,.string sb,.string db]:=hR.t 2;refine pSq ?_;go_simp;refine (HVB.out w).mono ?_;rintro e w' ⟨rfl,hb⟩;exact hK _ _ (rfl) hb
 ·intro s w hS hb;have e1:s 13=.agg #[.bool xn,.string (encS ra.num),.string (encS ra.den)]:=hS 1 (by decide);have e3:s 15=.agg #[.bool yn,.string (encS rb.num),.string (encS rb.den)]:=hS 3 (by decide);simp only [over,ovL,Nat.reduceAdd,Nat.reduceLeDiff,Nat.reduceLT];obtain ⟨⟨ca0,ca1,ca2⟩,hfa⟩:=rwC (hpU hb HXA.out);have fa0:=hfa 0;have fa1:=hfa 1;have fa2:=hfa 2;refine tail_step (n:=1) rfl rfl ?_;go_simp;have hxb:=hpU hb HXB.out;have hxa:=row_set (hpU hb HXA.out) (.bool xn) (.string (encS ra.num)) (.string (encS ra.den));obtain ⟨W4,hW4⟩:∃W4,((w.setCell ⟨ba,0,none⟩ (.bool xn)).setCell ⟨ba,1,none⟩ (.string (encS ra.num))).setCell ⟨ba,2,none⟩ (.string (encS ra.den))=W4:=⟨_,rfl⟩;have hxb4:W4.heap[bb]? =some (.cells #[.bool nb,.string sb,.string db] 29 (0,0)):=by rw [←hW4];simpa [World.setCell,Array.getElem?_modify,HNE.out] using hxb
  rw [hW4] at hxa ⊢;obtain ⟨⟨cb0,cb1,cb2⟩,hfb⟩:=rwC hxb4;have fb0:=hfb 0;have fb1:=hfb 1;have fb2:=hfb 2;refine tail_step (n:=0) rfl rfl ?_;go_simp;simp only [wpTail];have hxz:=hpU hb HXZ.out;have hxz4:W4.heap[bz]? =some (.cells #[.bool false,.string ⟨#[]⟩,.string ⟨#[]⟩] 29 (0,0)):=by rw [←hW4];simpa [World.setCell,Array.getElem?_modify,Ne.symm HNZA.out] using hxz
  have hxb5:=row_set hxb4 (.bool yn) (.string (encS rb.num)) (.string (encS rb.den));obtain ⟨W5,hW5⟩:∃W5,((W4.setCell ⟨bb,0,none⟩ (.bool yn)).setCell ⟨bb,1,none⟩ (.string (encS rb.num))).setCell ⟨bb,2,none⟩ (.string (encS rb.den))=W5:=⟨_,rfl⟩;have hxa5:W5.heap[ba]? =some (.cells #[.bool xn,.string (encS ra.num),.string (encS ra.den)] 29 (0,0)):=by rw [←hW5];simpa [World.setCell,Array.getElem?_modify,Ne.symm HNE.out] using hxa
  have hxz5:W5.heap[bz]? =some (.cells #[.bool false,.string ⟨#[]⟩,.string ⟨#[]⟩] 29 (0,0)):=by rw [←hW5];simpa [World.setCell,Array.getElem?_modify,Ne.symm HNZB.out] using hxz4
  rw [hW5] at hxb5 ⊢;have HB5:Hid (Below wq.heap.size wq W5):=Lib.hid (by rw [←hW5, ←hW4];exact below_row (below_row (HB3.out.trans (hb.mono HB3.out.size)) (by omega) _ _ _) (by omega) _ _ _);have HXA:=Lib.hid hxa5;have HXB:=Lib.hid hxb5;have HXZ:=Lib.hid hxz5;clear hW5 hW4 hxa hxb hxz hxb4 hxz4 hxa5 hxb5 hxz5 hS hb e1 e3 ca0 ca1 ca2 cb0 cb1 cb2 hfa hfb fa0 fa1 fa2 fb0 fb1 fb2;go_wp2_with fail;refine wpVl (w:=W5) (by kernel_rfl) (fun ix v _=>v=EVB ba bb ra rb X Y ix) (fun t=>(decide (5≤t)&&decide (t<7))||(decide (16≤t)&&decide (t<26))) (by kernel_rfl) (by kernel_rfl) (by kernel_rfl) (fun _ _ _ _ _ h=>h) ?_ ?_
  ·intro i hi o listed a w hR K hK;have ho:=hR.at_;have hi:i<12:=hi;have hii:i=0∨i=1∨i=2∨i=3∨i=4∨i=5∨i=6∨i=7∨i=8∨i=9∨i=10∨i=11:=by omega
   rcases hii with rfl|rfl|rfl|rfl|rfl|rfl|rfl|rfl|rfl|rfl|rfl|rfl
   ·simp at ho;subst ho;have b2:a.tmps.getD 2 undef=.pointer (some ⟨ba,0,none⟩):=hR.b 2;refine pSq ?_;go_simp;exact hK _ _ rfl rB
   ·simp at ho;subst ho;have e0:a.tmps.getD 16 undef=.pointer (some ⟨ba,1,none⟩):=hR.d 0;obtain ⟨⟨cx0,cx1,cx2⟩,-⟩:=rwC (hpU hR.below HXA.out);refine pSq ?_;go_simp;exact hK _ _ rfl rB
   ·simp at ho;subst ho;have b3:a.tmps.getD 3 undef=.pointer (some ⟨bb,0,none⟩):=hR.b 3;refine pSq ?_;go_simp;exact hK _ _ rfl rB
   ·simp at ho;subst ho;have e2:a.tmps.getD 18 undef=.pointer (some ⟨bb,2,none⟩):=hR.d 2;obtain ⟨⟨cx0,cx1,cx2⟩,-⟩:=rwC (hpU hR.below HXB.out);refine pSq ?_;go_simp;exact hK _ _ rfl rB
   ·simp at ho;subst ho;have e1:a.tmps.getD 17 undef=.string (encS ra.num):=hR.d 1;have e3:a.tmps.getD 19 undef=.string (encS rb.den):=hR.d 3;refine pSq ?_;go_simp;refine (HX.out w).mono ?_;rintro e w' ⟨rfl,hb⟩;exact hK _ _ (rfl) hb
   ·simp at ho;subst ho;have b3:a.tmps.getD 3 undef=.pointer (some ⟨bb,0,none⟩):=hR.b 3;refine pSq ?_;go_simp;exact hK _ _ rfl rB
   ·simp at ho;subst ho;have e5:a.tmps.getD 21 undef=.pointer (some ⟨bb,1,none⟩):=hR.d 5;obtain ⟨⟨cx0,cx1,cx2⟩,-⟩:=rwC (hpU hR.below HXB.out);refine pSq ?_;go_simp;exact hK _ _ rfl rB
   ·simp at ho;subst ho;have b2:a.tmps.getD 2 undef=.pointer (some ⟨ba,0,none⟩):=hR.b 2;refine pSq ?_;go_simp;exact hK _ _ rfl rB
   ·simp at ho;subst ho;have e7:a.tmps.getD 23 undef=.pointer (some ⟨ba,2,none⟩):=hR.d 7;obtain ⟨⟨cx0,cx1,cx2⟩,-⟩:=rwC (hpU hR.below HXA.out);refine pSq ?_;go_simp;exact hK _ _ rfl rB
   ·simp at ho;subst ho;have e6:a.tmps.getD 22 undef=.string (encS rb.num):=hR.d 6;have e8:a.tmps.getD 24 undef=.string (encS ra.den):=hR.d 8;refine pSq ?_;go_simp;refine (HY.out w).mono ?_;rintro e w' ⟨rfl,hb⟩;exact hK _ _ (rfl) hb
   ·simp at ho;subst ho;have e4:a.tmps.getD 20 undef=.string (encS X):=hR.d 4;refine pSq ?_;go_simp;exact hK _ _ rfl rB
   ·simp at ho;subst ho;have e9:a.tmps.getD 25 undef=.string (encS Y):=hR.d 9;refine pSq ?_;go_simp;exact hK _ _ rfl rB
  ·intro s w hS hb;have e10:s 5=.string (encS X):=hS 10 (by decide);have e11:s 6=.string (encS Y):=hS 11 (by decide);simp only [over,ovL,Nat.reduceAdd,Nat.reduceLeDiff,Nat.reduceLT];rw [e10,e11];have HXA:=uH hb HXA;have HXB:=uH hb HXB;have HXZ:=uH hb HXZ;have HB5:=Lib.hid (HB5.out.trans (hb.mono HB5.out.size));obtain ⟨w2,hw2⟩:∃w2,w2=w:=⟨_,rfl⟩;subst hw2;obtain ⟨⟨ca0,ca1,ca2⟩,-⟩:=rwC HXA.out;obtain ⟨⟨cb0,cb1,cb2⟩,-⟩:=rwC HXB.out;clear hS hb e10 e11;go_wp2_with fail;refine (HD.out _).mono ?_;rintro e w3 ⟨rfl,hb⟩;have HXA:=uH hb HXA;have HXB:=uH hb HXB;have HXZ:=uH hb HXZ;have HB5:=Lib.hid (HB5.out.trans (hb.mono HB5.out.size));clear ca0 ca1 ca2 cb0 cb1 cb2 hb;obtain ⟨⟨ca0,ca1,ca2⟩,-⟩:=rwC HXA.out;obtain ⟨⟨cb0,cb1,cb2⟩,-⟩:=rwC HXB.out
   by_cases hxy:xn=yn
   ·have hq:=HE1.out hxy;obtain ⟨L,hL⟩:∃L,low xn (X+Y) D=L:=⟨_,rfl⟩;have HL1:=Lib.hid (HLQ.out xn (X+Y) ZX.out.1);rw [hL] at hq HL1;obtain rfl:L=Z:=hq.symm;clear hL hq;have HXY:=Lib.hid hxy;have hxy2:(xn==yn)=true:=by rw [hxy];simp
    clear hxy HE1 HE2 HE3;obtain ⟨yy,hyy⟩:∃yy,yy=yn:=⟨_,rfl⟩;go_wp2_with fail;clear ca0 ca1 ca2 cb0 cb1 cb2;refine wpTl (w:=w3) (by kernel_rfl) (fun ix v _=>v=EVC ba bb ra rb L X Y D xn ix) 7 (fun t=>(decide (36≤t)&&decide (t<43))) (by decide) (by kernel_rfl) (by kernel_rfl) (by kernel_rfl) (by kernel_rfl) (by kernel_rfl) (fun _ _ _ _ _ h=>h) ?_ ?_
    ·intro i hi o listed a w hR K hK;have ho:=hR.at_;have hi:i<7:=hi;have hii:i=0∨i=1∨i=2∨i=3∨i=4∨i=5∨i=6:=by omega
     rcases hii with rfl|rfl|rfl|rfl|rfl|rfl|rfl
     ·simp at ho;subst ho;have b2:a.tmps.getD 2 undef=.pointer (some ⟨ba,0,none⟩):=hR.b 2;refine pSq ?_;go_simp;exact hK _ _ rfl rB
     ·simp at ho;subst ho;have e0:a.tmps.getD 36 undef=.pointer (some ⟨ba,0,none⟩):=hR.t 0;obtain ⟨⟨cx0,cx1,cx2⟩,-⟩:=rwC (hpU hR.below HXA.out);refine pSq ?_;go_simp;exact hK _ _ rfl rB
     ·simp at ho;subst ho;have b5:a.tmps.getD 5 undef=.string (encS X):=hR.b 5;refine pSq ?_;go_simp;exact hK _ _ rfl rB
     ·simp at ho;subst ho;have b6:a.tmps.getD 6 undef=.string (encS Y):=hR.b 6;refine pSq ?_;go_simp;exact hK _ _ rfl rB
     ·simp at ho;subst ho;have e2:a.tmps.getD 38 undef=.string (encS X):=hR.t 2;have e3:a.tmps.getD 39 undef=.string (encS Y):=hR.t 3;refine pSq ?_;go_simp;refine (HS.out w).mono ?_;rintro e w' ⟨rfl,hb⟩;exact hK _ _ (rfl) hb
     ·simp at ho;subst ho;have b7:a.tmps.getD 7 undef=.string (encS D):=hR.b 7;refine pSq ?_;go_simp;exact hK _ _ rfl rB
     ·simp at ho;subst ho;have e1:a.tmps.getD 37 undef=.bool xn:=hR.t 1;have e4:a.tmps.getD 40 undef=.string (encS (X+Y)):=hR.t 4;have e5:a.tmps.getD 41 undef=.string (encS D):=hR.t 5;refine pSq ?_;go_simp;refine (HL1.out w).mono ?_;rintro e w' ⟨rfl,hb⟩;exact hK _ _ (rfl) hb
    ·intro s w hS hb;have e6:s 42=.agg #[.bool L.neg,.string (encS L.num),.string (encS L.den)]:=hS 6 (by decide);simp only [over,ovL,Nat.reduceAdd,Nat.reduceLeDiff,Nat.reduceLT];obtain ⟨⟨cz0,cz1,cz2⟩,hfz⟩:=rwC (hpU hb HXZ.out);have fz0:=hfz 0;have fz1:=hfz 1;have fz2:=hfz 2;refine tail_step (n:=0) rfl rfl ?_;go_simp;simp only [wpTail];have hrow:=row_set (hpU hb HXZ.out) (.bool L.neg) (.string (encS L.num)) (.string (encS L.den));have hbw:=below_row (HB5.out.trans (hb.mono HB5.out.size)) (b:=bz) (by omega) (.bool L.neg) (.string (encS L.num)) (.string (encS L.den));have HROW:=Lib.hid hrow;have HBW:=Lib.hid hbw;clear hrow hbw hS hb cz0 cz1 cz2 hfz fz0 fz1 fz2;go_wp2_with fail;refine bodyPost_ret (rC1 HROW.out) rfl ?_;exact ⟨rfl,HBW.out⟩
   ·have HQ2:=Lib.hid (HE2.out hxy);have HQ3:=Lib.hid (HE3.out hxy);have hxy2:(xn==yn)=false:=by simp [hxy]
    clear HE1 HE2 HE3;go_wp2_with fail;refine (HU.out _).mono ?_;rintro e w4 ⟨rfl,hb⟩;have HXA:=uH hb HXA;have HXB:=uH hb HXB;have HXZ:=uH hb HXZ;have HB5:=Lib.hid (HB5.out.trans (hb.mono HB5.out.size));clear ca0 ca1 ca2 cb0 cb1 cb2 hb;obtain ⟨⟨ca0,ca1,ca2⟩,-⟩:=rwC HXA.out;obtain ⟨⟨cb0,cb1,cb2⟩,-⟩:=rwC HXB.out
    by_cases hle:Y≤X
    ·have hq:=HQ2.out hle;obtain ⟨L,hL⟩:∃L,low xn (X-Y) D=L:=⟨_,rfl⟩;have HL1:=Lib.hid (HLQ.out xn (X-Y) ZX.out.2.1);rw [hL] at hq HL1;subst hq;clear hL;rw [decide_eq_true hle];clear hle;go_wp2_with fail;refine (HL1.out _).mono ?_;rintro e w5 ⟨rfl,hb⟩;unfold rtV;obtain ⟨⟨cz0,cz1,cz2⟩,hfz⟩:=rwC (hpU hb HXZ.out);have fz0:=hfz 0;have fz1:=hfz 1;have fz2:=hfz 2;have hrow:=row_set (hpU hb HXZ.out) (.bool Z.neg) (.string (encS Z.num)) (.string (encS Z.den));have hbw:=below_row (HB5.out.trans (hb.mono HB5.out.size)) (b:=bz) (by omega) (.bool Z.neg) (.string (encS Z.num)) (.string (encS Z.den));have HROW:=Lib.hid hrow;have HBW:=Lib.hid hbw;clear hrow hbw hb hfz ca0 ca1 ca2 cb0 cb1 cb2;go_wp2_with fail;refine bodyPost_ret (rC1 HROW.out) rfl ?_;exact ⟨rfl,HBW.out⟩
    ·have hq:=HQ3.out hle;obtain ⟨L,hL⟩:∃L,low yn (Y-X) D=L:=⟨_,rfl⟩;have HL1:=Lib.hid (HLQ.out yn (Y-X) ZX.out.2.2);rw [hL] at hq HL1;subst hq;clear hL;rw [decide_eq_false hle];clear hle;go_wp2_with fail;refine (HU2.out _).mono ?_;rintro e w6 ⟨rfl,hb⟩;have HXB:=uH hb HXB;have HXZ:=uH hb HXZ;have HB5:=Lib.hid (HB5.out.trans (hb.mono HB5.out.size));clear ca0 ca1 ca2 cb0 cb1 cb2 hb;obtain ⟨⟨cb0,cb1,cb2⟩,-⟩:=rwC HXB.out;go_wp2_with fail;refine (HL1.out _).mono ?_;rintro e w5 ⟨rfl,hb⟩;unfold rtV;obtain ⟨⟨cz0,cz1,cz2⟩,hfz⟩:=rwC (hpU hb HXZ.out);have fz0:=hfz 0;have fz1:=hfz 1;have fz2:=hfz 2;have hrow:=row_set (hpU hb HXZ.out) (.bool Z.neg) (.string (encS Z.num)) (.string (encS Z.den));have hbw:=below_row (HB5.out.trans (hb.mono HB5.out.size)) (b:=bz) (by omega) (.bool Z.neg) (.string (encS Z.num)) (.string (encS Z.den));have HROW:=Lib.hid hrow;have HBW:=Lib.hid hbw
     clear hrow hbw hb hfz cb0 cb1 cb2;go_wp2_with fail;refine bodyPost_ret (rC1 HROW.out) rfl ?_;exact ⟨rfl,HBW.out⟩
end Go.Proofs.YtblgfmjlajhipaaGreatDoor
