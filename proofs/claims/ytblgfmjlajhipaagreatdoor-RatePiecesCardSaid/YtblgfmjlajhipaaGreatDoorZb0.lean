/- Contracts that the proofs of this seat share. Each theorem names its conditions. -/

import Derived.Test.YtblgfmjlajhipaaGreatDoorZa9
set_option maxHeartbeats 16000000
set_option linter.unusedVariables false
namespace Go.Proofs.YtblgfmjlajhipaaGreatDoor
open Go.RowKit Go.Shelf
open Dgt
theorem boxes2 (w:World) (oa oz:Obj):∃W,(w.alloc oa).alloc oz=W∧W.heap[w.heap.size]? =some oa∧W.heap[w.heap.size+1]? =some oz∧Below w.heap.size w W:=by
 refine ⟨_,rfl,?_,?_,((Below.refl _ w).alloc (Nat.le_refl _) oa).alloc (by simp) oz⟩
 ·exact hpU ((Below.refl _ (w.alloc oa)).alloc (Nat.le_refl _) oz) (heap_alloc_new w oa)
 ·have h:=heap_alloc_new (w.alloc oa) oz;rw [World.size_alloc] at h;exact h
set_option maxRecDepth 100000 in
theorem RatNeg_r {va:Value} {ra:Rt} {k:Nat} (ha:IsR va ra k) (hk:k≤10000000) (wq:World) :
  Gv 102 #[va] wq (rtV (negR ra)):=by
 unfold Gv;have HVA:=hD (fun w=>value_r ha (by omega) w);obtain ⟨na,sa,da,rfl,-⟩:=ha;clear hk;obtain ⟨W3,hW3,hxa,hxz,hb3⟩:=boxes2 wq (.cells #[.bool na,.string sa,.string da] 29) (.cells #[.bool false,.string ⟨#[]⟩,.string ⟨#[]⟩] 29);obtain ⟨⟨ca0,ca1,ca2⟩,-⟩:=rwC hxa;go_enter Tryz.func102,Tryz.ntmps102;go_wp2_with fail;obtain ⟨ba,hba⟩:∃b,wq.heap.size=b:=⟨_,rfl⟩;obtain ⟨bz,hbz⟩:∃b,ba+1=b:=⟨_,rfl⟩;refine (HVA.out _).mono ?_;rintro e w1 ⟨rfl,hb⟩;have hxa1:=hpU hb hxa;have hxz1:=hpU hb hxz;rw [hba] at hxa1 hxz1 ⊢;rw [hbz] at hxz1 ⊢;obtain ⟨⟨cb0,cb1,cb2⟩,hfb⟩:=rwC hxa1;have fb0:=hfb 0;have fb1:=hfb 1;have fb2:=hfb 2;have hxa2:=row_set hxa1 (.bool ra.neg) (.string (encS ra.num)) (.string (encS ra.den));obtain ⟨W2,hW2⟩:∃W2,((w1.setCell ⟨ba,0,none⟩ (.bool ra.neg)).setCell ⟨ba,1,none⟩ (.string (encS ra.num))).setCell ⟨ba,2,none⟩ (.string (encS ra.den))=W2:=⟨_,rfl⟩;have hne:ba≠bz:=by omega
 have hxz2:W2.heap[bz]? =some (.cells #[.bool false,.string ⟨#[]⟩,.string ⟨#[]⟩] 29 (0,0)):=by rw [←hW2];simpa [World.setCell,Array.getElem?_modify,hne] using hxz1
 rw [hW2] at hxa2;have HB2:Hid (Below wq.heap.size wq W2):=hD (by rw [←hW2];exact below_row (hb3.trans (hb.mono hb3.size)) (by omega) _ _ _);obtain ⟨⟨cc0,cc1,cc2⟩,hfc⟩:=rwC hxa2;have fc0:=hfc 0;obtain ⟨nn,hnn⟩:∃b,(!ra.neg&& !(encS ra.num).toList.isEmpty)=b:=⟨_,rfl⟩;have HNN:Hid (nn=(!ra.neg&&decide (0<ra.num))):=hD (by rw [←hnn,enc_empty];simp [Nat.pos_iff_ne_zero]);obtain ⟨W4,hW4⟩:∃W4,W2.setCell ⟨ba,0,none⟩ (.bool nn)=W4:=⟨_,rfl⟩;have hxa4:W4.heap[ba]? =some (.cells #[.bool nn,.string (encS ra.num),.string (encS ra.den)] 29 (0,0)):=by rw [←hW4];simp [World.setCell,Array.getElem?_modify,hxa2]
 have hxz4:W4.heap[bz]? =some (.cells #[.bool false,.string ⟨#[]⟩,.string ⟨#[]⟩] 29 (0,0)):=by rw [←hW4];simpa [World.setCell,Array.getElem?_modify,hne] using hxz2
 have HB4:Hid (Below wq.heap.size wq W4):=hD (by rw [←hW4];exact HB2.out.setCell (p:=⟨ba,0,none⟩) (by show wq.heap.size≤ba;omega) _);obtain ⟨⟨cd0,cd1,cd2⟩,-⟩:=rwC hxa4;obtain ⟨⟨cz0,cz1,cz2⟩,hfz⟩:=rwC hxz4;have fz0:=hfz 0;have fz1:=hfz 1;have fz2:=hfz 2;have HROW:=hD (row_set hxz4 (.bool nn) (.string (encS ra.num)) (.string (encS ra.den)));have HBW:=hD (below_row HB4.out (b:=bz) (by omega) (.bool nn) (.string (encS ra.num)) (.string (encS ra.den)));clear hxa hxz hxa1 hxz1 hxa2 hxz2 hxa4 hxz4 hb hb3 hfb hfc hfz hne hW3;cases hneg:ra.neg
 all_goals
  rw [hneg] at hnn hW2 cc0;simp only [Bool.not_false,Bool.not_true,Bool.true_and,Bool.false_and] at hnn
  try (have hnn' :nn=false:=hnn.symm;subst hnn';clear hnn)
  go_wp2_with fail;refine bodyPost_ret (rC1 HROW.out) rfl ?_;have hbwf:=HBW.out;refine ⟨?_,by first|exact hbwf|(rw [hba] at hbwf;exact hbwf)⟩;unfold rtV negR;rw [HNN.out]
def EVS (ba bb:Nat) (na nb:Bool) (sa da sb db:ByteArray) (M L:Rt):Nat→Value
 | 0=>.agg #[.bool na,.string sa,.string da]
 | 1=>.agg #[.bool nb,.string sb,.string db]
 | 2=>rtV M
 | 3=>.agg #[.bool L.neg,.string (encS L.num),.string (encS L.den)]
 | _=>undef
set_option maxRecDepth 100000 in
theorem RatSub_r {va vb:Value} {ra rb:Rt} {k:Nat} (ha:IsR va ra k) (hb:IsR vb rb k) (hk1:1≤k) (hk:k≤4000000) (wq:World) :
  Gv 63 #[va,vb] wq (rtV (subR ra rb)):=by
 unfold Gv;have za:=ha.rz hk1;have zb:=hb.rz hk1;have oka:=ha.ok;have okb:=hb.ok;have HNG:=hD (fun w=>RatNeg_r hb (by omega) w);have HAD:=hD (fun w=>RatAdd_r ha (IsR.of (negR_ok okb) (negR_sz zb)) hk1 hk w);have HE:Hid (subR ra rb=addR ra (negR rb)):=hD rfl;rw [HE.out];obtain ⟨M,hM⟩:∃M,negR rb=M:=⟨_,rfl⟩;rw [hM] at HNG HAD ⊢;obtain ⟨L,hL⟩:∃L,addR ra M=L:=⟨_,rfl⟩;rw [hL] at HAD ⊢;clear hM hL HE;obtain ⟨na,sa,da,rfl,-⟩:=ha;obtain ⟨nb,sb,db,rfl,-⟩:=hb;clear za zb hk1 hk oka okb;obtain ⟨W3,hW3,hxa,hxb,hxz,hb3⟩:=boxes3 wq (.cells #[.bool na,.string sa,.string da] 29) (.cells #[.bool nb,.string sb,.string db] 29) (.cells #[.bool false,.string ⟨#[]⟩,.string ⟨#[]⟩] 29);go_enter Tryz.func63,Tryz.ntmps63;go_wp2_with fail;obtain ⟨ba,hba⟩:∃b,wq.heap.size=b:=⟨_,rfl⟩;obtain ⟨bb,hbb⟩:∃b,ba+1=b:=⟨_,rfl⟩;obtain ⟨bz,hbz⟩:∃b,bb+1=b:=⟨_,rfl⟩;rw [hba] at hxa hxb hxz ⊢;rw [hbb] at hxb hxz ⊢;rw [hbz] at hxz ⊢
 have HXA:=hD hxa;have HXB:=hD hxb;have HXZ:=hD hxz;have HBQ:=hD (show wq.heap.size≤bz by omega);have HB5:=hD hb3;clear hW3 hxa hxb hxz hb3;refine wpTl (w:=W3) (by kernel_rfl) (fun ix v _=>v=EVS ba bb na nb sa da sb db M L ix) 4 (fun t=>(decide (5≤t)&&decide (t<9))) (by decide) (by kernel_rfl) (by kernel_rfl) (by kernel_rfl) (by kernel_rfl) (by kernel_rfl) (fun _ _ _ _ _ h=>h) ?_ ?_
 ·intro i hi o listed a w hR K hK;have ho:=hR.at_;have hi:i<4:=hi;have hii:i=0∨i=1∨i=2∨i=3:=by omega
  rcases hii with rfl|rfl|rfl|rfl
  ·simp at ho;subst ho;have b2:a.tmps.getD 2 undef=.pointer (some ⟨ba,0,none⟩):=hR.b 2;obtain ⟨⟨cx0,cx1,cx2⟩,-⟩:=rwC (hpU hR.below HXA.out);refine pSq ?_;go_simp;exact hK _ _ rfl rB
  ·simp at ho;subst ho;have b3:a.tmps.getD 3 undef=.pointer (some ⟨bb,0,none⟩):=hR.b 3;obtain ⟨⟨cx0,cx1,cx2⟩,-⟩:=rwC (hpU hR.below HXB.out);refine pSq ?_;go_simp;exact hK _ _ rfl rB
  ·simp at ho;subst ho;have e1:a.tmps.getD 6 undef=.agg #[.bool nb,.string sb,.string db]:=hR.t 1;refine pSq ?_;go_simp;refine (HNG.out w).mono ?_;rintro e w' ⟨rfl,hb⟩;exact hK _ _ (rfl) hb
  ·simp at ho;subst ho;have e0:a.tmps.getD 5 undef=.agg #[.bool na,.string sa,.string da]:=hR.t 0;have e2:a.tmps.getD 7 undef=rtV M:=hR.t 2;refine pSq ?_;go_simp;refine (HAD.out w).mono ?_;rintro e w' ⟨rfl,hb⟩;exact hK _ _ (rfl) hb
 ·intro s w hS hb;have e3:s 8=.agg #[.bool L.neg,.string (encS L.num),.string (encS L.den)]:=hS 3 (by decide);simp only [over,ovL,Nat.reduceAdd,Nat.reduceLeDiff,Nat.reduceLT];obtain ⟨⟨cz0,cz1,cz2⟩,hfz⟩:=rwC (hpU hb HXZ.out);have fz0:=hfz 0;have fz1:=hfz 1;have fz2:=hfz 2;refine tail_step (n:=0) rfl rfl ?_;go_simp;simp only [wpTail];have hrow:=row_set (hpU hb HXZ.out) (.bool L.neg) (.string (encS L.num)) (.string (encS L.den));have hbw:=below_row (HB5.out.trans (hb.mono HB5.out.size)) (b:=bz) (by omega) (.bool L.neg) (.string (encS L.num)) (.string (encS L.den));have HROW:=hD hrow;have HBW:=hD hbw;clear hrow hbw hS hb cz0 cz1 cz2 hfz fz0 fz1 fz2;go_wp2_with fail;refine bodyPost_ret (rC1 HROW.out) rfl ?_;exact ⟨rfl,HBW.out⟩
def EVG (ba:Nat) (na:Bool) (sa da:ByteArray) (L:Rt) (R B1 B2 B3:Bool):Nat→Value
 | 0=>.agg #[.bool na,.string sa,.string da]
 | 1=>.bool R
 | 2=>.bool B1
 | 3=>.bool B1
 | 4=>(bif B1 then undef else .agg #[.bool na,.string sa,.string da])
 | 5=>(bif B1 then undef else .agg #[.bool L.neg,.string (encS L.num),.string (encS L.den)])
 | 6=>(bif B1 then undef else .bool B2)
 | 7=>.bool B3
 | 8=>.bool B3
 | _=>undef
set_option maxRecDepth 100000 in
theorem RatSign_r {va:Value} {ra:Rt} {k:Nat} (ha:IsR va ra k) (hk:k≤10000000) (wq:World) :
  Gv 65 #[va] wq (.int .i64 (sgnR ra)):=by
 unfold Gv;obtain ⟨na,sa,da,rfl,h1,h2,hv⟩:=ha;have HRT:=hD (fun w=>RatRight_any na sa da w (by omega) (by omega));unfold ratV at HRT;have HOF:=hD (fun w=>RatOf_any 0 w (by decide) (by decide));obtain ⟨L,hL⟩:∃L,ofR 0=L:=⟨_,rfl⟩;rw [hL] at HOF;unfold rtV at HOF;obtain ⟨R,hR⟩:∃b,rightR na sa da=b:=⟨_,rfl⟩;rw [hR] at HRT;obtain ⟨B1,hB1⟩:∃b,b= !R:=⟨_,rfl⟩;obtain ⟨B2,hB2⟩:∃b,(decide (na=L.neg)&&(decide (sa.toList=(encS L.num).toList)&&decide (da.toList=(encS L.den).toList)))=b:=⟨_,rfl⟩;obtain ⟨B3,hB3⟩:∃b,b=(B1||B2):=⟨_,rfl⟩;have HEND:Hid (B3=true→sgnR ra=0):=hD fun h=>by
  rw [hB3,Bool.or_eq_true] at h;rcases h with h|h
  ·rw [hB1, ←hR] at h;rw [←hv];unfold valQ;rw [if_neg (by simpa using h)];rfl
  ·rw [←hB2, ←hL] at h;simp only [Bool.and_eq_true,decide_eq_true_eq,bytes_ext] at h;obtain ⟨e1,e2,e3⟩:=h;have e4:(ofR 0).num=0:=rfl;rw [e4] at e2;rw [←hv];unfold valQ
   split
   ·unfold sgnR;rw [e2,numS_encS];rfl
   ·rfl
 have HEND2:Hid (B3=false→sgnR ra=if na then-1 else 1):=hD fun h=>by
  rw [hB3,Bool.or_eq_false_iff] at h;obtain ⟨g1,g2⟩:=h;rw [hB1, ←hR] at g1;have hr:rightR na sa da=true:=by simpa using g1
  rw [←hv];unfold valQ;rw [if_pos hr];unfold sgnR;have hok:=(rightR_iff.1 hr).2.2;have hnz:¬numS sa=0:=fun h0=>by
   have hz:=hok.zero h0;have f1:na=false:=congrArg Rt.neg hz;have f3:numS da=1:=congrArg Rt.den hz;have g3:=rightN_eq (rightR_iff.1 hr).1;have g4:=rightN_eq (rightR_iff.1 hr).2.1;rw [←hB2, ←hL] at g2;have:(decide (na=(ofR 0).neg)&&(decide (sa.toList=(encS (ofR 0).num).toList)&&decide (da.toList=(encS (ofR 0).den).toList)))=true:=by
    simp only [Bool.and_eq_true,decide_eq_true_eq,bytes_ext];refine ⟨f1,?_,?_⟩
    ·rw [←g3,h0];rfl
    ·rw [←g4,f3];rfl
   rw [this] at g2;cases g2
  simp only [hnz,if_false]
 have HEQ:=hD hB2;have HB1:=hD hB1;have HB3:=hD hB3;clear hL hR hB1 hB2 hB3 hv h1 h2 hk;have hxa:=heap_alloc_new wq (.cells #[.bool na,.string sa,.string da] 29);have hb0:=(Below.refl wq.heap.size wq).alloc (Nat.le_refl _) (.cells #[.bool na,.string sa,.string da] 29);obtain ⟨W1,hW1⟩:∃W1,wq.alloc (.cells #[.bool na,.string sa,.string da] 29)=W1:=⟨_,rfl⟩;rw [hW1] at hxa hb0;go_enter Tryz.func65,Tryz.ntmps65;go_wp2_with fail;obtain ⟨ba,hba⟩:∃b,wq.heap.size=b:=⟨_,rfl⟩;rw [hba] at hxa ⊢;have HXA:=hD hxa;have HB0:=hD hb0;clear hxa hb0 hW1;refine wpVl (w:=W1) (by kernel_rfl) (fun ix v _=>v=EVG ba na sa da L R B1 B2 B3 ix) (fun t=>(decide (3≤t)&&decide (t<12))) (by kernel_rfl) (by kernel_rfl) (by kernel_rfl) (fun _ _ _ _ _ h=>h) ?_ ?_
 ·intro i hi o listed a w hR K hK;have ho:=hR.at_;have hi:i<9:=hi;have hii:i=0∨i=1∨i=2∨i=3∨i=4∨i=5∨i=6∨i=7∨i=8:=by omega
  rcases hii with rfl|rfl|rfl|rfl|rfl|rfl|rfl|rfl|rfl
  ·simp at ho;subst ho;have b1:a.tmps.getD 1 undef=.pointer (some ⟨ba,0,none⟩):=hR.b 1;obtain ⟨⟨cx0,cx1,cx2⟩,-⟩:=rwC (hpU hR.below HXA.out);refine pSq ?_;go_simp;exact hK _ _ rfl rB
  ·simp at ho;subst ho;have e0:a.tmps.getD 4 undef=.agg #[.bool na,.string sa,.string da]:=hR.d 0;refine pSq ?_;go_simp;refine (HRT.out w).mono ?_;rintro e w' ⟨rfl,hb⟩;exact hK _ _ (rfl) hb
  ·simp at ho;subst ho;have e1:a.tmps.getD 5 undef=.bool R:=hR.d 1;refine pSq ?_;go_simp;exact hK _ _ (by show Value.bool _=Value.bool B1;rw [HB1.out]) rB
  ·simp at ho;subst ho;have e2:a.tmps.getD 6 undef=.bool B1:=hR.d 2;refine pSq ?_;go_simp;exact hK _ _ rfl rB
  ·simp at ho;subst ho;have e3:a.tmps.getD 7 undef=.bool B1:=hR.g 3;have b1:a.tmps.getD 1 undef=.pointer (some ⟨ba,0,none⟩):=hR.b 1;obtain ⟨⟨cx0,cx1,cx2⟩,-⟩:=rwC (hpU hR.below HXA.out);cases B1
   ·refine gSq (b:=false) e3 ?_;go_simp;exact hK _ _ rfl rB
   ·refine gSkp rfl rfl rfl (b:=false) e3 (by decide) ?_;exact hK _ _ rfl rB
  ·simp at ho;subst ho;have e3:a.tmps.getD 7 undef=.bool B1:=hR.g 3;cases B1
   ·refine gSq (b:=false) e3 ?_;go_simp;refine (HOF.out w).mono ?_;rintro e w' ⟨rfl,hb⟩;exact hK _ _ (rfl) hb
   ·refine gSkp rfl rfl rfl (b:=false) e3 (by decide) ?_;exact hK _ _ rfl rB
  ·simp at ho;subst ho;have e4:a.tmps.getD 8 undef=(bif B1 then undef else .agg #[.bool na,.string sa,.string da]):=hR.d 4;have e5:a.tmps.getD 9 undef=(bif B1 then undef else .agg #[.bool L.neg,.string (encS L.num),.string (encS L.den)]):=hR.d 5;have e3:a.tmps.getD 7 undef=.bool B1:=hR.g 3;have hq:=HEQ.out;cases B1
   ·refine gSq (b:=false) e3 ?_;go_simp;rw [eql3,hq];go_simp;exact hK _ _ rfl rB
   ·refine gSkp rfl rfl rfl (b:=false) e3 (by decide) ?_;exact hK _ _ rfl rB
  ·simp at ho;subst ho;have e3:a.tmps.getD 7 undef=.bool B1:=hR.d 3;have e6:a.tmps.getD 10 undef=(bif B1 then undef else .bool B2):=hR.d 6;cases B1
   ·refine pSq ?_;go_simp;exact hK _ _ (by show Value.bool _=Value.bool B3;rw [HB3.out];rfl) rB
   ·refine pSq ?_;go_simp;exact hK _ _ (by show Value.bool _=Value.bool B3;rw [HB3.out];rfl) rB
  ·simp at ho;subst ho;have e7:a.tmps.getD 11 undef=.bool B3:=hR.d 7;refine pSq ?_;go_simp;exact hK _ _ rfl rB
 ·intro s w hS hb;have e8:s 3=.bool B3:=hS 8 (by decide);simp only [over,ovL,Nat.reduceAdd,Nat.reduceLeDiff,Nat.reduceLT];rw [e8];obtain ⟨⟨ca0,ca1,ca2⟩,-⟩:=rwC (hpU hb HXA.out);have HBW:=hD (HB0.out.trans (hb.mono HB0.out.size));clear hS hb e8;have hbwf:=HBW.out;cases B3
  ·have HS:=hD (HEND2.out rfl);clear HEND HEND2;cases na
   all_goals
    go_wp2_with fail;go_ret;exact ⟨by rw [HS.out];rfl,by first|exact hbwf|(rw [hba] at hbwf;exact hbwf)⟩
  ·have HS:=hD (HEND.out rfl);clear HEND HEND2;go_wp2_with fail;go_ret;exact ⟨by rw [HS.out];rfl,by first|exact hbwf|(rw [hba] at hbwf;exact hbwf)⟩
set_option maxRecDepth 100000 in
theorem RatCmp_r {va vb:Value} {ra rb:Rt} {k:Nat} (ha:IsR va ra k) (hb:IsR vb rb k) (hk1:1≤k) (hk:k≤4000000) (wq:World) :
  Gv 66 #[va,vb] wq (.int .i64 (cmpR ra rb)):=by
 unfold Gv;have HSU:=hD (fun w=>RatSub_r ha hb hk1 hk w);have HSG:=hD (fun w=>RatSign_r (IsR.of (subR_ok ha.ok hb.ok) (subR_sz (ha.rz hk1) (hb.rz hk1))) (by omega) w);have HE:Hid (cmpR ra rb=sgnR (subR ra rb)):=hD rfl;rw [HE.out];obtain ⟨na,sa,da,rfl,-⟩:=ha;obtain ⟨nb,sb,db,rfl,-⟩:=hb;clear hk1 hk HE;obtain ⟨W3,hW3,hxa,hxb,hb3⟩:=boxes2 wq (.cells #[.bool na,.string sa,.string da] 29) (.cells #[.bool nb,.string sb,.string db] 29);obtain ⟨⟨ca0,ca1,ca2⟩,-⟩:=rwC hxa;obtain ⟨⟨cb0,cb1,cb2⟩,-⟩:=rwC hxb;have HB3:=hD hb3;clear hxa hxb hb3;go_enter Tryz.func66,Tryz.ntmps66;go_wp2_with fail;refine (HSU.out _).mono ?_;rintro e w1 ⟨rfl,hb⟩;have HB4:=hD (HB3.out.trans (hb.mono HB3.out.size));clear hb ca0 ca1 ca2 cb0 cb1 cb2 hW3;go_wp2_with fail;refine (HSG.out _).mono ?_;rintro e w2 ⟨rfl,hb⟩;have HB5:=hD (HB4.out.trans (hb.mono HB4.out.size));clear hb;go_wp2_with fail;go_ret;exact ⟨rfl,HB5.out⟩
end Go.Proofs.YtblgfmjlajhipaaGreatDoor
