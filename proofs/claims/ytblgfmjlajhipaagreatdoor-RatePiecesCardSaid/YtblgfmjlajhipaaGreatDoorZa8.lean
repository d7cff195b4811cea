/- Contracts that the proofs of this seat share. Each theorem names its conditions. -/

import Derived.Test.YtblgfmjlajhipaaGreatDoorZa7
set_option maxHeartbeats 16000000
set_option linter.unusedVariables false
namespace Go.Proofs.YtblgfmjlajhipaaGreatDoor
open Go.RowKit Go.Shelf
open Dgt
def EVQ (ba bb:Nat) (na nb:Bool) (sa da sb db:ByteArray) (ra rb:Rt):Nat→Value
 | 0=>.agg #[.bool na,.string sa,.string da]
 | 1=>.agg #[.bool ra.neg,.string (encS ra.num),.string (encS ra.den)]
 | 2=>.agg #[.bool nb,.string sb,.string db]
 | 3=>.agg #[.bool rb.neg,.string (encS rb.num),.string (encS rb.den)]
 | _=>undef
def EVR (ba bb:Nat) (ra rb L:Rt):Nat→Value
 | 0=>.pointer (some ⟨ba,0,none⟩)
 | 1=>.bool ra.neg
 | 2=>.pointer (some ⟨bb,0,none⟩)
 | 3=>.bool rb.neg
 | 4=>.bool (ra.neg != rb.neg)
 | 5=>.pointer (some ⟨ba,1,none⟩)
 | 6=>.string (encS ra.num)
 | 7=>.pointer (some ⟨bb,2,none⟩)
 | 8=>.string (encS rb.den)
 | 9=>.string (encS (ra.num*rb.den))
 | 10=>.pointer (some ⟨ba,2,none⟩)
 | 11=>.string (encS ra.den)
 | 12=>.pointer (some ⟨bb,1,none⟩)
 | 13=>.string (encS rb.num)
 | 14=>.string (encS (ra.den*rb.num))
 | 15=>.agg #[.bool L.neg,.string (encS L.num),.string (encS L.den)]
 | _=>undef
def quoV (a b:Rt):Value:=if b.num=0 then .tuple #[.agg #[.bool false,.string ⟨#[]⟩,.string ⟨#[]⟩],.bool false] else .tuple #[rtV (quoR a b),.bool true]
set_option maxRecDepth 100000 in
theorem RatQuo_r {va vb:Value} {ra rb:Rt} {k:Nat} (ha:IsR va ra k) (hb:IsR vb rb k) (hk1:1≤k) (hk:k≤4000000) (wq:World) :
  Gv 73 #[va,vb] wq (quoV ra rb):=by
 unfold Gv;have HVA:=hD (fun w=>value_r ha (by omega) w);have HVB:=hD (fun w=>value_r hb (by omega) w);have za:=ha.rz hk1;have zb:=hb.rz hk1;have oka:=ha.ok;have okb:=hb.ok;have HN:=hD (fun w=>Mul_n (numS_encS ra.num) (numS_encS rb.den) (za.1.enc (by omega)) (zb.2.enc (by omega)) w);have HD:=hD (fun w=>Mul_n (numS_encS ra.den) (numS_encS rb.num) (za.2.enc (by omega)) (zb.1.enc (by omega)) w);have HL:=hD (fun (hz:rb.num≠0) w=>lowest_n (ra.neg != rb.neg) (encS (ra.num*rb.den)) (encS (ra.den*rb.num)) _ _ w (numS_encS _) (numS_encS _) (Nat.mul_pos oka.pos (Nat.pos_of_ne_zero hz)) (Nat.le_trans (encS_size_lt (za.1.mul zb.2)) (by omega)) (Nat.le_trans (encS_size_lt (za.2.mul zb.1)) (by omega)));have HE:Hid (quoR ra rb=low (ra.neg != rb.neg) (ra.num*rb.den) (ra.den*rb.num)):=hD rfl;unfold quoV;rw [HE.out];obtain ⟨L,hL⟩:∃L,low (ra.neg != rb.neg) (ra.num*rb.den) (ra.den*rb.num)=L:=⟨_,rfl⟩
 rw [hL] at HL ⊢;clear hL;obtain ⟨na,sa,da,rfl,-⟩:=ha;obtain ⟨nb,sb,db,rfl,-⟩:=hb;clear za zb hk1 hk oka okb;obtain ⟨W3,hW3,hxa,hxb,hxz,hb3⟩:=boxes3 wq (.cells #[.bool na,.string sa,.string da] 29) (.cells #[.bool nb,.string sb,.string db] 29) (.cells #[.bool false,.string ⟨#[]⟩,.string ⟨#[]⟩] 29);go_enter Tryz.func73,Tryz.ntmps73;go_wp2_with fail;obtain ⟨ba,hba⟩:∃b,wq.heap.size=b:=⟨_,rfl⟩;obtain ⟨bb,hbb⟩:∃b,ba+1=b:=⟨_,rfl⟩;obtain ⟨bz,hbz⟩:∃b,bb+1=b:=⟨_,rfl⟩;rw [hba] at hxa hxb hxz ⊢;rw [hbb] at hxb hxz ⊢;rw [hbz] at hxz ⊢;have HXA:=hD hxa;have HXB:=hD hxb;have HXZ:=hD hxz;have HB3:=hD hb3;have HNE:Hid (ba≠bb):=hD (by omega);have HNZA:Hid (bz≠ba):=hD (by omega);have HNZB:Hid (bz≠bb):=hD (by omega);clear hW3 hxa hxb hxz hb3
 refine wpTl (w:=W3) (by kernel_rfl) (fun ix v _=>v=EVQ ba bb na nb sa da sb db ra rb ix) 4 (fun t=>(decide (6≤t)&&decide (t<10))) (by decide) (by kernel_rfl) (by kernel_rfl) (by kernel_rfl) (by kernel_rfl) (by kernel_rfl) (fun _ _ _ _ _ h=>h) ?_ ?_
 ·intro i hi o listed a w hR K hK;have ho:=hR.at_;have hi:i<4:=hi;have hii:i=0∨i=1∨i=2∨i=3:=by omega
  rcases hii with rfl|rfl|rfl|rfl
  ·simp at ho;subst ho;have b2:a.tmps.getD 2 undef=.pointer (some ⟨ba,0,none⟩):=hR.b 2;obtain ⟨⟨cx0,cx1,cx2⟩,-⟩:=rwC (hpU hR.below HXA.out);refine pSq ?_;go_simp;exact hK _ _ rfl rB
  ·simp at ho;subst ho;have e0:a.tmps.getD 6 undef=.agg #[.bool na,.string sa,.string da]:=hR.t 0;refine pSq ?_;go_simp;refine (HVA.out w).mono ?_;rintro e w' ⟨rfl,hb⟩;exact hK _ _ (rfl) hb
  ·simp at ho;subst ho;have b3:a.tmps.getD 3 undef=.pointer (some ⟨bb,0,none⟩):=hR.b 3;obtain ⟨⟨cx0,cx1,cx2⟩,-⟩:=rwC (hpU hR.below HXB.out);refine pSq ?_;go_simp;exact hK _ _ rfl rB
  ·simp at ho;subst ho;have e2:a.tmps.getD 8 undef=.agg #[.bool nb,.string sb,.string db]:=hR.t 2;refine pSq ?_;go_simp;refine (HVB.out w).mono ?_;rintro e w' ⟨rfl,hb⟩;exact hK _ _ (rfl) hb
 ·intro s w hS hb;have e1:s 7=.agg #[.bool ra.neg,.string (encS ra.num),.string (encS ra.den)]:=hS 1 (by decide);have e3:s 9=.agg #[.bool rb.neg,.string (encS rb.num),.string (encS rb.den)]:=hS 3 (by decide);simp only [over,ovL,Nat.reduceAdd,Nat.reduceLeDiff,Nat.reduceLT];obtain ⟨⟨ca0,ca1,ca2⟩,hfa⟩:=rwC (hpU hb HXA.out);have fa0:=hfa 0;have fa1:=hfa 1;have fa2:=hfa 2;refine tail_step (n:=1) rfl rfl ?_;go_simp;have hxb:=hpU hb HXB.out;have hxa:=row_set (hpU hb HXA.out) (.bool ra.neg) (.string (encS ra.num)) (.string (encS ra.den));obtain ⟨W4,hW4⟩:∃W4,((w.setCell ⟨ba,0,none⟩ (.bool ra.neg)).setCell ⟨ba,1,none⟩ (.string (encS ra.num))).setCell ⟨ba,2,none⟩ (.string (encS ra.den))=W4:=⟨_,rfl⟩;have hxb4:W4.heap[bb]? =some (.cells #[.bool nb,.string sb,.string db] 29 (0,0)):=by rw [←hW4];simpa [World.setCell,Array.getElem?_modify,HNE.out] using hxb
  rw [hW4] at hxa ⊢;obtain ⟨⟨cb0,cb1,cb2⟩,hfb⟩:=rwC hxb4;have fb0:=hfb 0;have fb1:=hfb 1;have fb2:=hfb 2;refine tail_step (n:=0) rfl rfl ?_;go_simp;simp only [wpTail];have hxz:=hpU hb HXZ.out;have hxz4:W4.heap[bz]? =some (.cells #[.bool false,.string ⟨#[]⟩,.string ⟨#[]⟩] 29 (0,0)):=by rw [←hW4];simpa [World.setCell,Array.getElem?_modify,Ne.symm HNZA.out] using hxz
  have hxb5:=row_set hxb4 (.bool rb.neg) (.string (encS rb.num)) (.string (encS rb.den));obtain ⟨W5,hW5⟩:∃W5,((W4.setCell ⟨bb,0,none⟩ (.bool rb.neg)).setCell ⟨bb,1,none⟩ (.string (encS rb.num))).setCell ⟨bb,2,none⟩ (.string (encS rb.den))=W5:=⟨_,rfl⟩;have hxa5:W5.heap[ba]? =some (.cells #[.bool ra.neg,.string (encS ra.num),.string (encS ra.den)] 29 (0,0)):=by rw [←hW5];simpa [World.setCell,Array.getElem?_modify,Ne.symm HNE.out] using hxa
  have hxz5:W5.heap[bz]? =some (.cells #[.bool false,.string ⟨#[]⟩,.string ⟨#[]⟩] 29 (0,0)):=by rw [←hW5];simpa [World.setCell,Array.getElem?_modify,Ne.symm HNZB.out] using hxz4
  rw [hW5] at hxb5 ⊢;have HB5:Hid (Below wq.heap.size wq W5):=hD (by rw [←hW5, ←hW4];exact below_row (below_row (HB3.out.trans (hb.mono HB3.out.size)) (by omega) _ _ _) (by omega) _ _ _);have HXA:=hD hxa5;have HXB:=hD hxb5;have HXZ:=hD hxz5;clear hW5 hW4 hxa hxb hxz hxb4 hxz4 hxa5 hxb5 hxz5 hS hb e1 e3 ca0 ca1 ca2 cb0 cb1 cb2 hfa hfb fa0 fa1 fa2 fb0 fb1 fb2;obtain ⟨⟨cq0,cq1,cq2⟩,-⟩:=rwC HXB.out
  by_cases hz:rb.num=0
  ·have hem:(encS rb.num).toList.isEmpty=true:=by rw [enc_empty];simp [hz]
   have hem2:(encS rb.num).toList=[]:=List.isEmpty_iff.1 hem;have HZ:=hD hz;obtain ⟨⟨cb0,cb1,cb2⟩,-⟩:=rwC HXB.out;obtain ⟨⟨cz0,cz1,cz2⟩,hfz⟩:=rwC HXZ.out;have fz0:=hfz 0;have fz1:=hfz 1;have fz2:=hfz 2;have HROW:=hD (row_set HXZ.out (.bool false) (.string ⟨#[]⟩) (.string ⟨#[]⟩));have HBW:=hD (below_row HB5.out (b:=bz) (by omega) (.bool false) (.string ⟨#[]⟩) (.string ⟨#[]⟩));clear hz hfz;go_wp2_with fail;refine bodyPost_ret (rC2 HROW.out) rfl ?_;have hbwf:=HBW.out;rw [hba] at hbwf;first|exact ⟨rfl,HBW.out⟩|exact ⟨rfl,hbwf⟩|exact ⟨by rw [if_pos HZ.out];rfl,HBW.out⟩
  ·have HNZ:=hD hz;have hem:(encS rb.num).toList.isEmpty=false:=enc_some hz;have hem2:¬(encS rb.num).toList=[]:=fun h=>by rw [h] at hem;cases hem
   obtain ⟨⟨cb0,cb1,cb2⟩,-⟩:=rwC HXB.out;clear hz;go_wp2_with fail;clear cb0 cb1 cb2 hem hem2;refine wpTl (w:=W5) (by kernel_rfl) (fun ix v _=>v=EVR ba bb ra rb L ix) 16 (fun t=>(decide (14≤t)&&decide (t<30))) (by decide) (by kernel_rfl) (by kernel_rfl) (by kernel_rfl) (by kernel_rfl) (by kernel_rfl) (fun _ _ _ _ _ h=>h) ?_ ?_
   ·intro i hi o listed a w hR K hK;have ho:=hR.at_;have hi:i<16:=hi;have hii:i=0∨i=1∨i=2∨i=3∨i=4∨i=5∨i=6∨i=7∨i=8∨i=9∨i=10∨i=11∨i=12∨i=13∨i=14∨i=15:=by omega
    rcases hii with rfl|rfl|rfl|rfl|rfl|rfl|rfl|rfl|rfl|rfl|rfl|rfl|rfl|rfl|rfl|rfl
    ·simp at ho;subst ho;have b2:a.tmps.getD 2 undef=.pointer (some ⟨ba,0,none⟩):=hR.b 2;refine pSq ?_;go_simp;exact hK _ _ rfl rB
    ·simp at ho;subst ho;have e0:a.tmps.getD 14 undef=.pointer (some ⟨ba,0,none⟩):=hR.t 0;obtain ⟨⟨cx0,cx1,cx2⟩,-⟩:=rwC (hpU hR.below HXA.out);refine pSq ?_;go_simp;exact hK _ _ rfl rB
    ·simp at ho;subst ho;have b3:a.tmps.getD 3 undef=.pointer (some ⟨bb,0,none⟩):=hR.b 3;refine pSq ?_;go_simp;exact hK _ _ rfl rB
    ·simp at ho;subst ho;have e2:a.tmps.getD 16 undef=.pointer (some ⟨bb,0,none⟩):=hR.t 2;obtain ⟨⟨cx0,cx1,cx2⟩,-⟩:=rwC (hpU hR.below HXB.out);refine pSq ?_;go_simp;exact hK _ _ rfl rB
    ·simp at ho;subst ho;have e1:a.tmps.getD 15 undef=.bool ra.neg:=hR.t 1;have e3:a.tmps.getD 17 undef=.bool rb.neg:=hR.t 3;refine pSq ?_;go_simp;exact hK _ _ rfl rB
    ·simp at ho;subst ho;have b2:a.tmps.getD 2 undef=.pointer (some ⟨ba,0,none⟩):=hR.b 2;refine pSq ?_;go_simp;exact hK _ _ rfl rB
    ·simp at ho;subst ho;have e5:a.tmps.getD 19 undef=.pointer (some ⟨ba,1,none⟩):=hR.t 5;obtain ⟨⟨cx0,cx1,cx2⟩,-⟩:=rwC (hpU hR.below HXA.out);refine pSq ?_;go_simp;exact hK _ _ rfl rB
    ·simp at ho;subst ho;have b3:a.tmps.getD 3 undef=.pointer (some ⟨bb,0,none⟩):=hR.b 3;refine pSq ?_;go_simp;exact hK _ _ rfl rB
    ·simp at ho;subst ho;have e7:a.tmps.getD 21 undef=.pointer (some ⟨bb,2,none⟩):=hR.t 7;obtain ⟨⟨cx0,cx1,cx2⟩,-⟩:=rwC (hpU hR.below HXB.out);refine pSq ?_;go_simp;exact hK _ _ rfl rB
    ·simp at ho;subst ho;have e6:a.tmps.getD 20 undef=.string (encS ra.num):=hR.t 6;have e8:a.tmps.getD 22 undef=.string (encS rb.den):=hR.t 8;refine pSq ?_;go_simp;refine (HN.out w).mono ?_;rintro e w' ⟨rfl,hb⟩;exact hK _ _ (rfl) hb
    ·simp at ho;subst ho;have b2:a.tmps.getD 2 undef=.pointer (some ⟨ba,0,none⟩):=hR.b 2;refine pSq ?_;go_simp;exact hK _ _ rfl rB
    ·simp at ho;subst ho;have e10:a.tmps.getD 24 undef=.pointer (some ⟨ba,2,none⟩):=hR.t 10;obtain ⟨⟨cx0,cx1,cx2⟩,-⟩:=rwC (hpU hR.below HXA.out);refine pSq ?_;go_simp;exact hK _ _ rfl rB
    ·simp at ho;subst ho;have b3:a.tmps.getD 3 undef=.pointer (some ⟨bb,0,none⟩):=hR.b 3;refine pSq ?_;go_simp;exact hK _ _ rfl rB
    ·simp at ho;subst ho;have e12:a.tmps.getD 26 undef=.pointer (some ⟨bb,1,none⟩):=hR.t 12;obtain ⟨⟨cx0,cx1,cx2⟩,-⟩:=rwC (hpU hR.below HXB.out);refine pSq ?_;go_simp;exact hK _ _ rfl rB
    ·simp at ho;subst ho;have e11:a.tmps.getD 25 undef=.string (encS ra.den):=hR.t 11;have e13:a.tmps.getD 27 undef=.string (encS rb.num):=hR.t 13;refine pSq ?_;go_simp;refine (HD.out w).mono ?_;rintro e w' ⟨rfl,hb⟩;exact hK _ _ (rfl) hb
    ·simp at ho;subst ho;have e4:a.tmps.getD 18 undef=.bool (ra.neg != rb.neg):=hR.t 4;have e9:a.tmps.getD 23 undef=.string (encS (ra.num*rb.den)):=hR.t 9;have e14:a.tmps.getD 28 undef=.string (encS (ra.den*rb.num)):=hR.t 14;refine pSq ?_;go_simp;refine (HL.out HNZ.out w).mono ?_;rintro e w' ⟨rfl,hb⟩;exact hK _ _ (rfl) hb
   ·intro s w hS hb;have e15:s 29=.agg #[.bool L.neg,.string (encS L.num),.string (encS L.den)]:=hS 15 (by decide);simp only [over,ovL,Nat.reduceAdd,Nat.reduceLeDiff,Nat.reduceLT];obtain ⟨⟨cz0,cz1,cz2⟩,hfz⟩:=rwC (hpU hb HXZ.out);have fz0:=hfz 0;have fz1:=hfz 1;have fz2:=hfz 2;refine tail_step (n:=1) rfl rfl ?_;go_simp;refine tail_step (n:=0) rfl rfl ?_;go_simp;simp only [wpTail];have hrow:=row_set (hpU hb HXZ.out) (.bool L.neg) (.string (encS L.num)) (.string (encS L.den));have hbw:=below_row (HB5.out.trans (hb.mono HB5.out.size)) (b:=bz) (by omega) (.bool L.neg) (.string (encS L.num)) (.string (encS L.den));have HROW:=hD hrow;have HBW:=hD hbw;clear hrow hbw hS hb cz0 cz1 cz2 hfz fz0 fz1 fz2;go_wp2_with fail;refine bodyPost_ret (rC2 HROW.out) rfl ?_;have hbwf:=HBW.out;rw [hba] at hbwf;first|exact ⟨rfl,HBW.out⟩|exact ⟨rfl,hbwf⟩|exact ⟨by rw [if_neg HNZ.out];rfl,HBW.out⟩
end Go.Proofs.YtblgfmjlajhipaaGreatDoor
