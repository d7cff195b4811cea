/- Contracts that the proofs of this seat share. Each theorem names its conditions. -/

import Derived.Test.YtblgfmjlajhipaaGreatDoorZc1
import Derived.Test.YtblgfmjlajhipaaGreatDoorZb5
set_option maxHeartbeats 16000000
set_option linter.unusedVariables false
namespace Go.Proofs.YtblgfmjlajhipaaGreatDoor
open Go.RowKit Go.Shelf
open Dgt
set_option maxRecDepth 100000 in
theorem Marginal_ok (nm:ByteArray) (um ud:Int) (v:Value) (m:List BT) (y:Rt) (hS:Sch m) (hy:y.Ok) (hf:fitT y=true) (wq:World) (hl:LstK wq v (m.map rawB)) :
  Gv 25 #[.agg #[.string nm,.int .i64 um,.int .i64 ud,v],.agg #[.bool y.neg,.string (encS y.num),.string (encS y.den)]] wq (.tuple #[.agg #[.bool (margT m y).neg,.string (encS (margT m y).num),.string (encS (margT m y).den)],.int .i64 0]):=by
 unfold Gv;have HLK:=hD hl;obtain ⟨gl,off,ca,hv,hca2,hla,hca⟩:=hl.openS hS.pos;have HAT:=hD hca;have HLA:=hD hla;have HSC:=hD hS;have HY:=hD (And.intro hy hf);have HYZ:=hD (fitT_sz hf);have HXS:=hD (rawR_sz ((fitT_sz hf).mono (show 50≤1100000 by decide)));have c1:=fun w h=>admit_any nm um ud v (m.map rawB) (rawR y) (hS.szk 1100000 (by decide)) HXS.out w (HLK.out.up h)
 rw [adm_of hS hy hf] at c1;have c2:=fun w h=>bracket_any nm um ud v (m.map rawB) (rawR y) (hS.szk 1100000 (by decide)) (ck_of hS) HXS.out w (HLK.out.up h)
 rw [valsB_raw hS,rawR_val hy] at c2;have c4:=fun w=>RatOf_any 0 w (by decide) (by decide)
 have HCN:=hD (show margT m y=if cntT m y=0 then ofR 0 else rtT m (cntT m y-1) from rfl);have HCL:Hid (cntT m y≤m.length∧m.length≤8):=hD ⟨cnt_leT,hS.le⟩;subst hv;clear hca hla hl hca2 hS hy hf;obtain ⟨cn,hcn⟩:∃c,cntT m y=c:=⟨_,rfl⟩;rw [hcn] at c2 HCN HCL;clear hcn;obtain ⟨z,hz⟩:∃z,margT m y=z:=⟨_,rfl⟩;rw [hz] at HCN ⊢;clear hz;have C1:Hid (∀w,Below wq.heap.size wq w→Gv 56 #[.agg #[.string nm,.int .i64 um,.int .i64 ud,.slice (some ⟨gl,off,none⟩) m.length ca],rtV y] w (.int .i64 0)):=hD fun w hp0=>c1 w hp0
 have C2:Hid (∀w,Below wq.heap.size wq w→Gv 57 #[.agg #[.string nm,.int .i64 um,.int .i64 ud,.slice (some ⟨gl,off,none⟩) m.length ca],rtV y] w (.int .i64 (cn:Int))):=hD fun w hp0=>c2 w hp0
 clear c1 c2;have HB:=hD (Below.refl wq.heap.size wq);obtain ⟨n0,hn0⟩:∃n,n=wq.heap.size:=⟨_,rfl⟩;rw [←hn0];have HN0:=hD hn0;clear hn0;go_enter Tryz.func25,Tryz.ntmps25;obtain ⟨W1,bk2,hW1,hbk2,HX2_1,HB,HG2_1,hup⟩:=boxn HB HN0 (.cells #[.string nm,.int .i64 um,.int .i64 ud,.slice (some ⟨gl,off,none⟩) m.length ca] 26);clear hup;obtain ⟨W2,bk3,hW2,hbk3,HX3_2,HB,HG3_2,hup⟩:=boxR HB HN0 y;have HL3_2:=(hup _ _ HX2_1).2;have HX2_1:=(hup _ _ HX2_1).1;clear hup;obtain ⟨W3,bk4,hW3,hbk4,HX4_3,HB,HG4_3,hup⟩:=boxZ HB HN0;have HL4_3:=(hup _ _ HX3_2).2;have HX2_1:=(hup _ _ HX2_1).1;have HX3_2:=(hup _ _ HX3_2).1;clear hup;have k4:W3.cell? ⟨bk2,0,none⟩=some (.string nm):=by rw [Lib.cell_of_heap HX2_1.out];rfl
 have k5:W3.cell? ⟨bk2,1,none⟩=some (.int .i64 um):=by rw [Lib.cell_of_heap HX2_1.out];rfl
 have k6:W3.cell? ⟨bk2,2,none⟩=some (.int .i64 ud):=by rw [Lib.cell_of_heap HX2_1.out];rfl
 have k7:W3.cell? ⟨bk2,3,none⟩=some (.slice (some ⟨gl,off,none⟩) m.length ca):=by rw [Lib.cell_of_heap HX2_1.out];rfl
 obtain ⟨k8a,k8b,k8c⟩:=c3 HX3_2;go_wp2_with fail;clear hW1 hbk2 hW2 hbk3 hW3 hbk4 k4 k5 k6 k7 k8a k8b k8c;refine (C1.out _ HB.out).mono ?_;rintro e w4 ⟨rfl,hb⟩;have HX2_1:=uH hb HX2_1;have HX3_2:=uH hb HX3_2;have HX4_3:=uH hb HX4_3;have HB:=mH HB hb;clear hb;have k9:w4.cell? ⟨bk2,0,none⟩=some (.string nm):=by rw [Lib.cell_of_heap HX2_1.out];rfl
 have k10:w4.cell? ⟨bk2,1,none⟩=some (.int .i64 um):=by rw [Lib.cell_of_heap HX2_1.out];rfl
 have k11:w4.cell? ⟨bk2,2,none⟩=some (.int .i64 ud):=by rw [Lib.cell_of_heap HX2_1.out];rfl
 have k12:w4.cell? ⟨bk2,3,none⟩=some (.slice (some ⟨gl,off,none⟩) m.length ca):=by rw [Lib.cell_of_heap HX2_1.out];rfl
 obtain ⟨k13a,k13b,k13c⟩:=c3 HX3_2;go_wp2_with fail;clear k9 k10 k11 k12 k13a k13b k13c;refine (C2.out _ HB.out).mono ?_;rintro e w5 ⟨rfl,hb⟩;have HX2_1:=uH hb HX2_1;have HX3_2:=uH hb HX3_2;have HX4_3:=uH hb HX4_3;have HB:=mH HB hb;clear hb
 by_cases hc0:cn=0
 ·subst hc0;have hA:z=ofR 0:=by rw [HCN.out,if_pos rfl]
  rw [←hA] at c4;clear hA HCN;have C3:Hid (∀w,Gv 58 #[.int .i64 0] w (.agg #[.bool z.neg,.string (encS z.num),.string (encS z.den)])):=hD c4;clear c4;go_wp2_with fail;refine (C3.out _).mono ?_;rintro e w6 ⟨rfl,hb⟩;have HX2_1:=uH hb HX2_1;have HX3_2:=uH hb HX3_2;have HX4_3:=uH hb HX4_3;have HB:=mH HB hb;clear hb;obtain ⟨W7,hW7,HX4_3,HB,ho,f14a,f14b,f14c,k14a,k14b,k14c⟩:=putR HX4_3 HB HN0 HG4_3 z;have HX2_1:=ho _ _ (en2 HL3_2 HL4_3) HX2_1;have HX3_2:=ho _ _ (en1 HL4_3) HX3_2;clear ho;go_wp2_with fail;clear f14a f14b f14c k14a k14b k14c hW7;refine bodyPost_ret (rC2 HX4_3.out) rfl ?_;exact ⟨rfl,by rw [HN0.out];exact HB.out⟩
 ·obtain ⟨j,hj⟩:=Nat.exists_eq_succ_of_ne_zero hc0;have HJ:Hid (IntKind.i64.wrap ((cn:Int)-1)=(j:Int)∧(j:Int)<(m.length:Int)∧0<cn∧j<m.length):=hD ⟨by rw [IntWalk.i64_in _ (by have:=HCL.out;omega)];omega,by have:=HCL.out;omega,by omega,by have:=HCL.out;omega⟩;have hA:rtT m j=z:=by rw [HCN.out,if_neg hc0,show cn-1=j by omega]
  have HE:=hD (HAT.out j HJ.out.2.2.2);obtain ⟨fr,h1⟩:∃a,frT m j=a:=⟨_,rfl⟩;rw [h1,hA] at HE;clear h1 hA hc0 hj c4;have hj1:=HJ.out.1;have hj3:=HJ.out.2.2.1;have hj2:=HJ.out.2.1;have k15:w5.cell? ⟨bk2,3,none⟩=some (.slice (some ⟨gl,off,none⟩) m.length ca):=by rw [Lib.cell_of_heap HX2_1.out];rfl
  obtain ⟨k16e0,k16e1,k16e2,k16e3,k16e4,k16e5⟩:=HE.out _ HB.out;obtain ⟨W8,hW8,HX4_3,HB,ho,f17a,f17b,f17c,k17a,k17b,k17c⟩:=putR HX4_3 HB HN0 HG4_3 z;have HX2_1:=ho _ _ (en2 HL3_2 HL4_3) HX2_1;have HX3_2:=ho _ _ (en1 HL4_3) HX3_2;clear ho;go_wp2_with fail;clear hj1 hj3 hj2 k15 k16e0 k16e1 k16e2 k16e3 k16e4 k16e5 f17a f17b f17c k17a k17b k17c hW8;refine bodyPost_ret (rC2 HX4_3.out) rfl ?_;exact ⟨rfl,by rw [HN0.out];exact HB.out⟩
theorem At_any (nm:ByteArray) (um ud:Int) (v:Value) (l:List Bk) (x:Rw) (hz:SzK l 1100000) (hx:x.n.size≤1100000∧x.d.size≤1100000) (wq:World) (hl:LstK wq v l) :
  Gv 21 #[.agg #[.string nm,.int .i64 um,.int .i64 ud,v],.agg #[.bool x.neg,.string x.n,.string x.d]] wq (.tuple #[.agg #[.bool (atV l x).1.neg,.string (atV l x).1.n,.string (atV l x).1.d],.int .i64 (atV l x).2]):=by
 unfold Gv
 by_cases h0:admV l x=0
 ·obtain ⟨hS,hm,hy,hf,hr⟩:=adm_ok h0;obtain ⟨m,e⟩:∃m,valsB l=m:=⟨_,rfl⟩;rw [e] at hS hm;obtain ⟨y,e2⟩:∃y,x.val=y:=⟨_,rfl⟩;rw [e2] at hy hf hr;subst hm;subst hr;rw [atV_of hS hy hf];exact At_ok nm um ud v m y hS hy hf wq hl
 ·rw [atV_adm,if_neg h0];exact At_no nm um ud v l x hz hx h0 wq hl
theorem Marginal_any (nm:ByteArray) (um ud:Int) (v:Value) (l:List Bk) (x:Rw) (hz:SzK l 1100000) (hx:x.n.size≤1100000∧x.d.size≤1100000) (wq:World) (hl:LstK wq v l) :
  Gv 25 #[.agg #[.string nm,.int .i64 um,.int .i64 ud,v],.agg #[.bool x.neg,.string x.n,.string x.d]] wq (.tuple #[.agg #[.bool (margV l x).1.neg,.string (margV l x).1.n,.string (margV l x).1.d],.int .i64 (margV l x).2]):=by
 unfold Gv
 by_cases h0:admV l x=0
 ·obtain ⟨hS,hm,hy,hf,hr⟩:=adm_ok h0;obtain ⟨m,e⟩:∃m,valsB l=m:=⟨_,rfl⟩;rw [e] at hS hm;obtain ⟨y,e2⟩:∃y,x.val=y:=⟨_,rfl⟩;rw [e2] at hy hf hr;subst hm;subst hr;rw [margV_of hS hy hf];exact Marginal_ok nm um ud v m y hS hy hf wq hl
 ·unfold margV;rw [if_neg h0];exact Marginal_no nm um ud v l x hz hx h0 wq hl
end Go.Proofs.YtblgfmjlajhipaaGreatDoor
