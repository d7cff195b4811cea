/- MoneyRounds: for every input the law returns true, and each argument reads afterwards as it read before; the listed tables read as the program lays them (the tied card). -/

import Derived.Test.YtabfjecegpaoaaaGreatDoorK3a1
import Derived.Test.YtabfjecegpaoaaaGreatDoorZb5
set_option maxHeartbeats 16000000
set_option linter.unusedVariables false
namespace Go.Proofs.YtabfjecegpaoaaaGreatDoor
open Go.RowKit Go.Shelf
open Dgt
theorem tmod_lt0 {a m:Int} (hm:0<m) (h:a.tmod m<0):a.tmod m+m=a%m:=by
 have h1:=Int.tmod_add_mul_tdiv a m;have h2:=Int.emod_add_mul_ediv a m;have h3:=Int.emod_nonneg a (show m≠0 by omega);have h4:=Int.emod_lt_of_pos a hm;have h5:=Int.tmod_lt_of_pos a hm;have h6: -m<a.tmod m:=by
  have:=Int.lt_tmod_of_pos a hm;omega
 have h7:m*(a.tdiv m-a/m)=a%m-a.tmod m:=by rw [Int.mul_sub];omega
 have h8:a.tdiv m-a/m=1:=by
  rcases Int.lt_trichotomy (a.tdiv m-a/m) 1 with h|h|h
  ·have:m*(a.tdiv m-a/m)≤m*0:=Int.mul_le_mul_of_nonneg_left (by omega) (by omega);omega
  ·exact h
  ·have:m*2≤m*(a.tdiv m-a/m):=Int.mul_le_mul_of_nonneg_left (by omega) (by omega);omega
 rw [h8] at h7;omega
theorem tmod_ge0 {a m:Int} (hm:0<m) (h:¬a.tmod m<0):a.tmod m=a%m:=by
 have h1:=Int.tmod_add_mul_tdiv a m;have h2:=Int.emod_add_mul_ediv a m;have h3:=Int.emod_nonneg a (show m≠0 by omega);have h4:=Int.emod_lt_of_pos a hm;have h5:=Int.tmod_lt_of_pos a hm;have h7:m*(a.tdiv m-a/m)=a%m-a.tmod m:=by rw [Int.mul_sub];omega
 have h8:a.tdiv m-a/m=0:=by
  rcases Int.lt_trichotomy (a.tdiv m-a/m) 0 with h|h|h
  ·have:m*(a.tdiv m-a/m)≤m*(-1):=Int.mul_le_mul_of_nonneg_left (by omega) (by omega);omega
  ·exact h
  ·have:m*1≤m*(a.tdiv m-a/m):=Int.mul_le_mul_of_nonneg_left (by omega) (by omega);omega
 rw [h8] at h7;omega
theorem Mod_any (a m:Int) (w:World) (ha: -9223372036854775808≤a) (ha2:a≤9223372036854775807) (hm:0<m) (hm2:m≤4611686018427387904) :
  Calls Tryz.prog 41 #[.int .i64 a,.int .i64 m] w fun e w' =>∃r:Nat,e=.returned (.int .i64 (r:Int))∧(r:Int)=a%m∧(r:Int)<m∧w=w' :=by
 obtain ⟨t,ht⟩:∃t,a.tmod m=t:=⟨_,rfl⟩;have h5:=Int.tmod_lt_of_pos a hm;have h6:=Int.lt_tmod_of_pos a hm;have h4:=Int.emod_lt_of_pos a hm;have h3:=Int.emod_nonneg a (show m≠0 by omega);rw [ht] at h5 h6;obtain ⟨r,hr⟩:∃r:Nat,a%m=(r:Int):=⟨(a%m).toNat,by omega⟩;have q0:¬m=0:=by omega
 have q1:IntKind.i64.wrap t=t:=IntWalk.i64_in _ (by omega)
 by_cases h:t<0
 ·have hq:=tmod_lt0 hm (by rw [ht];exact h);rw [ht,hr] at hq;have q2:IntKind.i64.wrap (t+m)=(r:Int):=by rw [hq];exact IntWalk.i64_in _ (by omega)
  have HR:Hid ((r:Int)=a%m∧(r:Int)<m):=hD ⟨hr.symm,by omega⟩;clear h3 h4 h5 h6 hr ha ha2;go_enter Tryz.func41,Tryz.ntmps41;go_wp2_with fail;go_ret;exact ⟨r,by first|rfl|(simp [hq]),HR.out.1,HR.out.2,rfl⟩
 ·have hq:=tmod_ge0 hm (by rw [ht];exact h);rw [ht,hr] at hq;have HR:Hid ((r:Int)=a%m∧(r:Int)<m):=hD ⟨hr.symm,by omega⟩;clear h3 h4 h5 h6 hr ha ha2;go_enter Tryz.func41,Tryz.ntmps41;go_wp2_with fail;go_ret;exact ⟨r,by first|rfl|(simp [hq]),HR.out.1,HR.out.2,rfl⟩
theorem Mod_f (a m:Int) (x:Nat) (hx:(a%m).toNat=x) (w:World) (ha: -9223372036854775808≤a) (ha2:a≤9223372036854775807) (hm:0<m) (hm2:m≤4611686018427387904) :
  Calls Tryz.prog 41 #[.int .i64 a,.int .i64 m] w fun e w' =>e=.returned (.int .i64 (x:Int))∧w=w' :=by
 refine (Mod_any a m w ha ha2 hm hm2).mono ?_;rintro e w' ⟨r,rfl,h1,h2,rfl⟩;exact ⟨by rw [show (x:Int)=(r:Int) by omega],rfl⟩
theorem rOf_f (x:Nat) (w:World) (hx:(x:Int)<9223372036854775808):Gv 40 #[.int .i64 (x:Int)] w (.string (encS x)):=by
 unfold Gv;have h:=rOf_any (x:Int) w hx
 rwa [Int.toNat_natCast] at h
def EM8 (bq:Nat) (q0 q1:Int) (A B:Nat):Nat→Value
 | 0=>.pointer (some ⟨bq,0,none⟩)
 | 1=>.int .i64 q0
 | 2=>.int .i64 (A:Int)
 | 3=>.string (encS A)
 | 4=>.pointer (some ⟨bq,1,none⟩)
 | 5=>.int .i64 q1
 | 6=>.int .i64 (B:Int)
 | 7=>.string (encS B)
 | 8=>.string (encS (A*B))
 | 9=>.string (encS (A*B))
 | _=>undef
def EM9 (bq:Nat) (q0 q1:Int) (B C B1 C1:Nat):Nat→Value
 | 0=>.pointer (some ⟨bq,1,none⟩)
 | 1=>.int .i64 q1
 | 2=>.int .i64 (B:Int)
 | 3=>.int .i64 (B1:Int)
 | 4=>.string (encS B1)
 | 5=>.pointer (some ⟨bq,0,none⟩)
 | 6=>.int .i64 q0
 | 7=>.int .i64 (C:Int)
 | 8=>.int .i64 (C1:Int)
 | 9=>.string (encS C1)
 | 10=>.string (encS (B1*C1))
 | 11=>.string (encS (B1*C1))
 | _=>undef
set_option maxRecDepth 100000 in
theorem Made_r (q0 q1 q2:Int) (wq:World) (r0: -9223372036854775808≤q0∧q0≤9223372036854775807) (r1: -9223372036854775808≤q1∧q1≤9223372036854775807) (r2: -9223372036854775808≤q2∧q2≤9223372036854775807) :
  Calls Tryz.prog 12 #[.agg #[.int .i64 q0,.int .i64 q1,.int .i64 q2]] wq fun e w' =>∃m:Rt,e=.returned (rtV m)∧m.Ok∧Rz m 32∧Below wq.heap.size wq w' :=by
 obtain ⟨m1,hm1⟩:∃x,(q0%1000).toNat=x:=⟨_,rfl⟩;have lm1:=mod_lt _ _ _ hm1 (by decide);have HM1:=hD (fun w=>Mod_f q0 1000 m1 hm1 w (by omega) (by omega) (by decide) (by decide));obtain ⟨m2,hm2⟩:∃x,(q1%60).toNat=x:=⟨_,rfl⟩;have lm2:=mod_lt _ _ _ hm2 (by decide);have HM2:=hD (fun w=>Mod_f q1 60 m2 hm2 w (by omega) (by omega) (by decide) (by decide));obtain ⟨c,hc⟩:∃x,(q2%4).toNat=x:=⟨_,rfl⟩;have lc:=mod_lt _ _ _ hc (by decide);have HMK:=hD (fun w=>Mod_f q2 4 c hc w (by omega) (by omega) (by decide) (by decide));obtain ⟨A,hA⟩:∃x,(q0%4611686018427387904).toNat=x:=⟨_,rfl⟩;have lA:=mod_lt _ _ _ hA (by decide);have HMA:=hD (fun w=>Mod_f q0 4611686018427387904 A hA w (by omega) (by omega) (by decide) (by decide));obtain ⟨B,hB⟩:∃x,(q1%4611686018427387904).toNat=x:=⟨_,rfl⟩;have lB:=mod_lt _ _ _ hB (by decide)
 have HMB:=hD (fun w=>Mod_f q1 4611686018427387904 B hB w (by omega) (by omega) (by decide) (by decide));obtain ⟨C,hC⟩:∃x,(q0%2147483648).toNat=x:=⟨_,rfl⟩;have lC:=mod_lt _ _ _ hC (by decide);have HMC:=hD (fun w=>Mod_f q0 2147483648 C hC w (by omega) (by omega) (by decide) (by decide));obtain ⟨F,hF⟩:∃x,(q0%7).toNat=x:=⟨_,rfl⟩;have lF:=mod_lt _ _ _ hF (by decide);have HMF:=hD (fun w=>Mod_f q0 7 F hF w (by omega) (by omega) (by decide) (by decide));obtain ⟨G,hG⟩:∃x,(q1%7).toNat=x:=⟨_,rfl⟩;have lG:=mod_lt _ _ _ hG (by decide);have HMG:=hD (fun w=>Mod_f q1 7 G hG w (by omega) (by omega) (by decide) (by decide));obtain ⟨n2,hn2⟩:∃n,1+m2=n:=⟨_,rfl⟩;obtain ⟨B1,hB1⟩:∃n,1+B=n:=⟨_,rfl⟩;obtain ⟨C1,hC1⟩:∃n,1+C=n:=⟨_,rfl⟩;obtain ⟨G1,hG1⟩:∃n,1+G=n:=⟨_,rfl⟩;have HO1:=hD (fun w=>rOf_f m1 w (by omega));have HO2:=hD (fun w=>rOf_f n2 w (by omega))
 have HOA:=hD (fun w=>rOf_f A w (by omega));have HOB:=hD (fun w=>rOf_f B w (by omega));have HOB1:=hD (fun w=>rOf_f B1 w (by omega));have HOC1:=hD (fun w=>rOf_f C1 w (by omega));have HOF:=hD (fun w=>rOf_f F w (by omega));have HOG:=hD (fun w=>rOf_f G1 w (by omega));have zA:Sz A 8:=Nat.lt_of_lt_of_le (show A<4611686018427387904 by omega) (by decide);have zB:Sz B 8:=Nat.lt_of_lt_of_le (show B<4611686018427387904 by omega) (by decide);have zB1:Sz B1 8:=Nat.lt_of_lt_of_le (show B1<4611686018427387905 by omega) (by decide);have zC1:Sz C1 8:=Nat.lt_of_lt_of_le (show C1<2147483649 by omega) (by decide);have zm1:Sz m1 8:=Nat.lt_of_lt_of_le (show m1<1000 by omega) (by decide);have zm2:Sz n2 8:=Nat.lt_of_lt_of_le (show n2<61 by omega) (by decide);have zF:Sz F 8:=Nat.lt_of_lt_of_le (show F<7 by omega) (by decide);have zG:Sz G1 8:=Nat.lt_of_lt_of_le (show G1<8 by omega) (by decide)
 have HAB:=hD (fun w=>rMul_any (encS A) (encS B) w (Nat.le_trans (encS_size_lt zA) (by decide)) (Nat.le_trans (encS_size_lt zB) (by decide)));have HBC:=hD (fun w=>rMul_any (encS B1) (encS C1) w (Nat.le_trans (encS_size_lt zB1) (by decide)) (Nat.le_trans (encS_size_lt zC1) (by decide)));simp only [numS_encS] at HAB HBC;have ZZ:Hid ((Sz A 8∧Sz B1 8)∧(Sz (A*B) 16∧Sz (B1*C1) 16)∧(Sz F 8∧Sz G1 8)∧(Sz m1 8∧Sz n2 8)):=hD ⟨⟨zA,zB1⟩,⟨zA.mul zB,zB1.mul zC1⟩,⟨zF,zG⟩,⟨zm1,zm2⟩⟩;have p2:(m2:Int)<60:=lm2;have pB:(B:Int)<4611686018427387904:=lB;have pC:(C:Int)<2147483648:=lC;have pG:(G:Int)<7:=lG;have e2:(1:Int)+(m2:Int)=(n2:Int):=by omega
 have eB:(1:Int)+(B:Int)=(B1:Int):=by omega
 have eC:(1:Int)+(C:Int)=(C1:Int):=by omega
 have eG:(1:Int)+(G:Int)=(G1:Int):=by omega
 have wB1:IntKind.i64.wrap (B1:Int)=(B1:Int):=by rw [IntKind.wrap_i64];omega
 have wC1:IntKind.i64.wrap (C1:Int)=(C1:Int):=by rw [IntKind.wrap_i64];omega
 have wG1:IntKind.i64.wrap (G1:Int)=(G1:Int):=by rw [IntKind.wrap_i64];omega
 have wn2:IntKind.i64.wrap (n2:Int)=(n2:Int):=by rw [IntKind.wrap_i64];omega
 have HPOS:Hid (0<n2∧0<B1∧0<C1∧0<G1):=hD (by omega);have HC4:Hid (c=0∨c=1∨c=2∨c=3):=hD (by omega);clear hm1 hm2 hc hA hB hC hF hG lm1 lm2 lc lA lB lC lF lG zA zB zB1 zC1 zm1 zm2 zF zG r0 r1 r2 hn2 hB1 hC1 hG1;obtain ⟨W3,hW3,hxq,hxz,hb3⟩:=boxes2 wq (.cells #[.int .i64 q0,.int .i64 q1,.int .i64 q2] 22) (.cells #[.bool false,.string ⟨#[]⟩,.string ⟨#[]⟩] 26);obtain ⟨⟨cq0,cq1,cq2⟩,-⟩:=rwC hxq;have HXQ:=hD hxq;have HXZ:=hD hxz;have HB:=hD hb3;clear hxq hxz hb3;go_enter Tryz.func12,Tryz.ntmps12;go_wp2_with fail;refine (HM1.out _).mono ?_;rintro e wm ⟨rfl,rfl⟩;go_wp2_with fail;refine (HO1.out _).mono ?_;rintro e wo ⟨rfl,hb⟩;have HXQ:=uH hb HXQ;have HXZ:=uH hb HXZ;have HB:=mH HB hb;clear hb cq0 cq1 cq2;obtain ⟨⟨cq0,cq1,cq2⟩,-⟩:=rwC HXQ.out;go_wp2_with fail;refine (HM2.out _).mono ?_;rintro e wm ⟨rfl,rfl⟩;go_wp2_with fail;refine (HO2.out _).mono ?_;rintro e wo ⟨rfl,hb⟩
 have HXQ:=uH hb HXQ;have HXZ:=uH hb HXZ;have HB:=mH HB hb;clear hb cq0 cq1 cq2;obtain ⟨⟨cq0,cq1,cq2⟩,-⟩:=rwC HXQ.out;go_wp2_with fail;refine (HMK.out _).mono ?_;rintro e wm ⟨rfl,rfl⟩;rcases HC4.out with rfl|rfl|rfl|rfl
 ·have HLO:=hD (fun w=>rlowest_n (decide (q0<0)) m1 n2 w (by first|exact HPOS.out.1|exact HPOS.out.2.1|exact HPOS.out.2.2.2|exact Nat.mul_pos HPOS.out.2.1 HPOS.out.2.2.1) (ZZ.out.2.2.2.1.mono (by decide)) (ZZ.out.2.2.2.2.mono (by decide)));obtain ⟨L,hL⟩:∃L,low (decide (q0<0)) m1 n2=L:=⟨_,rfl⟩;rw [hL] at HLO;have HOK:Hid (L.Ok∧Rz L 32):=hD (by rw [←hL];exact ⟨low_ok _ (by first|exact HPOS.out.1|exact HPOS.out.2.1|exact HPOS.out.2.2.2|exact Nat.mul_pos HPOS.out.2.1 HPOS.out.2.2.1),low_sz (ZZ.out.2.2.2.1.mono (by decide)) (ZZ.out.2.2.2.2.mono (by decide))⟩);clear hL;go_wp2_with fail;refine (HLO.out _).mono ?_;rintro e wl ⟨rfl,hb⟩;unfold rtV;have hxz:=hpU hb HXZ.out;have hbl:=HB.out.trans (hb.mono HB.out.size);obtain ⟨⟨cz0,cz1,cz2⟩,hfz⟩:=rwC hxz;have fz0:=hfz 0;have fz1:=hfz 1;have fz2:=hfz 2;have HROW:=hD (row_set hxz (.bool L.neg) (.string (encS L.num)) (.string (encS L.den)))
  have HBW:=hD (below_row hbl (b:=wq.heap.size+1) (by omega) (.bool L.neg) (.string (encS L.num)) (.string (encS L.den)));clear hb hxz hbl hfz cq0 cq1 cq2;go_wp2_with fail;refine bodyPost_ret (results_cell_row rfl _ _ (wq.heap.size+1) 26 _ (0,0) _ rfl HROW.out Tryz.underlying26 rfl (by kernel_rfl)) rfl ?_;exact ⟨L,rfl,HOK.out.1,HOK.out.2,HBW.out⟩
 ·have HLO:=hD (fun w=>rlowest_n (decide (q0<0)) A B1 w (by first|exact HPOS.out.1|exact HPOS.out.2.1|exact HPOS.out.2.2.2|exact Nat.mul_pos HPOS.out.2.1 HPOS.out.2.2.1) (ZZ.out.1.1.mono (by decide)) (ZZ.out.1.2.mono (by decide)));obtain ⟨L,hL⟩:∃L,low (decide (q0<0)) A B1=L:=⟨_,rfl⟩;rw [hL] at HLO;have HOK:Hid (L.Ok∧Rz L 32):=hD (by rw [←hL];exact ⟨low_ok _ (by first|exact HPOS.out.1|exact HPOS.out.2.1|exact HPOS.out.2.2.2|exact Nat.mul_pos HPOS.out.2.1 HPOS.out.2.2.1),low_sz (ZZ.out.1.1.mono (by decide)) (ZZ.out.1.2.mono (by decide))⟩);clear hL;go_wp2_with fail;refine (HMA.out _).mono ?_;rintro e wm ⟨rfl,rfl⟩;go_wp2_with fail;refine (HOA.out _).mono ?_;rintro e wo ⟨rfl,hb⟩;have HXQ:=uH hb HXQ;have HXZ:=uH hb HXZ;have HB:=mH HB hb;clear hb cq0 cq1 cq2;obtain ⟨⟨cq0,cq1,cq2⟩,-⟩:=rwC HXQ.out;go_wp2_with fail;refine (HMB.out _).mono ?_;rintro e wm ⟨rfl,rfl⟩;go_wp2_with fail
  refine (HOB1.out _).mono ?_;rintro e wo ⟨rfl,hb⟩;have HXQ:=uH hb HXQ;have HXZ:=uH hb HXZ;have HB:=mH HB hb;clear hb cq0 cq1 cq2;obtain ⟨⟨cq0,cq1,cq2⟩,-⟩:=rwC HXQ.out;go_wp2_with fail;refine (HLO.out _).mono ?_;rintro e wl ⟨rfl,hb⟩;unfold rtV;have hxz:=hpU hb HXZ.out;have hbl:=HB.out.trans (hb.mono HB.out.size);obtain ⟨⟨cz0,cz1,cz2⟩,hfz⟩:=rwC hxz;have fz0:=hfz 0;have fz1:=hfz 1;have fz2:=hfz 2;have HROW:=hD (row_set hxz (.bool L.neg) (.string (encS L.num)) (.string (encS L.den)));have HBW:=hD (below_row hbl (b:=wq.heap.size+1) (by omega) (.bool L.neg) (.string (encS L.num)) (.string (encS L.den)));clear hb hxz hbl hfz cq0 cq1 cq2;go_wp2_with fail;refine bodyPost_ret (results_cell_row rfl _ _ (wq.heap.size+1) 26 _ (0,0) _ rfl HROW.out Tryz.underlying26 rfl (by kernel_rfl)) rfl ?_;exact ⟨L,rfl,HOK.out.1,HOK.out.2,HBW.out⟩
 ·have HLO:=hD (fun w=>rlowest_n (decide (q0<0)) (A*B) (B1*C1) w (by first|exact HPOS.out.1|exact HPOS.out.2.1|exact HPOS.out.2.2.2|exact Nat.mul_pos HPOS.out.2.1 HPOS.out.2.2.1) (ZZ.out.2.1.1.mono (by decide)) (ZZ.out.2.1.2.mono (by decide)));obtain ⟨L,hL⟩:∃L,low (decide (q0<0)) (A*B) (B1*C1)=L:=⟨_,rfl⟩;rw [hL] at HLO;have HOK:Hid (L.Ok∧Rz L 32):=hD (by rw [←hL];exact ⟨low_ok _ (by first|exact HPOS.out.1|exact HPOS.out.2.1|exact HPOS.out.2.2.2|exact Nat.mul_pos HPOS.out.2.1 HPOS.out.2.2.1),low_sz (ZZ.out.2.1.1.mono (by decide)) (ZZ.out.2.1.2.mono (by decide))⟩);clear hL;go_wp2_with fail;obtain ⟨bq,hbq⟩:∃b,wq.heap.size=b:=⟨_,rfl⟩;rw [hbq] at HXQ cq0 cq1 cq2 ⊢;refine wpVl (w:=_) (by kernel_rfl) (fun ix v _=>v=EM8 bq q0 q1 A B ix) (fun t=>(decide (3≤t)&&decide (t<4))||(decide (30≤t)&&decide (t<39))) (by kernel_rfl) (by kernel_rfl) (by kernel_rfl) (fun _ _ _ _ _ h=>h) ?_ ?_
  ·intro i hi o listed a w hR K hK;have ho:=hR.at_;have hi:i<10:=hi;have hii:i=0∨i=1∨i=2∨i=3∨i=4∨i=5∨i=6∨i=7∨i=8∨i=9:=by omega
   rcases hii with rfl|rfl|rfl|rfl|rfl|rfl|rfl|rfl|rfl|rfl
   ·simp at ho;subst ho;have b1:a.tmps.getD 1 undef=.pointer (some ⟨bq,0,none⟩):=hR.b 1;refine pSq ?_;go_simp;exact hK _ _ rfl rB
   ·simp at ho;subst ho;have e0:a.tmps.getD 30 undef=.pointer (some ⟨bq,0,none⟩):=hR.d 0;obtain ⟨⟨cx0,cx1,cx2⟩,-⟩:=rwC (hpU hR.below HXQ.out);refine pSq ?_;go_simp;exact hK _ _ rfl rB
   ·simp at ho;subst ho;have e1:a.tmps.getD 31 undef=.int .i64 q0:=hR.d 1;refine pSq ?_;go_simp;refine (HMA.out w).mono ?_;rintro e w' ⟨rfl,rfl⟩;exact hK _ _ rfl rB
   ·simp at ho;subst ho;have e2:a.tmps.getD 32 undef=.int .i64 (A:Int):=hR.d 2;refine pSq ?_;go_simp;refine (HOA.out w).mono ?_;rintro e w' ⟨rfl,hb⟩;exact hK _ _ (rfl) hb
   ·simp at ho;subst ho;have b1:a.tmps.getD 1 undef=.pointer (some ⟨bq,0,none⟩):=hR.b 1;refine pSq ?_;go_simp;exact hK _ _ rfl rB
   ·simp at ho;subst ho;have e4:a.tmps.getD 34 undef=.pointer (some ⟨bq,1,none⟩):=hR.d 4;obtain ⟨⟨cx0,cx1,cx2⟩,-⟩:=rwC (hpU hR.below HXQ.out);refine pSq ?_;go_simp;exact hK _ _ rfl rB
   ·simp at ho;subst ho;have e5:a.tmps.getD 35 undef=.int .i64 q1:=hR.d 5;refine pSq ?_;go_simp;refine (HMB.out w).mono ?_;rintro e w' ⟨rfl,rfl⟩;exact hK _ _ rfl rB
   ·simp at ho;subst ho;have e6:a.tmps.getD 36 undef=.int .i64 (B:Int):=hR.d 6;refine pSq ?_;go_simp;refine (HOB.out w).mono ?_;rintro e w' ⟨rfl,hb⟩;exact hK _ _ (rfl) hb
   ·simp at ho;subst ho;have e3:a.tmps.getD 33 undef=.string (encS A):=hR.d 3;have e7:a.tmps.getD 37 undef=.string (encS B):=hR.d 7;refine pSq ?_;go_simp;refine (HAB.out w).mono ?_;rintro e w' ⟨rfl,hb⟩;exact hK _ _ (rfl) hb
   ·simp at ho;subst ho;have e8:a.tmps.getD 38 undef=.string (encS (A*B)):=hR.d 8;refine pSq ?_;go_simp;exact hK _ _ rfl rB
  ·intro s w hS hb;have e9:s 3=.string (encS (A*B)):=hS 9 (by decide);simp only [over,ovL,Nat.reduceAdd,Nat.reduceLeDiff,Nat.reduceLT];have HXQ8:=uH hb HXQ;have HXZ8:=uH hb HXZ;have HB8:=mH HB hb;rw [e9];clear hS hb e9 cq0 cq1 cq2 HXQ HXZ HB;have HXQ:=HXQ8;have HXZ:=HXZ8;have HB:=HB8;clear HXQ8 HXZ8 HB8;go_wp2_with fail;refine wpVl (w:=_) (by kernel_rfl) (fun ix v _=>v=EM9 bq q0 q1 B C B1 C1 ix) (fun t=>(decide (4≤t)&&decide (t<5))||(decide (39≤t)&&decide (t<50))) (by kernel_rfl) (by kernel_rfl) (by kernel_rfl) (fun _ _ _ _ _ h=>h) ?_ ?_
   ·intro i hi o listed a w hR K hK;have ho:=hR.at_;have hi:i<12:=hi;have hii:i=0∨i=1∨i=2∨i=3∨i=4∨i=5∨i=6∨i=7∨i=8∨i=9∨i=10∨i=11:=by omega
    rcases hii with rfl|rfl|rfl|rfl|rfl|rfl|rfl|rfl|rfl|rfl|rfl|rfl
    ·simp at ho;subst ho;have b1:a.tmps.getD 1 undef=.pointer (some ⟨bq,0,none⟩):=hR.b 1;refine pSq ?_;go_simp;exact hK _ _ rfl rB
    ·simp at ho;subst ho;have e0:a.tmps.getD 39 undef=.pointer (some ⟨bq,1,none⟩):=hR.d 0;obtain ⟨⟨cx0,cx1,cx2⟩,-⟩:=rwC (hpU hR.below HXQ.out);refine pSq ?_;go_simp;exact hK _ _ rfl rB
    ·simp at ho;subst ho;have e1:a.tmps.getD 40 undef=.int .i64 q1:=hR.d 1;refine pSq ?_;go_simp;refine (HMB.out w).mono ?_;rintro e w' ⟨rfl,rfl⟩;exact hK _ _ rfl rB
    ·simp at ho;subst ho;have e2:a.tmps.getD 41 undef=.int .i64 (B:Int):=hR.d 2;refine pSq ?_;go_simp;exact hK _ _ rfl rB
    ·simp at ho;subst ho;have e3:a.tmps.getD 42 undef=.int .i64 (B1:Int):=hR.d 3;refine pSq ?_;go_simp;refine (HOB1.out w).mono ?_;rintro e w' ⟨rfl,hb⟩;exact hK _ _ (rfl) hb
    ·simp at ho;subst ho;have b1:a.tmps.getD 1 undef=.pointer (some ⟨bq,0,none⟩):=hR.b 1;refine pSq ?_;go_simp;exact hK _ _ rfl rB
    ·simp at ho;subst ho;have e5:a.tmps.getD 44 undef=.pointer (some ⟨bq,0,none⟩):=hR.d 5;obtain ⟨⟨cx0,cx1,cx2⟩,-⟩:=rwC (hpU hR.below HXQ.out);refine pSq ?_;go_simp;exact hK _ _ rfl rB
    ·simp at ho;subst ho;have e6:a.tmps.getD 45 undef=.int .i64 q0:=hR.d 6;refine pSq ?_;go_simp;refine (HMC.out w).mono ?_;rintro e w' ⟨rfl,rfl⟩;exact hK _ _ rfl rB
    ·simp at ho;subst ho;have e7:a.tmps.getD 46 undef=.int .i64 (C:Int):=hR.d 7;refine pSq ?_;go_simp;exact hK _ _ rfl rB
    ·simp at ho;subst ho;have e8:a.tmps.getD 47 undef=.int .i64 (C1:Int):=hR.d 8;refine pSq ?_;go_simp;refine (HOC1.out w).mono ?_;rintro e w' ⟨rfl,hb⟩;exact hK _ _ (rfl) hb
    ·simp at ho;subst ho;have e4:a.tmps.getD 43 undef=.string (encS B1):=hR.d 4;have e9:a.tmps.getD 48 undef=.string (encS C1):=hR.d 9;refine pSq ?_;go_simp;refine (HBC.out w).mono ?_;rintro e w' ⟨rfl,hb⟩;exact hK _ _ (rfl) hb
    ·simp at ho;subst ho;have e10:a.tmps.getD 49 undef=.string (encS (B1*C1)):=hR.d 10;refine pSq ?_;go_simp;exact hK _ _ rfl rB
   ·intro s w hS hb;have e11:s 4=.string (encS (B1*C1)):=hS 11 (by decide);simp only [over,ovL,Nat.reduceAdd,Nat.reduceLeDiff,Nat.reduceLT];have HXQ8:=uH hb HXQ;have HXZ8:=uH hb HXZ;have HB8:=mH HB hb;rw [e11];clear hS hb e11 HXQ HXZ HB;have HXQ:=HXQ8;have HXZ:=HXZ8;have HB:=HB8;clear HXQ8 HXZ8 HB8;subst hbq;obtain ⟨⟨cq0,cq1,cq2⟩,-⟩:=rwC HXQ.out;go_wp2_with fail;refine (HLO.out _).mono ?_;rintro e wl ⟨rfl,hb⟩;unfold rtV;have hxz:=hpU hb HXZ.out;have hbl:=HB.out.trans (hb.mono HB.out.size);obtain ⟨⟨cz0,cz1,cz2⟩,hfz⟩:=rwC hxz;have fz0:=hfz 0;have fz1:=hfz 1;have fz2:=hfz 2;have HROW:=hD (row_set hxz (.bool L.neg) (.string (encS L.num)) (.string (encS L.den)));have HBW:=hD (below_row hbl (b:=wq.heap.size+1) (by omega) (.bool L.neg) (.string (encS L.num)) (.string (encS L.den)));clear hb hxz hbl hfz cq0 cq1 cq2;go_wp2_with fail
    refine bodyPost_ret (results_cell_row rfl _ _ (wq.heap.size+1) 26 _ (0,0) _ rfl HROW.out Tryz.underlying26 rfl (by kernel_rfl)) rfl ?_;exact ⟨L,rfl,HOK.out.1,HOK.out.2,HBW.out⟩
 ·have HLO:=hD (fun w=>rlowest_n (decide (q0<0)) F G1 w (by first|exact HPOS.out.1|exact HPOS.out.2.1|exact HPOS.out.2.2.2|exact Nat.mul_pos HPOS.out.2.1 HPOS.out.2.2.1) (ZZ.out.2.2.1.1.mono (by decide)) (ZZ.out.2.2.1.2.mono (by decide)));obtain ⟨L,hL⟩:∃L,low (decide (q0<0)) F G1=L:=⟨_,rfl⟩;rw [hL] at HLO;have HOK:Hid (L.Ok∧Rz L 32):=hD (by rw [←hL];exact ⟨low_ok _ (by first|exact HPOS.out.1|exact HPOS.out.2.1|exact HPOS.out.2.2.2|exact Nat.mul_pos HPOS.out.2.1 HPOS.out.2.2.1),low_sz (ZZ.out.2.2.1.1.mono (by decide)) (ZZ.out.2.2.1.2.mono (by decide))⟩);clear hL;go_wp2_with fail;refine (HMF.out _).mono ?_;rintro e wm ⟨rfl,rfl⟩;go_wp2_with fail;refine (HOF.out _).mono ?_;rintro e wo ⟨rfl,hb⟩;have HXQ:=uH hb HXQ;have HXZ:=uH hb HXZ;have HB:=mH HB hb;clear hb cq0 cq1 cq2;obtain ⟨⟨cq0,cq1,cq2⟩,-⟩:=rwC HXQ.out;go_wp2_with fail;refine (HMG.out _).mono ?_;rintro e wm ⟨rfl,rfl⟩;go_wp2_with fail
  refine (HOG.out _).mono ?_;rintro e wo ⟨rfl,hb⟩;have HXQ:=uH hb HXQ;have HXZ:=uH hb HXZ;have HB:=mH HB hb;clear hb cq0 cq1 cq2;obtain ⟨⟨cq0,cq1,cq2⟩,-⟩:=rwC HXQ.out;go_wp2_with fail;refine (HLO.out _).mono ?_;rintro e wl ⟨rfl,hb⟩;unfold rtV;have hxz:=hpU hb HXZ.out;have hbl:=HB.out.trans (hb.mono HB.out.size);obtain ⟨⟨cz0,cz1,cz2⟩,hfz⟩:=rwC hxz;have fz0:=hfz 0;have fz1:=hfz 1;have fz2:=hfz 2;have HROW:=hD (row_set hxz (.bool L.neg) (.string (encS L.num)) (.string (encS L.den)));have HBW:=hD (below_row hbl (b:=wq.heap.size+1) (by omega) (.bool L.neg) (.string (encS L.num)) (.string (encS L.den)));clear hb hxz hbl hfz cq0 cq1 cq2;go_wp2_with fail;refine bodyPost_ret (results_cell_row rfl _ _ (wq.heap.size+1) 26 _ (0,0) _ rfl HROW.out Tryz.underlying26 rfl (by kernel_rfl)) rfl ?_;exact ⟨L,rfl,HOK.out.1,HOK.out.2,HBW.out⟩
end Go.Proofs.YtabfjecegpaoaaaGreatDoor
