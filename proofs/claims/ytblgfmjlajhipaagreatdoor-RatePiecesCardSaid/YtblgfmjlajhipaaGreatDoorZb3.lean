/- Contracts that the proofs of this seat share. Each theorem names its conditions. -/
import Derived.Laws.AppendOwnNone
import Derived.Test.YtblgfmjlajhipaaGreatDoorZb2
import Derived.Test.YtblgfmjlajhipaaGreatDoorZa3
import Derived.Test.YtblgfmjlajhipaaGreatDoorZa1
set_option maxHeartbeats 16000000
set_option linter.unusedVariables false
namespace Go.Proofs.YtblgfmjlajhipaaGreatDoor
open Go.RowKit Go.Shelf
open Dgt
theorem times_round {B k c x d Tu:Nat} {o:List Nat} (hl:o.length=k) (hv:valB B o+c*B^k=Tu*d) :
  valB B (o++[(x*d+c)%B])+(x*d+c)/B*B^(k+1)=(Tu+B^k*x)*d:=by
 rw [valB_snoc,hl,Nat.pow_succ];obtain ⟨P,hP⟩:∃P,B^k=P:=⟨_,rfl⟩;rw [hP] at hv ⊢;obtain ⟨s,hs⟩:∃s,x*d+c=s:=⟨_,rfl⟩;rw [hs];have h1:P*(s%B)+s/B*(P*B)=P*s:=by
  have:=Nat.div_add_mod s B;rw [Nat.mul_left_comm, ←Nat.mul_add,Nat.mul_comm (s/B) B,Nat.add_comm,this]
 rw [Nat.add_assoc,h1, ←hs,Nat.mul_add,Nat.add_mul,Nat.mul_comm c P] at *;rw [Nat.mul_assoc P x d];omega
set_option maxRecDepth 100000 in
theorem rtimes_any (vu:Value) (U:List Nat) (d:Nat) (w:World) (hu:LimR w vu U) (hd:d<16777216) (hl9:U.length≤20000000) :
  Calls Tryz.prog 119 #[vu,.int .i64 (d:Int)] w fun e w' =>∃v',e=.returned v' ∧LimR w' v' (digs 16777216 (valB 16777216 U*d))∧Below w.heap.size w w' :=by
 obtain ⟨i0,hi,hz0,hz1,hz2⟩:=info_partsN infoInt;obtain ⟨pu,nu,cu,rfl,hnu,hcu,-⟩:=hu.open_;have HU:=hD hu;have HNU:=hD hnu;have HD:=hD hd;have hnu9:(nu:Int)≤20000000:=by omega
 have hcu' :(nu:Int)≤(cu:Int):=by omega
 have hd9:(d:Int)<16777216:=by omega
 clear hu hl9 hnu hcu hd;go_enter Tryz.func119,Tryz.ntmps119;go_wp2_with fail
 go_loopw [5,6,7] (fun v c i wr=>∃(k:Nat) (o:List Nat) (cc:Nat),i=.int .i64 (k:Int)∧c=.int .i64 (cc:Int)∧Hid (cc<16777216)∧Hid (k≤nu)∧Hid (o.length=k)∧Hid (okB 16777216 o)∧Hid (valB 16777216 o+cc*16777216^k=valB 16777216 (U.take k)*d)∧Hid (wr.ownsRow w.heap.size 3 1 v o.length (digC .i64 o))∧Hid (Below w.heap.size w wr)) (fun _ _ i _=>nu-(intOf i).toNat)
 case atStart=>exact ⟨0,[],0,rfl,rfl,hD (by decide),hD (Nat.zero_le _),hD rfl,hD (okB_nil _),hD (by simp [valB]),hD (World.ownsRow_nil _ _ _ _),hD rB⟩
 case round =>
  obtain ⟨k,o,cc,rfl,rfl,HC1,HKM,HOL,HOK,HVS,HOWN,HBW⟩:=hrel;have hk9:(k:Int)≤20000000:=by have:=HKM.out;omega
  have hcc9:(cc:Int)<16777216:=by have:=HC1.out;omega
  by_cases hku:k<nu
  ·obtain ⟨x,hx⟩:∃x,U.getD k 0=x:=⟨_,rfl⟩;have hxB:x<16777216:=by rw [←hx];exact getD_lt (by decide) HU.out.ok k
   have hul:k<U.length:=by have:=HNU.out;omega
   obtain ⟨g1,off1,rfl,hg1,hcell1⟩:=HU.out.cell hul;rw [←getD_at hul,hx] at hcell1;have c1:wr.cell? ⟨g1,off1+k,none⟩=some (.int .i64 (x:Int)):=by rw [clU HBW.out hg1];exact hcell1
   have ku:(k:Int)<(nu:Int):=by omega
   have hst:=times_round (x:=x) HOL.out HVS.out;rw [←hx, ←take_getD,hx] at hst;obtain ⟨t,ht⟩:∃t,x*d=t:=⟨_,rfl⟩;have htl:t≤281474943156225:=by rw [←ht];exact Nat.mul_le_mul (show x≤16777215 by omega) (show d≤16777215 by have:=HD.out;omega)
   have qt:(x:Int)*(d:Int)=(t:Int):=by rw [←ht];simp
   rw [ht] at hst;obtain ⟨s,hs⟩:∃s,t+cc=s:=⟨_,rfl⟩;rw [hs] at hst;obtain ⟨r,hr⟩:∃r,s%16777216=r:=⟨_,rfl⟩;obtain ⟨q,hq⟩:∃q,s/16777216=q:=⟨_,rfl⟩;rw [hr,hq] at hst;have HST:=hD hst;have HRB:Hid (r<16777216):=hD (by rw [←hr];exact Nat.mod_lt _ (by decide));have HQB:Hid (q<16777216):=hD (by omega);have htl' :(t:Int)≤281474943156225:=by omega
   have hs9:(s:Int)≤281475000000000:=by omega
   have f1:(t:Int)+(cc:Int)=(s:Int):=by omega
   have f3:(s:Int)%16777216=(r:Int):=by omega
   have f4:(s:Int)/16777216=(q:Int):=by omega
   clear hx hxB hul hcell1 hst ht htl hs hr hq hku;go_wp2_with (first|(at_builtin;refine wpList_append_own _ rfl _ _ 76 rfl w.heap.size 3 i0 (.int .i64 0) 1 8 Tryz.underlying76 hi hz0 hz1 hz2 rfl (by decide) _ _ _ rfl (HOWN.out.alloc _) ⟨wr.heap.size,0,none⟩ 1 1 [.int .i64 r] rfl rfl (cell_fresh wr _ _) (by simp [Value.oneCell']) (by have:=HOL.out;unfold maxLen;omega) (by have:=HOL.out;omega) (by have:=HBW.out.size;simp;omega) ?_;intro v1 w1 hown' hgrow hnn;have HO1:=hD hown';have HG1:=hD hgrow;clear hown' hgrow hnn)|fail)
   go_roundw
   case rel=>exact ⟨k+1,o++[r],q,by go_num,rfl,HQB,hD (by omega),hD (by rw [List.length_append,HOL.out];rfl),hD (HOK.out.append (fun y hy=>by simp at hy;rw [hy];exact HRB.out)),HST,hD (by rw [List.length_append,digC,List.map_append];exact HO1.out),hD (below_grown HBW.out HOWN.out HG1.out (Nat.le_refl _))⟩
   case measure=>simp [intOf];omega
  ·have hkn:k=nu:=by have:=HKM.out;omega
   have hv:=HVS.out;rw [List.take_of_length_le (by have:=HNU.out;omega)] at hv;have hfin:valB 16777216 (o++[cc])=valB 16777216 U*d:=by rw [valB_snoc,HOL.out,Nat.mul_comm (16777216^k)];exact hv
   have HFIN:=hD hfin;have HOK2:Hid (okB 16777216 (o++[cc])):=hD (HOK.out.append (fun y hy=>by simp at hy;rw [hy];exact HC1.out));have ku:¬(k:Int)<(nu:Int):=by omega
   clear hv hfin hku hkn;go_wp2_with (first|(at_builtin;refine wpList_append_own _ rfl _ _ 76 rfl w.heap.size 3 i0 (.int .i64 0) 1 8 Tryz.underlying76 hi hz0 hz1 hz2 rfl (by decide) _ _ _ rfl (HOWN.out.alloc _) ⟨wr.heap.size,0,none⟩ 1 1 [.int .i64 cc] rfl rfl (cell_fresh wr _ _) (by simp [Value.oneCell']) (by have:=HOL.out;unfold maxLen;omega) (by have:=HOL.out;omega) (by have:=HBW.out.size;simp;omega) ?_;intro v1 w1 hown' hgrow hnn;have HO1:=hD hown';have HG1:=hD hgrow;clear hown' hgrow hnn)|fail);have HLR:Hid (LimR w1 v1 (o++[cc])):=hD (LimR.own (base:=w.heap.size) (e:=3) (by rw [List.length_append,digC,List.map_append];exact HO1.out) HOK2.out (by rw [List.length_append,HOL.out];simp;omega));have HB1:=hD (below_grown HBW.out HOWN.out HG1.out (Nat.le_refl _));refine (rtrim_any _ _ _ HLR.out).mono ?_;rintro e w4 ⟨v',rfl,hl,rfl⟩
   have HT:=hD (show LimR w1 v' (digs 16777216 (valB 16777216 U*d)) by rw [←HFIN.out];exact hl);clear hl;go_wp2_with fail;go_ret;exact ⟨_,rfl,HT.out,HB1.out⟩
set_option maxRecDepth 100000 in
theorem rcmp_any (va vb:Value) (m n:Nat) (w:World) (ha:LimR w va (digs 16777216 m)) (hb:LimR w vb (digs 16777216 n)) :
  Calls Tryz.prog 117 #[va,vb] w fun e w' =>∃z:Int,e=.returned (.int .i64 z)∧(z<0↔m<n)∧(z≤0↔m≤n)∧Below w.heap.size w w' :=by
 obtain ⟨la,hla⟩:∃l,digs 16777216 m=l:=⟨_,rfl⟩;obtain ⟨lb,hlb⟩:∃l,digs 16777216 n=l:=⟨_,rfl⟩;have HM:=hD hla;have HN:=hD hlb;rw [hla] at ha;rw [hlb] at hb;clear hla hlb;obtain ⟨pa,na,ca,rfl,hna,hca,hna9⟩:=ha.open_;obtain ⟨pb,nb,cb,rfl,hnb,hcb,hnb9⟩:=hb.open_;have HLA:=hD ha;have HLB:=hD hb;have HNA:=hD hna;have HNB:=hD hnb;have hna2:(na:Int)≤1000000000:=by omega
 have hnb2:(nb:Int)≤1000000000:=by omega
 have hca' :(na:Int)≤(ca:Int):=by omega
 have hcb' :(nb:Int)≤(cb:Int):=by omega
 clear ha hb hna hnb hca hcb hna9 hnb9
 by_cases hne:na=nb
 ·subst hne;go_enter Tryz.func117,Tryz.ntmps117;go_wp2_with fail
  go_loopw [5] (fun i wr=>∃(j:Nat) (i' :Int),j≤na∧i' =(j:Int)-1∧i=.int .i64 i' ∧Hid (la.drop j=lb.drop j)∧Hid (Below w.heap.size w wr)) (fun i _=>(intOf i+1).toNat)
  case atStart=>exact ⟨na,(na:Int)-1,Nat.le_refl _,rfl,rfl,hD (by rw [List.drop_eq_nil_of_le (by have:=HNA.out;omega),List.drop_eq_nil_of_le (by have:=HNB.out;omega)]),hD rB⟩
  case round =>
   obtain ⟨j,i',hj,hi',rfl,HD,HBW⟩:=hrel;rcases j with _|k
   ·have hneg:i' <0:=by omega
    have HE:Hid (m=n):=hD (by
     have:=HD.out;simp only [List.drop_zero] at this;rw [←valB_digs (B:=16777216) (by decide) m, ←valB_digs (B:=16777216) (by decide) n,HM.out,HN.out,this])
    go_wp2_with fail;go_ret;exact ⟨_,rfl,by rw [HE.out];simp,by rw [HE.out];simp,HBW.out⟩
   ·obtain rfl:i' =(k:Int):=by omega
    clear hi';have hkA:k<la.length:=by have:=HNA.out;omega
    have hkB:k<lb.length:=by have:=HNB.out;omega
    obtain ⟨g1,off1,hp1,hg1,hc1⟩:=HLA.out.cell hkA;obtain ⟨g2,off2,hp2,hg2,hc2⟩:=HLB.out.cell hkB;have cA:wr.cell? ⟨g1,off1+k,none⟩=some (.int .i64 (la[k]:Int)):=by rw [cell_up2 HBW.out hg1 hg1];exact hc1
    have cB:wr.cell? ⟨g2,off2+k,none⟩=some (.int .i64 (lb[k]:Int)):=by rw [cell_up2 HBW.out hg2 hg2];exact hc2
    subst hp1;subst hp2;have hkn:(k:Int)<(na:Int):=by omega
    have HLT:Hid (la[k]<lb[k]→m<n):=hD (fun h=>by
     have:=val_lt_of HLA.out.ok HLB.out.ok (by have:=HNA.out;have:=HNB.out;omega) hkA HD.out h
     rwa [←HM.out, ←HN.out,valB_digs (by decide),valB_digs (by decide)] at this)
    have HGT:Hid (lb[k]<la[k]→n<m):=hD (fun h=>by
     have:=val_lt_of HLB.out.ok HLA.out.ok (by have:=HNA.out;have:=HNB.out;omega) hkB HD.out.symm h
     rwa [←HM.out, ←HN.out,valB_digs (by decide),valB_digs (by decide)] at this)
    have HEQ:Hid (la[k]=lb[k]→la.drop k=lb.drop k):=hD (fun h=>by
     rw [List.drop_eq_getElem_cons hkA,List.drop_eq_getElem_cons hkB,h,HD.out])
    have hxB:=HLA.out.ok.get hkA;have hyB:=HLB.out.ok.get hkB;obtain ⟨x,hx⟩:∃x,la[k]=x:=⟨_,rfl⟩;obtain ⟨y,hy⟩:∃y,lb[k]=y:=⟨_,rfl⟩;rw [hx] at cA HLT HGT HEQ hxB;rw [hy] at cB HLT HGT HEQ hyB;have hx9:(x:Int)<16777216:=by omega
    have hy9:(y:Int)<16777216:=by omega
    clear hx hy hc1 hc2 hxB hyB;obtain ⟨wo,hwo⟩:∃wo,wo=wr:=⟨_,rfl⟩;subst hwo
    by_cases hxy:x=y
    ·have HF:=hD (HEQ.out hxy);subst hxy;go_wp2_with fail
     go_quiet (fail)
     go_wp2_with fail
     go_roundw
     case rel=>exact ⟨k,(k:Int)-1,by omega,rfl,by go_num,HF,hD (below_drewN HBW.out _)⟩
     case measure=>simp [intOf]
    ·have hxy' :¬(x:Int)=(y:Int):=by omega
     have hxb:((x:Int) != (y:Int))=true:=by simpa using hxy'
     obtain ⟨z,hz⟩:∃z:Int,(x:Int)-(y:Int)=z:=⟨_,rfl⟩;have hz1:IntKind.i64.wrap z=z:=IntWalk.i64_in _ (by omega);have HZ:Hid ((z<0↔m<n)∧(z≤0↔m≤n)):=hD (by
      rcases (by omega:x<y∨y<x) with h|h
      ·have:=HLT.out h;omega
      ·have:=HGT.out h;omega)
     clear hxy hxy';go_wp2_with fail
     go_quiet (fail)
     go_wp2_with fail
     go_quiet (fail)
     go_wp2_with fail;go_ret;exact ⟨_,rfl,HZ.out.1,HZ.out.2,below_drewN (below_drewN HBW.out _) _⟩
 ·have h1:¬((na:Int)=(nb:Int)):=by omega
  obtain ⟨z,hz⟩:∃z:Int,(na:Int)-(nb:Int)=z:=⟨_,rfl⟩;have HZ:Hid ((z<0↔m<n)∧(z≤0↔m≤n)):=hD (by
   rcases (by omega:na<nb∨nb<na) with h|h
   ·have:=digs_len_lt (B:=16777216) (m:=m) (n:=n) (by decide) (by rw [HM.out,HN.out];have:=HNA.out;have:=HNB.out;omega);omega
   ·have:=digs_len_lt (B:=16777216) (m:=n) (n:=m) (by decide) (by rw [HM.out,HN.out];have:=HNA.out;have:=HNB.out;omega);omega)
  have hz0: -1000000000≤z:=by omega
  have hz9:z≤1000000000:=by omega
  go_enter Tryz.func117,Tryz.ntmps117;go_wp2_with fail;go_ret;exact ⟨_,rfl,HZ.out.1,HZ.out.2,Below.refl _ _⟩
end Go.Proofs.YtblgfmjlajhipaaGreatDoor
namespace Go.Proofs.YtblgfmjlajhipaaGreatDoor
open Go.RowKit Go.Shelf
open Dgt
theorem mid_bd {lo hi mid:Nat} (h:lo<hi) (hm:(lo+hi+1)/2=mid):lo<mid∧mid≤hi:=by omega
set_option maxRecDepth 100000 in
theorem rdigit_any (vu vv:Value) (m n:Nat) (w:World) (hu:LimR w vu (digs 16777216 m)) (hv:LimR w vv (digs 16777216 n)) (hn:0<n) (hm:m<n*16777216) (hl:(digs 16777216 n).length≤20000000) :
  Gv 118 #[vu,vv] w (.int .i64 ((m/n:Nat):Int)):=by
 unfold Gv;have HU:=hD hu;have HV:=hD hv;have HN:=hD hn;have HL:=hD hl;have HT:Hid (m<n*(16777215+1)):=hD hm;obtain ⟨dd,hdd⟩:∃dd,m/n=dd:=⟨_,rfl⟩;rw [hdd];have HDD:=hD hdd;clear hdd;clear hu hv hn hm hl;go_enter Tryz.func118,Tryz.ntmps118;go_wp2_with fail
 go_loopw [5,6] (fun a b wr=>∃lo hi:Nat,a=.int .i64 (lo:Int)∧b=.int .i64 (hi:Int)∧Hid (lo≤hi)∧Hid (hi≤16777215)∧Hid (n*lo≤m)∧Hid (m<n*(hi+1))∧Hid (Below w.heap.size w wr)) (fun a b _=>(intOf b-intOf a).toNat)
 case atStart=>exact ⟨0,16777215,rfl,rfl,hD (by decide),hD (by decide),hD (Nat.zero_le _),HT,hD rB⟩
 case round =>
  obtain ⟨lo,hi,rfl,rfl,HLH,HH9,HLO,HHI,HBW⟩:=hrel
  by_cases hlt:lo<hi
  ·obtain ⟨mid,hmid⟩:∃mid,(lo+hi+1)/2=mid:=⟨_,rfl⟩;obtain ⟨hm1,hm2⟩:=mid_bd hlt hmid;have HMD:Hid (mid<16777216):=hD (by have:=HH9.out;omega);have f1:((lo:Int)+(hi:Int)+1)/2=(mid:Int):=by omega
   have hlo9:(lo:Int)≤16777215:=by have:=HH9.out;omega
   have hhi9:(hi:Int)≤16777215:=by have:=HH9.out;omega
   have hlt' :(lo:Int)<(hi:Int):=by omega
   have HM1:=hD hm1;have HM2:=hD hm2;have hmid9:(mid:Int)≤16777215:=by omega
   have hmid0:0<(mid:Int):=by omega
   clear hmid hm1 hm2 hlt;go_wp2_with fail;refine (rtimes_any _ _ mid _ (HV.out.up HBW.out) HMD.out HL.out).mono ?_;rintro e w1 ⟨vt,rfl,ht,hb⟩;rw [valB_digs (by decide)] at ht;have HBW1:=hD (HBW.out.trans (hb.mono HBW.out.size));have HTT:=hD ht;clear ht hb;go_wp2_with fail;refine (rcmp_any _ _ _ _ _ HTT.out (HU.out.up HBW1.out)).mono ?_;rintro e w2 ⟨z,rfl,-,hz,hb⟩;have HBW2:=hD (HBW1.out.trans (hb.mono HBW1.out.size));clear hb
   by_cases hz0:z≤0
   ·have HZ:=hD (hz.1 hz0);clear hz;go_wp2_with fail
    go_roundw
    case rel=>exact ⟨mid,hi,rfl,rfl,HM2,HH9,HZ,HHI,HBW2⟩
    case measure=>simp [intOf];have:=HM1.out;omega
   ·have HZ:Hid (m<n*(mid-1+1)):=hD (by have:=HM1.out;rw [show mid-1+1=mid by omega];exact Nat.lt_of_not_le fun h=>hz0 (hz.2 h));obtain ⟨q,hq⟩:∃q,mid-1=q:=⟨_,rfl⟩;have f2:(mid:Int)-1=(q:Int):=by omega
    rw [hq] at HZ;have HQ:=hD hq;clear hz hq;go_wp2_with fail
    go_roundw
    case rel=>exact ⟨lo,q,rfl,rfl,hD (by have:=HQ.out;have:=HM1.out;omega),hD (by have:=HQ.out;omega),HLO,HZ,HBW2⟩
    case measure=>simp [intOf];have:=HQ.out;have:=HM1.out;have:=HM2.out;omega
  ·have hle:lo=hi:=by have:=HLH.out;omega
   subst hle;have hd:m/n=lo:=by
    have h1:=HLO.out;have h2:=HHI.out;rw [Nat.mul_comm] at h1;rw [Nat.mul_comm] at h2;exact Nat.div_eq_of_lt_le h1 h2
   have HD:Hid (dd=lo):=hD (by rw [←HDD.out];exact hd);have hlt' :¬(lo:Int)<(lo:Int):=by omega
   clear hd hlt;go_wp2_with fail;go_ret;exact ⟨by rw [HD.out];rfl,HBW.out⟩
end Go.Proofs.YtblgfmjlajhipaaGreatDoor
namespace Go.Proofs.YtblgfmjlajhipaaGreatDoor
open Go.RowKit Go.Shelf
open Dgt
theorem LimR.sets {W:World} {g g2 k o n c:Nat} {l:List Nat} {u:Value} (h:LimR W (.slice (some ⟨g2,o,none⟩) n c) l) (hne:g2≠g):LimR (W.setCell ⟨g,k,none⟩ u) (.slice (some ⟨g2,o,none⟩) n c) l:=by
 obtain ⟨ho,h0,p',cap',e,h1,h3⟩:=h;refine ⟨ho,h0,p',cap',e,h1,fun i hi=> ?_⟩;obtain ⟨g',off,e1,e2,e3⟩:=h3 i hi
 injection e with e4 e5 e6
 rw [←e4] at e1
 injection e1 with e1;injection e1 with e1 e7
 subst e1;subst e7;exact ⟨_,_,e4.symm,by simpa [World.setCell] using e2,by rw [World.cell?_of_block (w:=W) (Below.heap_setCell _ _ _ _ hne)];exact e3⟩
theorem quo_round {B n x r Tv Uv Uv2:Nat} (hu:Uv=x+B*Uv2) (hv:Uv2=Tv*n+r):Uv=((x+B*r)/n+B*Tv)*n+(x+B*r)%n:=by
 have h:=Nat.div_add_mod (x+B*r) n;rw [hu,hv,Nat.add_mul,Nat.mul_add,Nat.mul_assoc,Nat.mul_comm ((x+B*r)/n) n];omega
theorem own_one (W:World) (x:Value) (e:TypeId) (hx:x.oneCell' =true):(W.alloc (.cells #[x] e)).ownsRow W.heap.size e 1 (.slice (some ⟨W.heap.size,0,none⟩) 1 1) 1 [x] :=
 ⟨by simp,.inr ⟨W.heap.size,1,#[x],rfl,Nat.le_refl _,heap_alloc_new W _,Nat.le_refl _,by unfold maxLen;omega,by simp,by simp⟩⟩
theorem LimR.from_ {W:World} {ad:Addr} {n c:Nat} {l:List Nat} (h:LimR W (.slice (some ad) n c) l):∀j u,(digC .i64 l)[j]? =some u→W.cell? (ad.add j)=some u:=by
 intro j u hj;have hjl:j<l.length:=by
  have:=(List.getElem?_eq_some_iff.1 hj).1;simpa [digC] using this
 obtain ⟨g,off,e1,e2,e3⟩:=h.cell hjl
 injection e1 with e1
 subst e1;rw [Addr.add_lit,e3];simp [digC,hjl] at hj;rw [hj]
theorem rep_cons (k d:Nat) (T:List Nat):(List.replicate (k+1) 0++T).set k d=List.replicate k 0++d::T:=set_back T k d
theorem rep_zero (k:Nat) (T:List Nat):List.replicate (k+1) 0++T=List.replicate k 0++0::T:=by
 rw [List.replicate_succ',List.append_assoc];rfl
def EQS (A B qd qr:Nat):Nat→Value
 | 0=>.int .i64 (A:Int)
 | 1=>.int .i64 (B:Int)
 | 2=>.int .i64 (qd:Int)
 | 3=>.string (encS qd)
 | 4=>.int .i64 (A:Int)
 | 5=>.int .i64 (B:Int)
 | 6=>.int .i64 (qr:Int)
 | 7=>.string (encS qr)
 | 8=>.string (encS qd)
 | 9=>.string (encS qr)
 | 10=>.bool true
 | _=>undef
set_option maxRecDepth 100000 in
theorem rQuo_any (a b:ByteArray) (w:World) (ha:a.size≤9000000) (hb:b.size≤9000000) :
  Gv 93 #[.string a,.string b] w (.tuple #[.string (encS (numS a/numS b)),.string (encS (remS (numS a) (numS b))),.bool (decide (0<numS b))]):=by
 unfold Gv;obtain ⟨i0,hi,hz0,hz1,hz2⟩:=info_partsN infoInt;have CB:=hD (Canon_any b · (by omega));have SMA:=hD (small_any a 7 · (by omega) (by decide));have hsb:(encS (numS b)).size≤9000000:=Nat.le_trans (encS_len_le b) hb;have SMB:=hD (small_any (encS (numS b)) 7 · (by omega) (by decide));have OA:=hD (rof_any a · (by omega));have OB:=hD (rof_any (encS (numS b)) · (by omega));rw [numS_encS] at SMB OB;have la:(digs 16777216 (numS a)).length≤9000000:=Nat.le_trans (digs_len_le (by decide) (Nat.lt_of_lt_of_le (numS_lt a) (Nat.pow_le_pow_left (by decide) _))) ha;have lb:(digs 16777216 (numS b)).length≤9000000:=Nat.le_trans (digs_len_le (by decide) (Nat.lt_of_lt_of_le (numS_lt b) (Nat.pow_le_pow_left (by decide) _))) hb;obtain ⟨A,hA⟩:∃A,numS a=A:=⟨_,rfl⟩;obtain ⟨B,hB⟩:∃B,numS b=B:=⟨_,rfl⟩;rw [hA] at SMA OA la;rw [hB] at CB SMB OB lb hsb;rw [hA,hB];have LA:=hD la;have LB:=hD lb
 clear ha hb la lb hA hB;rcases Nat.eq_zero_or_pos B with hB0|hB0
 ·subst hB0;rw [encS_zero] at CB;rw [Nat.div_zero,encS_zero,show remS A 0=0 from rfl,encS_zero];clear hsb;go_enter Tryz.func93,Tryz.ntmps93;go_wp2_with fail;refine (CB.out _).mono ?_;rintro e w1 ⟨rfl,rfl⟩;go_wp2_with fail;refine bodyPost_ret (results_tmp3 rfl _ _ _) rfl ?_;exact ⟨rfl,Below.refl _ _⟩
 have HDD:Hid (decide (0<B)=true):=hD (by rw [decide_eq_true_eq];exact hB0);have HRM:remS A B=A%B:=by unfold remS;rw [if_neg (by omega)]
 rw [HRM];clear HRM;obtain ⟨qd,hqd⟩:∃qd,A/B=qd:=⟨_,rfl⟩;obtain ⟨qr,hqr⟩:∃qr,A%B=qr:=⟨_,rfl⟩;rw [hqd,hqr];obtain ⟨bb,hbb⟩:∃bb,encS B=bb:=⟨_,rfl⟩;have hbp:0<bb.size:=by
  rw [←hbb,encS_size];rcases Nat.eq_zero_or_pos (digs 256 B).length with h|h
  ·have:=List.eq_nil_of_length_eq_zero h;rw [digs_eq_nil (by decide)] at this;omega
  ·exact h
 have hbe:((bb.size:Int)==0)=false:=by rw [beq_eq_false_iff_ne];omega
 have hbn:¬(bb.size:Int)=0:=by omega
 rw [hbb] at CB SMB OB;have HQD:=hD hqd;have HQR:=hD hqr;have HB0:=hD hB0;have hbz:¬(B:Int)=0:=by omega
 clear hqd hqr hbp hsb
 by_cases hab:(encS A).size≤7∧(encS B).size≤7
 ·obtain ⟨a1,a2,a3,-⟩:=small_yes (m:=A) hab.1 (by decide);obtain ⟨b1,b2,b3,-⟩:=small_yes (m:=B) hab.2 (by decide);rw [a1,a2] at SMA;rw [b1,b2] at SMB;have hA9:(A:Int)<72057594037927936:=by omega
  have hB9:(B:Int)<72057594037927936:=by omega
  have q1:Int.tdiv (A:Int) (B:Int)=(qd:Int):=by rw [←HQD.out];simp
  have q2:Int.tmod (A:Int) (B:Int)=(qr:Int):=by rw [←HQR.out,Int.tmod_eq_emod_of_nonneg (by omega)];simp
  have hB0n:¬B=0:=by have:=HB0.out;omega
  have q3:(A:Int)/(B:Int)=(qd:Int):=by rw [←HQD.out];simp
  have q4:(A:Int)%(B:Int)=(qr:Int):=by rw [←HQR.out];simp
  have hqd9:qd<72057594037927936:=by rw [←HQD.out];exact Nat.lt_of_le_of_lt (Nat.div_le_self _ _) (by omega)
  have hqr9:qr<72057594037927936:=by rw [←HQR.out];exact Nat.lt_of_le_of_lt (Nat.mod_le _ _) (by omega)
  have q5:IntKind.i64.wrap (qd:Int)=(qd:Int):=IntWalk.i64_in _ (by omega);have q6:IntKind.i64.wrap (qr:Int)=(qr:Int):=IntWalk.i64_in _ (by omega);have hqd9' :(qd:Int)<72057594037927936:=by omega
  have hqr9' :(qr:Int)<72057594037927936:=by omega
  have HOQ:=hD (fun w=>rOf_any (qd:Int) w (by omega));have HOR:=hD (fun w=>rOf_any (qr:Int) w (by omega));rw [show ((qd:Int)).toNat=qd by omega] at HOQ;rw [show ((qr:Int)).toNat=qr by omega] at HOR;clear hab a1 a2 a3 b1 b2 b3 hqd9 hqr9 hB0 hbb;go_enter Tryz.func93,Tryz.ntmps93;go_wp2_with fail;refine (CB.out _).mono ?_;rintro e w1 ⟨rfl,rfl⟩;go_wp2_with fail;refine (SMA.out _).mono ?_;rintro e w1 ⟨rfl,rfl⟩;go_wp2_with fail;refine (SMB.out _).mono ?_;rintro e w1 ⟨rfl,rfl⟩;go_wp2_with fail;obtain ⟨wo,hwo⟩:∃wo,wo=w:=⟨_,rfl⟩;subst hwo;refine wpVl (w:=wo) (by kernel_rfl) (fun ix v _=>v=EQS A B qd qr ix) (fun t=>(decide (4≤t)&&decide (t<7))||(decide (35≤t)&&decide (t<43))) (by kernel_rfl) (by kernel_rfl) (by kernel_rfl) (fun _ _ _ _ _ h=>h) ?_ ?_
  ·intro i hi o listed a w hR K hK;have ho:=hR.at_;have hi:i<11:=hi;have hii:i=0∨i=1∨i=2∨i=3∨i=4∨i=5∨i=6∨i=7∨i=8∨i=9∨i=10:=by omega
   rcases hii with rfl|rfl|rfl|rfl|rfl|rfl|rfl|rfl|rfl|rfl|rfl
   ·simp at ho;subst ho;have b7:a.tmps.getD 7 undef=.int .i64 (A:Int):=hR.b 7;refine pSq ?_;go_simp;exact hK _ _ rfl rB
   ·simp at ho;subst ho;have b9:a.tmps.getD 9 undef=.int .i64 (B:Int):=hR.b 9;refine pSq ?_;go_simp;exact hK _ _ rfl rB
   ·simp at ho;subst ho;have e0:a.tmps.getD 35 undef=.int .i64 (A:Int):=hR.d 0;have e1:a.tmps.getD 36 undef=.int .i64 (B:Int):=hR.d 1;refine pSq ?_;go_simp;exact hK _ _ rfl rB
   ·simp at ho;subst ho;have e2:a.tmps.getD 37 undef=.int .i64 (qd:Int):=hR.d 2;refine pSq ?_;go_simp;refine (HOQ.out _).mono ?_;rintro e w' ⟨rfl,hb⟩;exact hK _ _ (rfl) hb
   ·simp at ho;subst ho;have b7:a.tmps.getD 7 undef=.int .i64 (A:Int):=hR.b 7;refine pSq ?_;go_simp;exact hK _ _ rfl rB
   ·simp at ho;subst ho;have b9:a.tmps.getD 9 undef=.int .i64 (B:Int):=hR.b 9;refine pSq ?_;go_simp;exact hK _ _ rfl rB
   ·simp at ho;subst ho;have e4:a.tmps.getD 39 undef=.int .i64 (A:Int):=hR.d 4;have e5:a.tmps.getD 40 undef=.int .i64 (B:Int):=hR.d 5;refine pSq ?_;go_simp;exact hK _ _ rfl rB
   ·simp at ho;subst ho;have e6:a.tmps.getD 41 undef=.int .i64 (qr:Int):=hR.d 6;refine pSq ?_;go_simp;refine (HOR.out _).mono ?_;rintro e w' ⟨rfl,hb⟩;exact hK _ _ (rfl) hb
   ·simp at ho;subst ho;have e3:a.tmps.getD 38 undef=.string (encS qd):=hR.d 3;refine pSq ?_;go_simp;exact hK _ _ rfl rB
   ·simp at ho;subst ho;have e7:a.tmps.getD 42 undef=.string (encS qr):=hR.d 7;refine pSq ?_;go_simp;exact hK _ _ rfl rB
   ·simp at ho;subst ho;refine pSq ?_;go_simp;exact hK _ _ rfl rB
  ·intro s w hS hb;have e8:s 4=.string (encS qd):=hS 8 (by decide);have e9:s 5=.string (encS qr):=hS 9 (by decide);have e10:s 6=.bool true:=hS 10 (by decide);simp only [over,ovL,Nat.reduceAdd,Nat.reduceLeDiff,Nat.reduceLT];rw [e8,e9,e10];have HBX:=hD hb;clear hS hb e8 e9 e10;go_wp2_with fail;refine bodyPost_ret (results_tmp3 rfl _ _ _) rfl ?_;exact ⟨by rw [HDD.out];rfl,HBX.out⟩
 obtain ⟨p1,x1,hp1⟩:∃p x,p=smallB A 7∧x=smallV A 7:=⟨_,_,rfl,rfl⟩;obtain ⟨p2,x2,hp2⟩:∃p x,p=smallB B 7∧x=smallV B 7:=⟨_,_,rfl,rfl⟩;have hpp:p1=false∨(p1=true∧p2=false):=by
  rw [hp1.1,hp2.1];rcases Nat.lt_or_ge 7 (encS A).size with h|h
  ·exact .inl (small_no h).1
  ·refine .inr ⟨(small_yes h (by decide)).1,(small_no ?_).1⟩;rcases Nat.lt_or_ge 7 (encS B).size with h' |h'
   ·exact h'
   ·exact absurd ⟨h,h'⟩ hab
 rw [←hp1.1, ←hp1.2] at SMA;rw [←hp2.1, ←hp2.2] at SMB;clear hp1 hp2 hab hB0 hbb;go_enter Tryz.func93,Tryz.ntmps93;go_wp2_with fail;refine (CB.out _).mono ?_;rintro e w1 ⟨rfl,rfl⟩;go_wp2_with fail;refine (SMA.out _).mono ?_;rintro e w1 ⟨rfl,rfl⟩;go_wp2_with fail;refine (SMB.out _).mono ?_;rintro e w1 ⟨rfl,rfl⟩;rcases hpp with rfl|⟨rfl,rfl⟩
 all_goals
  go_wp2_with fail;refine (OA.out _).mono ?_;rintro e w2 ⟨vu,rfl,hl,hb⟩;have HU:=hD hl;have HBX:=hD hb;clear hl hb;go_wp2_with fail;refine (OB.out _).mono ?_;rintro e w3 ⟨vv,rfl,hl,hb⟩;have HLU:=hD (HU.out.up hb);have HLV:=hD hl;have HBX:=hD (HBX.out.trans (hb.mono HBX.out.size));clear hl hb;obtain ⟨pa,na,ca,rfl,hna,hca,-⟩:=HLU.out.open_;obtain ⟨U,hU⟩:∃U,digs 16777216 A=U:=⟨_,rfl⟩;have hUV:valB 16777216 U=A:=by rw [←hU];exact valB_digs (by decide) A
  rw [hU] at HLU hna LA;have HUV:=hD hUV;have HNA:=hD hna;have hna1:(na:Int)≤9000000:=by have:=LA.out;omega
  have hca' :(na:Int)≤(ca:Int):=by omega
  have hmk:=mk_ints na (na:Int) rfl (by omega);clear hU hUV hna hca;go_wp2_with fail;clear hmk;have HB:=hD ((Below.refl w3.heap.size w3).alloc (Nat.le_refl _) (.cells (cellsK .i64 (List.replicate na 0)) 3));have HK:=hD (heap_alloc_new w3 (.cells (cellsK .i64 (List.replicate na 0)) 3));obtain ⟨w0,hw0⟩:∃w0,w3.alloc (.cells (cellsK .i64 (List.replicate na 0)) 3)=w0:=⟨_,rfl⟩;have HW0:=hD (show w0.heap.size=w3.heap.size+1 by rw [←hw0];simp);rw [hw0] at HB HK ⊢;obtain ⟨g,hg⟩:∃g,w3.heap.size=g:=⟨_,rfl⟩;have hgw:w3.heap.size≤g:=Nat.le_of_eq hg;rw [hg] at HK ⊢;have HG:=hD hg;clear hw0 hg
  go_loopw [14,15] (fun rv i wr=>∃(j r:Nat) (i' :Int) (T:List Nat),i=.int .i64 i' ∧Hid (i' =(j:Int)-1)∧Hid (j≤na)∧Hid (LimR wr rv (digs 16777216 r))∧Hid (OkS rv)∧Hid (r<B)∧Hid (T.length+j=na)∧Hid (okB 16777216 T)∧Hid (valB 16777216 (U.drop j)=valB 16777216 T*B+r)∧Hid (wr.heap[g]? =some (.cells (cellsK .i64 (List.replicate j 0++T)) 3 (0,0)))∧Hid (Below w3.heap.size w3 wr)) (fun _ i _=>(intOf i+1).toNat)
  case atStart=>exact ⟨na,0,_,[],rfl,hD rfl,hD (Nat.le_refl _),hD (by rw [digs_zero];exact LimR.nil_ _),hD (fun n c e=>by cases e;rfl),HB0,hD (by simp),hD (okB_nil _),hD (by rw [HNA.out,List.drop_length];simp [valB]),hD (by rw [List.append_nil];exact HK.out),HB⟩
  case round =>
   obtain ⟨j,r,i',T,rfl,HI,HJ,HR,HOS,HRB,HTL,HTO,HTV,HC,HBW⟩:=hrel;obtain ⟨wo,hwo⟩:∃wo,wo=wr:=⟨_,rfl⟩;subst hwo;rcases j with _|k
   ·have hneg:i' <0:=by have:=HI.out;omega
    have hneg2:¬0≤i' :=by omega
    have htv:=HTV.out;rw [List.drop_zero,HUV.out] at htv;have HQ1:Hid (valB 16777216 T=qd):=hD (by rw [←HQD.out,htv,Nat.mul_comm,Nat.mul_add_div HB0.out,Nat.div_eq_of_lt HRB.out,Nat.add_zero]);have HQ2:Hid (r=qr):=hD (by rw [←HQR.out,htv,Nat.mul_comm,Nat.mul_add_mod,Nat.mod_eq_of_lt HRB.out]);have HLT:Hid (LimR wo (.slice (some ⟨g,0,none⟩) na na) T):=hD (by
     have h:=LimR.block (W:=wo) (g:=g) (cap:=na) (l:=T) HTO.out (cs:=cellsK .i64 T) (t:=3) (by
      have:=HC.out
      rwa [List.replicate_zero,List.nil_append] at this) (fun i h=>cellsK_get h) (by have:=HTL.out;omega) (by have:=HTL.out;omega)
     rwa [show T.length=na by have:=HTL.out;omega] at h)
    have HT9:Hid (T.length≤30000000):=hD (by have:=HTL.out;omega);have HR9:Hid ((digs 16777216 r).length≤30000000):=hD (Nat.le_trans (digs_len_mono (by decide) (Nat.le_of_lt HRB.out)) (by have:=LB.out;omega));have HBZ:=hD (HBX.out.trans (HBW.out.mono HBX.out.size));clear htv;go_wp2_with fail;refine (rnumber_any _ _ _ HLT.out HT9.out).mono ?_;rintro e w4 ⟨rfl,hb⟩;rw [HQ1.out];have HR:=hD (HR.out.up hb);have HBZ:=hD (HBZ.out.trans (hb.mono HBZ.out.size));clear hb;go_wp2_with fail;refine (rnumber_any _ _ _ HR.out HR9.out).mono ?_;rintro e w5 ⟨rfl,hb⟩;rw [valB_digs (by decide),HQ2.out];have HBZ:=hD (HBZ.out.trans (hb.mono HBZ.out.size));clear hb;go_wp2_with fail;refine bodyPost_ret (results_tmp3 rfl _ _ _) rfl ?_;exact ⟨by rw [HDD.out];rfl,HBZ.out⟩
   ·obtain rfl:i' =(k:Int):=by have:=HI.out;omega
    have hkU:k<U.length:=by have:=HNA.out;have:=HJ.out;omega
    obtain ⟨g1,off1,rfl,hg1,hc1⟩:=HLU.out.cell hkU;obtain ⟨x,hx⟩:∃x,U[k]=x:=⟨_,rfl⟩;have HXB:Hid (x<16777216):=hD (by rw [←hx];exact HLU.out.ok.get hkU);have hdv:=drop_val hkU;rw [hx] at hc1 hdv;have c1:wo.cell? ⟨g1,off1+k,none⟩=some (.int .i64 (x:Int)):=by rw [clU HBW.out hg1];exact hc1
    have hqv:=quo_round (B:=16777216) hdv HTV.out;have HQV:=hD hqv;have hkn:(k:Int)<(na:Int):=by have:=HJ.out;omega
    have hx9:(x:Int)<16777216:=by have:=HXB.out;omega
    obtain ⟨pr,nr,cr,hrv,hnr,hcr,-⟩:=HR.out.open_;have HNR:=hD hnr;have hnr9:(nr:Int)≤9000000:=by
     have:=digs_len_mono (B:=16777216) (by decide) (Nat.le_of_lt HRB.out);have:=LB.out;omega
    have HWS:Hid (w3.heap.size+1≤wo.heap.size):=hD (by
     have:=(Array.getElem?_eq_some_iff.1 HC.out).1;have:=HG.out;omega)
    obtain ⟨r2,hr2⟩:∃r2,x+16777216*r=r2:=⟨_,rfl⟩;have HR2:=hD hr2;rw [hr2] at HQV;have HR2B:Hid (r2<B*16777216):=hD (by have:=HRB.out;have:=HXB.out;rw [←hr2];omega);have HR2L:Hid ((digs 16777216 r2).length≤9000002):=hD (by
     have h1:=digs_len_mono (B:=16777216) (by decide) (Nat.le_of_lt HR2B.out);have h2:=digs_len_mul (B:=16777216) (by decide) B 16777216;have h3:(digs 16777216 16777216).length≤2:=digs_len_le (by decide) (by decide);have:=LB.out;omega)
    subst hrv;have HCR:=hD hcr;clear hkU hx hc1 hdv hqv hnr hcr hr2;have HRA:=hD (HR.out.up ((Below.refl _ wo).alloc (Nat.le_refl _) (.cells #[.int .i64 (x:Int)] 3)));have HO1:=hD (own_one wo (.int .i64 (x:Int)) 3 rfl);have HBA:=hD ((Below.refl wo.heap.size wo).alloc (Nat.le_refl _) (.cells #[.int .i64 (x:Int)] 3));rcases pr with _|ad
    ·have hn0:nr=0:=by
      rcases Nat.eq_zero_or_pos nr with h|h
      ·exact h
      ·obtain ⟨g9,off9,e9,-⟩:=HR.out.cell (i:=0) (by have:=HNR.out;omega);cases e9
     have hc0:=HOS.out _ _ rfl;have hr0:digs 16777216 r=[]:=List.eq_nil_of_length_eq_zero (by have:=HNR.out;omega);have hrz:r=0:=(digs_eq_nil (by decide)).1 hr0;subst hn0;subst hc0;have HRZ:=hD hrz;clear hr0 hrz;go_wp2_with (first|(at_builtin;refine wpList_append_own_none rfl _ _ 76 rfl wo.heap.size 3 i0 1 Tryz.underlying76 hi _ 1 [.int .i64 (x:Int)] rfl HO1.out rfl ?_)|fail);have HLR:Hid (LimR (wo.alloc (.cells #[.int .i64 (x:Int)] 3)) (.slice (some ⟨wo.heap.size,0,none⟩) 1 1) [x]):=hD (LimR.own (l:=[x]) (base:=wo.heap.size) (e:=3) HO1.out (fun y hy=>by simp at hy;rw [hy];exact HXB.out) (by simp));have HVX:Hid (valB 16777216 [x]=r2):=hD (by rw [valB_one, ←HR2.out,HRZ.out];omega);refine (rtrim_at (some ⟨wo.heap.size,0,none⟩) 1 1 [x] _ HLR.out).mono ?_;rintro e w4 ⟨k4,rfl,hl,rfl⟩
     have HT4:Hid (LimR (wo.alloc (.cells #[.int .i64 (x:Int)] 3)) (.slice (some ⟨wo.heap.size,0,none⟩) k4 1) (digs 16777216 r2)):=hD (by rw [←HVX.out];exact hl);have HB4:=hD (HBW.out.trans (HBA.out.mono HBW.out.size));have HC4:=hD (block_new HBA.out HC.out);have HGN:Hid (wo.heap.size≠g):=hD (by have:=HWS.out;have:=HG.out;omega);clear hl;go_wp2_with fail;refine (rcmp_any _ _ _ _ _ HT4.out (HLV.out.up HB4.out)).mono ?_;rintro e w5 ⟨z,rfl,hz,-,hb⟩;have HT5:=hD (HT4.out.up hb);have HC5:=hD (block_new hb HC4.out);have HB5:=hD (HB4.out.trans (hb.mono HB4.out.size));have HZ:=hD hz;clear hb hz
     by_cases hz0:0≤z
     ·have HLE:Hid (B≤r2):=hD (by have:=HZ.out;omega);go_wp2_with fail;refine (rdigit_any _ _ r2 B _ HT5.out (HLV.out.up HB5.out) HB0.out HR2B.out (by have:=LB.out;omega)).mono ?_;rintro e w6 ⟨rfl,hb⟩;obtain ⟨d,hd⟩:∃d,r2/B=d:=⟨_,rfl⟩;rw [hd];have HD:=hD hd;have HDB:Hid (d<16777216):=hD (by rw [←hd];exact (Nat.div_lt_iff_lt_mul HB0.out).2 (by rw [Nat.mul_comm];exact HR2B.out));have HT6:=hD (HT5.out.up hb);have HC6:=hD (block_new hb HC5.out);have HB6:=hD (HB5.out.trans (hb.mono HB5.out.size));have hfr:w6.frozen? ⟨g,k,none⟩=false:=Lib.frozen_of_heap HC6.out _;obtain ⟨y,hy⟩:∃y,w6.cell? ⟨g,k,none⟩=some y:=by rw [Lib.cell_of_heap HC6.out];exact ⟨_,cellsK_get (by simp;omega)⟩
      have HC7:=hD (show (w6.setCell ⟨g,k,none⟩ (.int .i64 (d:Int))).heap[g]? =some (.cells (cellsK .i64 (List.replicate k 0++d::T)) 3 (0,0)) by rw [←rep_cons];exact set_block HC6.out);have HB7:=hD (HB6.out.setCell (p:=⟨g,k,none⟩) hgw (.int .i64 (d:Int)));have HT7:=hD (HT6.out.sets (k:=k) (u:=.int .i64 (d:Int)) HGN.out);clear hb hd;go_wp2_with fail;obtain ⟨w7,hw7⟩:∃w7,w6.setCell ⟨g,k,none⟩ (.int .i64 (d:Int))=w7:=⟨_,rfl⟩;rw [hw7] at HC7 HB7 HT7 ⊢;clear hw7 hfr hy;refine (rtimes_any _ _ d _ (HLV.out.up HB7.out) HDB.out (by have:=LB.out;omega)).mono ?_;rintro e w8 ⟨vt,rfl,ht,hb⟩;rw [valB_digs (by decide)] at ht;have HT8:=hD (HT7.out.up hb);have HVT:=hD ht;have HC8:=hD (block_new hb HC7.out);have HB8:=hD (HB7.out.trans (hb.mono HB7.out.size));have hle8:B*d≤r2:=by rw [←HD.out];exact Nat.mul_div_le r2 B
      have HLE8:=hD hle8;clear hb ht hle8;go_wp2_with fail;refine (rminus_ok _ _ _ _ _ HT8.out HVT.out (by rw [valB_digs (by decide),valB_digs (by decide)];exact HLE8.out) (digs_len_mono (by decide) HLE8.out) (by have:=HR2L.out;omega)).mono ?_;rintro e w9 ⟨v9,rfl,hl,hos,hb⟩;rw [valB_digs (by decide),valB_digs (by decide)] at hl;have hrm:r2-B*d=r2%B:=by have:=Nat.div_add_mod r2 B;rw [←HD.out];omega
      rw [hrm] at hl;have HT9:=hD hl;have HOS9:=hD hos;have HC9:=hD (block_new hb HC8.out);have HB9:=hD (HB8.out.trans (hb.mono HB8.out.size));clear hb hl hos hrm;go_wp2_with fail
      go_roundw
      case rel=>exact ⟨k,r2%B,_,d::T,rfl,hD (by omega),hD (by have:=HJ.out;omega),HT9,HOS9,hD (Nat.mod_lt _ HB0.out),hD (by have:=HTL.out;rw [List.length_cons];omega),hD (okB_cons HDB.out HTO.out),hD (by rw [HQV.out,HD.out];rfl),HC9,HB9⟩
      case measure=>simp [intOf]
     ·have HLT:Hid (r2<B):=hD (by have:=HZ.out;omega);have hzn:decide (0≤z)=false:=by rw [decide_eq_false_iff_not];exact hz0
      clear hz0;go_wp2_with fail
      go_roundw
      case rel=>exact ⟨k,r2,_,0::T,rfl,hD (by omega),hD (by have:=HJ.out;omega),HT5,hD (fun n c e=>by cases e),HLT,hD (by have:=HTL.out;rw [List.length_cons];omega),hD (okB_cons (by decide) HTO.out),hD (by rw [HQV.out,Nat.div_eq_of_lt HLT.out,Nat.mod_eq_of_lt HLT.out];rfl),hD (by rw [←rep_zero];exact HC5.out),HB5⟩
      case measure=>simp [intOf]
    ·have HA1:Hid ((digC .i64 (digs 16777216 r)).length=nr*1):=hD (by rw [digC,List.length_map, ←HNR.out,Nat.mul_one]);have HA2:Hid (1+nr≤maxLen):=hD (by unfold maxLen;omega);have HA3:Hid ((1+nr)*8≤140737488355328):=hD (by omega);have HA4:Hid (∀u ∈ digC .i64 (digs 16777216 r),u.oneCell' =true):=hD (by simp [digC,Value.oneCell']);have HA5:=hD HRA.out.from_;go_wp2_with (first|(at_builtin;refine wpList_append_own _ rfl _ _ 76 rfl wo.heap.size 3 i0 (.int .i64 0) 1 8 Tryz.underlying76 hi hz0 hz1 hz2 rfl (by decide) _ 1 [.int .i64 (x:Int)] rfl HO1.out ad nr cr (digC .i64 (digs 16777216 r)) rfl HA1.out HA5.out HA4.out HA2.out HA3.out (by simp) ?_;intro v1 w1 hown' hgrow hnn;have HO2:=hD hown';have HG2:=hD hgrow;clear hown' hgrow hnn)|fail);have HB1:Hid (Below wo.heap.size wo w1):=hD (below_own HBA.out HO1.out HG2.out (Nat.le_refl _))
     have HOX:Hid (okB 16777216 (x::digs 16777216 r)):=hD (okB_cons HXB.out (okB_digs (by decide) _));have HLR:Hid (LimR w1 v1 (x::digs 16777216 r)):=hD (LimR.own (l:=x::digs 16777216 r) (base:=wo.heap.size) (e:=3) (by rw [List.length_cons, ←HNR.out,Nat.add_comm];exact HO2.out) HOX.out (by rw [List.length_cons, ←HNR.out];omega));have HVX:Hid (valB 16777216 (x::digs 16777216 r)=r2):=hD (by rw [valB,valB_digs (by decide),HR2.out]);obtain ⟨po,no,co,hvo,hpo,hpg,hpn⟩:=own_shape HO2.out;rcases po with _|⟨g3,o3,s3⟩
     ·have:=hpn rfl;omega
     obtain ⟨hg3,rfl,rfl⟩:=hpg _ _ _ rfl;have HG3:=hD hg3;rw [hvo] at HLR;have hvo2:=hvo;clear hpo hpg hpn hg3 hvo2;subst hvo;refine (rtrim_at (some ⟨g3,0,none⟩) no co (x::digs 16777216 r) _ HLR.out).mono ?_;rintro e w4 ⟨k4,rfl,hl,rfl⟩;have HT4:Hid (LimR w1 (.slice (some ⟨g3,0,none⟩) k4 co) (digs 16777216 r2)):=hD (by rw [←HVX.out];exact hl);have HB4:=hD (HBW.out.trans (HB1.out.mono HBW.out.size));have HC4:=hD (block_new HB1.out HC.out);have HGN:Hid (g3≠g):=hD (by have:=HWS.out;have:=HG.out;have:=HG3.out;omega);clear hl;go_wp2_with fail;refine (rcmp_any _ _ _ _ _ HT4.out (HLV.out.up HB4.out)).mono ?_;rintro e w5 ⟨z,rfl,hz,-,hb⟩;have HT5:=hD (HT4.out.up hb);have HC5:=hD (block_new hb HC4.out);have HB5:=hD (HB4.out.trans (hb.mono HB4.out.size));have HZ:=hD hz;clear hb hz
     by_cases hz0:0≤z
     ·have HLE:Hid (B≤r2):=hD (by have:=HZ.out;omega);go_wp2_with fail;refine (rdigit_any _ _ r2 B _ HT5.out (HLV.out.up HB5.out) HB0.out HR2B.out (by have:=LB.out;omega)).mono ?_;rintro e w6 ⟨rfl,hb⟩;obtain ⟨d,hd⟩:∃d,r2/B=d:=⟨_,rfl⟩;rw [hd];have HD:=hD hd;have HDB:Hid (d<16777216):=hD (by rw [←hd];exact (Nat.div_lt_iff_lt_mul HB0.out).2 (by rw [Nat.mul_comm];exact HR2B.out));have HT6:=hD (HT5.out.up hb);have HC6:=hD (block_new hb HC5.out);have HB6:=hD (HB5.out.trans (hb.mono HB5.out.size));have hfr:w6.frozen? ⟨g,k,none⟩=false:=Lib.frozen_of_heap HC6.out _;obtain ⟨y,hy⟩:∃y,w6.cell? ⟨g,k,none⟩=some y:=by rw [Lib.cell_of_heap HC6.out];exact ⟨_,cellsK_get (by simp;omega)⟩
      have HC7:=hD (show (w6.setCell ⟨g,k,none⟩ (.int .i64 (d:Int))).heap[g]? =some (.cells (cellsK .i64 (List.replicate k 0++d::T)) 3 (0,0)) by rw [←rep_cons];exact set_block HC6.out);have HB7:=hD (HB6.out.setCell (p:=⟨g,k,none⟩) hgw (.int .i64 (d:Int)));have HT7:=hD (HT6.out.sets (k:=k) (u:=.int .i64 (d:Int)) HGN.out);clear hb hd;go_wp2_with fail;obtain ⟨w7,hw7⟩:∃w7,w6.setCell ⟨g,k,none⟩ (.int .i64 (d:Int))=w7:=⟨_,rfl⟩;rw [hw7] at HC7 HB7 HT7 ⊢;clear hw7 hfr hy;refine (rtimes_any _ _ d _ (HLV.out.up HB7.out) HDB.out (by have:=LB.out;omega)).mono ?_;rintro e w8 ⟨vt,rfl,ht,hb⟩;rw [valB_digs (by decide)] at ht;have HT8:=hD (HT7.out.up hb);have HVT:=hD ht;have HC8:=hD (block_new hb HC7.out);have HB8:=hD (HB7.out.trans (hb.mono HB7.out.size));have hle8:B*d≤r2:=by rw [←HD.out];exact Nat.mul_div_le r2 B
      have HLE8:=hD hle8;clear hb ht hle8;go_wp2_with fail;refine (rminus_ok _ _ _ _ _ HT8.out HVT.out (by rw [valB_digs (by decide),valB_digs (by decide)];exact HLE8.out) (digs_len_mono (by decide) HLE8.out) (by have:=HR2L.out;omega)).mono ?_;rintro e w9 ⟨v9,rfl,hl,hos,hb⟩;rw [valB_digs (by decide),valB_digs (by decide)] at hl;have hrm:r2-B*d=r2%B:=by have:=Nat.div_add_mod r2 B;rw [←HD.out];omega
      rw [hrm] at hl;have HT9:=hD hl;have HOS9:=hD hos;have HC9:=hD (block_new hb HC8.out);have HB9:=hD (HB8.out.trans (hb.mono HB8.out.size));clear hb hl hos hrm;go_wp2_with fail
      go_roundw
      case rel=>exact ⟨k,r2%B,_,d::T,rfl,hD (by omega),hD (by have:=HJ.out;omega),HT9,HOS9,hD (Nat.mod_lt _ HB0.out),hD (by have:=HTL.out;rw [List.length_cons];omega),hD (okB_cons HDB.out HTO.out),hD (by rw [HQV.out,HD.out];rfl),HC9,HB9⟩
      case measure=>simp [intOf]
     ·have HLT:Hid (r2<B):=hD (by have:=HZ.out;omega);have hzn:decide (0≤z)=false:=by rw [decide_eq_false_iff_not];exact hz0
      clear hz0;go_wp2_with fail
      go_roundw
      case rel=>exact ⟨k,r2,_,0::T,rfl,hD (by omega),hD (by have:=HJ.out;omega),HT5,hD (fun n c e=>by cases e),HLT,hD (by have:=HTL.out;rw [List.length_cons];omega),hD (okB_cons (by decide) HTO.out),hD (by rw [HQV.out,Nat.div_eq_of_lt HLT.out,Nat.mod_eq_of_lt HLT.out];rfl),hD (by rw [←rep_zero];exact HC5.out),HB5⟩
      case measure=>simp [intOf]
end Go.Proofs.YtblgfmjlajhipaaGreatDoor
namespace Go.Proofs.YtblgfmjlajhipaaGreatDoor
open Go.RowKit Go.Shelf
open Dgt
def strSz:Value→Nat
 | .string s=>numS s
 | _=>0
set_option maxRecDepth 100000 in
theorem rGcd_any (a b:ByteArray) (w:World) (ha:a.size≤9000000) (hb:b.size≤9000000) :
  Gv 92 #[.string a,.string b] w (.string (encS (Nat.gcd (numS a) (numS b)))):=by
 unfold Gv;have CA:=hD (Canon_any a · (by omega));have CB:=hD (Canon_any b · (by omega));have HAS:Hid ((encS (numS a)).size≤9000000):=hD (Nat.le_trans (encS_len_le a) ha);have HBS:Hid ((encS (numS b)).size≤9000000):=hD (Nat.le_trans (encS_len_le b) hb);obtain ⟨A,hA⟩:∃A,numS a=A:=⟨_,rfl⟩;obtain ⟨B,hB⟩:∃B,numS b=B:=⟨_,rfl⟩;rw [hA] at CA HAS;rw [hB] at CB HBS;rw [hA,hB];obtain ⟨G,hG⟩:∃G,Nat.gcd A B=G:=⟨_,rfl⟩;rw [hG];have HG:=hD hG;clear ha hb hA hB hG;go_enter Tryz.func92,Tryz.ntmps92;go_wp2_with fail;refine (CA.out _).mono ?_;rintro e w1 ⟨rfl,rfl⟩;go_wp2_with fail;refine (CB.out _).mono ?_;rintro e w1 ⟨rfl,rfl⟩;go_wp2_with fail
 go_loopw [0,1] (fun x y wr=>∃m n:Nat,x=.string (encS m)∧y=.string (encS n)∧Hid (Nat.gcd m n=G)∧Hid ((encS m).size≤9000000)∧Hid ((encS n).size≤9000000)∧Hid (Below w.heap.size w wr)) (fun _ y _=>strSz y)
 case atStart=>exact ⟨A,B,rfl,rfl,HG,HAS,HBS,hD rB⟩
 case round =>
  obtain ⟨m,n,rfl,rfl,HGC,HMS,HNS,HBW⟩:=hrel;rcases Nat.eq_zero_or_pos n with hn|hn
  ·subst hn;have HF:Hid (m=G):=hD (by rw [←HGC.out,Nat.gcd_zero_right]);have hz:¬0<((encS 0).size:Int):=by rw [encS_zero];decide
   go_wp2_with fail;go_ret;exact ⟨by rw [HF.out];rfl,HBW.out⟩
  ·have hp:0<((encS n).size:Int):=by
    have:(encS n).size≠0:=fun h=>by
     rw [encS_size] at h;have:=List.eq_nil_of_length_eq_zero h;rw [digs_eq_nil (by decide)] at this;omega
    omega
   have HQ:=hD (fun w=>rQuo_any (encS m) (encS n) w HMS.out HNS.out);rw [numS_encS,numS_encS] at HQ;have hrm:remS m n=m%n:=by unfold remS;rw [if_neg (by omega)]
   rw [hrm] at HQ;have HN:=hD hn;clear hn hrm;go_wp2_with fail;refine (HQ.out _).mono ?_;rintro e w2 ⟨rfl,hb⟩;have HB2:=hD (HBW.out.trans (hb.mono HBW.out.size));clear hb;go_wp2_with fail
   go_roundw
   case rel=>exact ⟨n,m%n,rfl,rfl,hD (by rw [←HGC.out,Nat.gcd_comm m n];exact (Nat.gcd_rec n m).symm ▸ Nat.gcd_comm _ _),HNS,hD (Nat.le_trans (by rw [encS_size,encS_size];exact digs_len_mono (by decide) (Nat.mod_le m n)) HMS.out),HB2⟩
   case measure =>
    have:=Nat.mod_lt m HN.out;simp [strSz,numS_encS];exact this
end Go.Proofs.YtblgfmjlajhipaaGreatDoor
