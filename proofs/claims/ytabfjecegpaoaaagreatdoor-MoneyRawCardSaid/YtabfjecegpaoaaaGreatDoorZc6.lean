/- Contracts that the proofs of this seat share. Each theorem names its conditions. -/

import Derived.Test.YtabfjecegpaoaaaGreatDoorZc3
import Derived.Test.YtabfjecegpaoaaaGreatDoorZc4
import Derived.Test.YtabfjecegpaoaaaGreatDoorZc0
import Derived.Test.YtabfjecegpaoaaaGreatDoorZb1
import Derived.Test.YtabfjecegpaoaaaGreatDoorZb5
import Derived.Test.YtabfjecegpaoaaaGreatDoorZb6
import Derived.Test.YtabfjecegpaoaaaGreatDoorZc5
import Derived.Test.YtabfjecegpaoaaaGreatDoorZb8
import Derived.Test.YtabfjecegpaoaaaGreatDoorZc2
import Derived.Test.YtabfjecegpaoaaaGreatDoorZb2
import Derived.Test.YtabfjecegpaoaaaGreatDoorZa6
set_option maxHeartbeats 16000000
set_option linter.unusedVariables false
namespace Go.Proofs.YtabfjecegpaoaaaGreatDoor
open Go.RowKit Go.Shelf
open Dgt
theorem lit_lstR {W:World} {g cap:Nat} {l:List Rw} {t:TypeId} (h:W.heap[g]? =some (.cells (cells3 l).toArray t (0,0))) (hl:l.length≤1000) (hc:cap=l.length):LstR W (.slice (some ⟨g,0,none⟩) l.length cap) l:=by
 refine own_lstR (base:=g) (e:=t) ⟨cells3_len l,.inr ⟨g,cap,_,rfl,Nat.le_refl _,h,by omega,by unfold maxLen;omega,by rw [List.size_toArray,cells3_len,hc],?_⟩⟩ hl;show (cells3 l).take _=_;rw [←cells3_len,List.take_of_length_le (Nat.le_refl _)]
theorem cut_lstR {W:World} {g n cap:Nat} {l m:List Rw} {t:TypeId} (h:W.heap[g]? =some (.cells (cells3 (l++m)).toArray t (0,0))) (hl:l.length≤1000) (hm:m.length≤1000) (hn:n=l.length) (hc:cap=l.length+m.length):LstR W (.slice (some ⟨g,0,none⟩) n cap) l:=by
 subst hn;refine own_lstR (base:=g) (e:=t) ⟨cells3_len l,.inr ⟨g,cap,_,rfl,Nat.le_refl _,h,by omega,by unfold maxLen;omega,by rw [List.size_toArray,cells3_len,hc,List.length_append],?_⟩⟩ hl;show (cells3 (l++m)).take _=_;rw [cells3_append,List.take_append_of_le_length (by rw [cells3_len];exact Nat.le_refl _), ←cells3_len,List.take_of_length_le (Nat.le_refl _)]
theorem ord_const {ov:Nat→Rat} {n:Nat} {s:List Nat} (h:Ordd ov n s) (hc:∀i k,i<n→k<n→ov i=ov k):s=List.range n:=by
 have key:∀j (hj:j<s.length),s[j]=j:=by
  intro j
  induction j using Nat.strongRecOn with
  | ind j ih =>
   intro hj;have hn:j<n:=by rw [h.len] at hj;exact hj
   refine h.best hj hn ?_ ?_
   ·intro hm;obtain ⟨i,hi,e⟩:=List.mem_iff_getElem.1 hm;have hi' :i<j:=by rw [List.length_take] at hi;omega
    rw [List.getElem_take,ih i hi' (by omega)] at e;omega
   ·intro i hi hm ha;have hij:¬i<j:=fun hlt=>hm (List.mem_iff_getElem.2 ⟨i,by rw [List.length_take];omega,by rw [List.getElem_take];exact ih i hlt (by omega)⟩)
    rcases ha with ha|ha
    ·rw [hc i j hi hn] at ha;exact absurd ha Rat.lt_irrefl
    ·omega
 refine List.ext_getElem (by rw [h.len,List.length_range]) fun j h1 h2=> ?_
 rw [key j h1,List.getElem_range]
def oneR:Rt:=⟨false,1,1⟩
theorem sa_parts {s:List Nat} (h:OrdS 100 [oneR,oneR,oneR] s):partsT 100 [oneR,oneR,oneR] s=[⟨false,17,50⟩,⟨false,33,100⟩,⟨false,33,100⟩]:=by
 obtain rfl:=ord_const h (by
  intro i k hi hk;have hi:i<3:=hi;have hk:k<3:=hk;have hii:i=0∨i=1∨i=2:=by omega
  have hkk:k=0∨k=1∨k=2:=by omega
  rcases hii with rfl|rfl|rfl<;>rcases hkk with rfl|rfl|rfl<;>rfl)
 decide+kernel
theorem sa_parts2 {s:List Nat} (h:OrdS (-1) [oneR,oneR] s):partsT (-1) [oneR,oneR] s=[⟨true,1,100⟩,⟨false,0,1⟩]:=by
 obtain rfl:=ord_const h (by
  intro i k hi hk;have hi:i<2:=hi;have hk:k<2:=hk;have hii:i=0∨i=1:=by omega
  have hkk:k=0∨k=1:=by omega
  rcases hii with rfl|rfl<;>rcases hkk with rfl|rfl<;>rfl)
 decide+kernel
theorem one_ok:oneR.Ok:=by unfold oneR;exact ⟨by decide,by decide,by decide⟩
theorem one_sz:Rz oneR 1:=by unfold oneR;exact ⟨by unfold Sz;decide,by unfold Sz;decide⟩
theorem sa_wts3:Wts [oneR,oneR,oneR]:=⟨by intro a ha;simp at ha;subst ha;exact one_ok,by intro a ha;simp at ha;subst ha;rfl,by decide+kernel⟩
theorem sa_wts2:Wts [oneR,oneR]:=⟨by intro a ha;simp at ha;subst ha;exact one_ok,by intro a ha;simp at ha;subst ha;rfl,by decide+kernel⟩
section
variable (na:Bool) (sa da:ByteArray) (nb:Bool) (sb db:ByteArray)
end
set_option maxRecDepth 100000 in
theorem rat_any (n d:Int) (hn: -9223372036854775808≤n∧n≤9223372036854775807) (hd: -9223372036854775808≤d∧d≤9223372036854775807) (h0:d≠0) (wq:World) :
  Gv 38 #[.int .i64 n,.int .i64 d] wq (rtV (quoR (ofR n) (ofR d))):=by
 unfold Gv;have c1:=fun w=>rRatOf_any n w hn.1 hn.2;have c2:=fun w=>rRatOf_any d w hd.1 hd.2
 have z1:Rz (ofR n) 8:=of_sz (by omega);have z2:Rz (ofR d) 8:=of_sz (by omega);have c3:=fun w=>rRatQuo_r (IsR.of (ofR_ok n) z1) (IsR.of (ofR_ok d) z2) (by decide) (by decide) w
 unfold quoV at c3;rw [if_neg (show ¬(ofR d).num=0 from by show ¬d.natAbs=0;omega)] at c3;obtain ⟨q,h3⟩:∃q,quoR (ofR n) (ofR d)=q:=⟨_,rfl⟩;rw [h3] at c3 ⊢;obtain ⟨a,h1⟩:∃q,ofR n=q:=⟨_,rfl⟩;obtain ⟨b,h2⟩:∃q,ofR d=q:=⟨_,rfl⟩;rw [h1] at c1 c3;rw [h2] at c2 c3;have C1:Hid (∀w,Gv 17 #[.int .i64 n] w (.agg #[.bool a.neg,.string (encS a.num),.string (encS a.den)])):=hD c1;have C2:Hid (∀w,Gv 17 #[.int .i64 d] w (.agg #[.bool b.neg,.string (encS b.num),.string (encS b.den)])):=hD c2;have C3:Hid (∀w,Gv 26 #[rtV a,rtV b] w (.tuple #[.agg #[.bool q.neg,.string (encS q.num),.string (encS q.den)],.bool true])):=hD c3;clear c1 c2 c3 h1 h2 h3 z1 z2 hn hd h0;have HB:=hD (Below.refl wq.heap.size wq);obtain ⟨n0,hn0⟩:∃n,n=wq.heap.size:=⟨_,rfl⟩;rw [←hn0];have HN0:=hD hn0;clear hn0;go_enter Tryz.func38,Tryz.ntmps38;obtain ⟨W1,bk4,hW1,hbk4,HX4_1,HB,HG4_1,hup⟩:=boxZ HB HN0;clear hup;go_wp2_with fail
 clear hW1 hbk4;refine (C1.out _).mono ?_;rintro e w2 ⟨rfl,hb⟩;have HX4_1:=uH hb HX4_1;have HB:=mH HB hb;clear hb;go_wp2_with fail;refine (C2.out _).mono ?_;rintro e w3 ⟨rfl,hb⟩;have HX4_1:=uH hb HX4_1;have HB:=mH HB hb;clear hb;go_wp2_with fail;refine (C3.out _).mono ?_;rintro e w4 ⟨rfl,hb⟩;have HX4_1:=uH hb HX4_1;have HB:=mH HB hb;clear hb;obtain ⟨W5,bk5,hW5,hbk5,HX5_2,HB,HG5_2,hup⟩:=boxZ HB HN0;have HL5_2:=(hup _ _ HX4_1).2;have HX4_1:=(hup _ _ HX4_1).1;clear hup;obtain ⟨W6,hW6,HX5_2,HB,ho,f3a,f3b,f3c,k3a,k3b,k3c⟩:=putR HX5_2 HB HN0 HG5_2 q;have HX4_1:=ho _ _ (en1 HL5_2) HX4_1;clear ho;obtain ⟨k4a,k4b,k4c⟩:=c3 HX5_2;obtain ⟨W7,hW7,HX4_1,HB,ho,f5a,f5b,f5c,k5a,k5b,k5c⟩:=putR HX4_1 HB HN0 HG4_1 q;have HX5_2:=ho _ _ (ne1 HL5_2) HX5_2;clear ho;go_wp2_with fail;clear hW5 hbk5 f3a f3b f3c k3a k3b k3c hW6 k4a k4b k4c f5a f5b f5c k5a k5b k5c hW7;refine bodyPost_ret (rC1 HX4_1.out) rfl ?_
 exact ⟨rfl,by rw [HN0.out];exact HB.out⟩
theorem take_extR {la lb:List Rt} {k:Nat} (h:la.take k=lb.take k) (h1:k<la.length) (h2:k<lb.length) (e:la[k]=lb[k]):la.take (k+1)=lb.take (k+1):=by
 rw [List.take_succ_eq_append_getElem h1,List.take_succ_eq_append_getElem h2,h,e]
set_option maxRecDepth 100000 in
theorem Equal_any (la lb:List Rt) (va vb:Value) (wq:World) (ha:LstR wq va (la.map rawR)) (hb:LstR wq vb (lb.map rawR)) :
  Gv 69 #[va,vb] wq (.bool (decide (la=lb))):=by
 unfold Gv;obtain ⟨p,ca,rfl,hla,hca⟩:=ha.open;obtain ⟨q,cb,rfl,hlb,hcb⟩:=hb.open;rw [List.length_map] at hla hlb ⊢;rw [List.length_map];have HA:Hid (∀k (h:k<la.length),∃g off,p=some ⟨g,off,none⟩∧g<wq.heap.size∧wq.cell? ⟨g,off+k*3,none⟩=some (.bool la[k].neg)∧wq.cell? ⟨g,off+k*3+1,none⟩=some (.string (encS la[k].num))∧wq.cell? ⟨g,off+k*3+2,none⟩=some (.string (encS la[k].den))):=hD fun k h=>by
  have hh:=hca k (by rw [List.length_map];exact h);simp only [List.getElem_map] at hh;exact hh
 have HB:Hid (∀k (h:k<lb.length),∃g off,q=some ⟨g,off,none⟩∧g<wq.heap.size∧wq.cell? ⟨g,off+k*3,none⟩=some (.bool lb[k].neg)∧wq.cell? ⟨g,off+k*3+1,none⟩=some (.string (encS lb[k].num))∧wq.cell? ⟨g,off+k*3+2,none⟩=some (.string (encS lb[k].den))):=hD fun k h=>by
  have hh:=hcb k (by rw [List.length_map];exact h);simp only [List.getElem_map] at hh;exact hh
 clear hca hcb ha hb
 by_cases hlen:la.length=lb.length
 ·rw [←hlen];have HLEN:=hD hlen;clear hlen hlb;go_enter Tryz.func69,Tryz.ntmps69;go_wp2_with fail
  go_loopw [5] (fun i wr=>∃k:Nat,k≤la.length∧i=.int .i64 (k:Int)∧Hid (la.take k=lb.take k)∧Hid (Below wq.heap.size wq wr)) (fun i _=>la.length-(intOf i).toNat)
  case atStart=>exact ⟨0,by omega,rfl,hD rfl,hD rB⟩
  case round =>
   obtain ⟨k,hk,rfl,HT,HBW⟩:=hrel
   by_cases hlt:k<la.length
   ·have hlt' :(k:Int)<(la.length:Int):=by omega
    have hlb' :k<lb.length:=by rw [←HLEN.out];exact hlt
    obtain ⟨g,off,rfl,hg,c1,c2,c3⟩:=HA.out k hlt;obtain ⟨g2,off2,rfl,hg2,c4,c5,c6⟩:=HB.out k hlb';have d1:wr.cell? ⟨g,off+k*3,none⟩=some (.bool la[k].neg):=by rw [clU HBW.out hg];exact c1
    have d2:wr.cell? ⟨g,off+k*3+1,none⟩=some (.string (encS la[k].num)):=by rw [clU HBW.out hg];exact c2
    have d3:wr.cell? ⟨g,off+k*3+2,none⟩=some (.string (encS la[k].den)):=by rw [clU HBW.out hg];exact c3
    have d4:wr.cell? ⟨g2,off2+k*3,none⟩=some (.bool lb[k].neg):=by rw [clU HBW.out hg2];exact c4
    have d5:wr.cell? ⟨g2,off2+k*3+1,none⟩=some (.string (encS lb[k].num)):=by rw [clU HBW.out hg2];exact c5
    have d6:wr.cell? ⟨g2,off2+k*3+2,none⟩=some (.string (encS lb[k].den)):=by rw [clU HBW.out hg2];exact c6
    clear c1 c2 c3 c4 c5 c6;obtain ⟨x,hx⟩:∃x,la[k]=x:=⟨_,rfl⟩;obtain ⟨y,hy⟩:∃y,lb[k]=y:=⟨_,rfl⟩;rw [hx] at d1 d2 d3;rw [hy] at d4 d5 d6;have HX:=hD hx;have HY:=hD hy;clear hx hy;obtain ⟨wo,hwo⟩:∃wo,wo=wr:=⟨_,rfl⟩;subst hwo
    by_cases hxy:x=y
    ·have HE:=hD (eqR_iff.2 hxy);have hr:=fun w=>run_neqR HE.out w
     have HT2:=hD (take_extR HT.out hlt hlb' (by rw [HX.out,HY.out,hxy]));have HLT:=hD hlt;have hwi:IntKind.i64.wrap ((k:Int)+1)=((k+1:Nat):Int):=by rw [IntWalk.i64_in _ (by omega)];omega
     clear HX HY hlb' hxy hlt hk;go_wp2_with (go_quiet (fail))
     go_roundw
     case rel=>exact ⟨k+1,by have:=HLT.out;omega,by first|rfl|go_num,HT2,hD (by first|exact HBW.out|exact below_drewN HBW.out _)⟩
     case measure=>have:=HLT.out;simp [intOf];omega
    ·have HNE:Hid (decide (la=lb)=false):=hD (decide_eq_false (fun h=>hxy (by rw [←HX.out, ←HY.out];subst h;rfl)));have HE:=hD (eqR_false.2 hxy);have hr:=fun w=>run_neqR HE.out w
     clear HX HY hlb' hxy hlt hk;go_wp2_with (go_quiet (fail));go_ret;exact ⟨by rw [HNE.out];rfl,by first|exact HBW.out|exact below_drewN HBW.out _⟩
   ·have hge:(la.length:Int)≤(k:Int):=by omega
    have HE:Hid (decide (la=lb)=true):=hD (decide_eq_true (by have:=HT.out;rwa [List.take_of_length_le (by omega),List.take_of_length_le (by have:=HLEN.out;omega)] at this));go_wp2_with fail;go_ret;exact ⟨by rw [HE.out];rfl,HBW.out⟩
 ·have hne:¬(la.length:Int)=(lb.length:Int):=by omega
  have hne2:((la.length:Int) != (lb.length:Int))=true:=by simpa using hne
  have HE:Hid (decide (la=lb)=false):=hD (decide_eq_false (fun h=>hlen (by rw [h])));clear hlen;go_enter Tryz.func69,Tryz.ntmps69;go_wp2_with fail;go_ret;exact ⟨by rw [HE.out];rfl,Below.refl _ _⟩
theorem Same_any (la lb:List Rt) (va vb:Value) (wq:World) (ha:LstR wq va (la.map rawR)) (hb:LstR wq vb (lb.map rawR)) :
  Gv 22 #[va,vb] wq (.bool (decide (la=lb))):=by
 unfold Gv;have HEQ:=hD (Equal_any la lb va vb wq ha hb);obtain ⟨p,ca,rfl,-,-⟩:=ha.open;obtain ⟨q,cb,rfl,-,-⟩:=hb.open;clear ha hb;obtain ⟨n1,hn1⟩:∃n,(la.map rawR).length=n:=⟨_,rfl⟩;obtain ⟨n2,hn2⟩:∃n,(lb.map rawR).length=n:=⟨_,rfl⟩;obtain ⟨r,hr⟩:∃r,decide (la=lb)=r:=⟨_,rfl⟩;rw [hn1,hn2,hr] at HEQ;rw [hn1,hn2,hr];clear hn1 hn2 hr;go_enter Tryz.func22,Tryz.ntmps22;go_wp2_with fail;refine HEQ.out.mono ?_;rintro e w1 ⟨rfl,hb⟩;go_wp2_with fail;go_ret;exact ⟨rfl,hb⟩
end Go.Proofs.YtabfjecegpaoaaaGreatDoor
