/- RateBack: contracts and the law's walk. Each theorem names its conditions. -/

import Derived.Test.YtblgfmjlajhipaaGreatDoorKba2
set_option maxHeartbeats 16000000
set_option linter.unusedVariables false
namespace Go.Proofs.YtblgfmjlajhipaaGreatDoor
open Go.RowKit Go.Shelf
open Dgt
theorem set_len {m:List BT} {k:Nat} {b:BT}:(m.set k b).length=m.length:=List.length_set
theorem set_fr {m:List BT} {k:Nat} {r:Rt} (hk:k<m.length) (j:Nat):frT (m.set k (frT m k,r)) j=frT m j:=by
 unfold frT;rw [List.getElem?_set]
 by_cases e:k=j
 ·subst e;rw [if_pos rfl,if_pos hk,List.getElem?_eq_getElem hk]
 ·rw [if_neg e]
theorem set_rt {m:List BT} {k:Nat} {r:Rt} {x:Rt} (hk:k<m.length) (j:Nat):rtT (m.set k (x,r)) j=if j=k then r else rtT m j:=by
 unfold rtT;rw [List.getElem?_set]
 by_cases e:k=j
 ·subst e;rw [if_pos rfl,if_pos hk,if_pos rfl]
 ·rw [if_neg e,if_neg (fun h=>e h.symm)]
theorem set_sch {m:List BT} (h:Sch m) {k:Nat} (hk:k<m.length) {r:Rt} (hr:r.Ok) (hf:fitT r=true):Sch (m.set k (frT m k,r)):=by
 refine h.of_rates set_len (set_fr hk) fun b hb=> ?_
 rcases List.mem_or_eq_of_mem_set hb with h1|rfl
 ·exact ⟨(h.ok b h1).2,(h.fit b h1).2⟩
 ·exact ⟨hr,hf⟩
theorem set_mild {m:List BT} (h:Mild m) {k:Nat} (hk:k<m.length):Mild (m.set k (frT m k,zeroR)):=by
 refine ⟨set_sch h.sch hk zeroR_ok fit_zero,fun j=>by unfold frQ;rw [set_fr hk];exact h.fr j,fun j=> ?_⟩;unfold rtQ;rw [set_rt hk];split
 ·exact gd_z
 ·exact h.rt j
theorem set_nn {m:List BT} (h:Mild m) {k:Nat} (hk:k<m.length) (hn:fallsT m=false):fallsT (m.set k (frT m k,zeroR))=false:=by
 refine falls_false (set_mild h hk).sch fun j hj=> ?_
 rw [List.length_set] at hj;unfold rtQ;rw [set_rt hk];split
 ·rw [q_zero];exact Rat.le_refl
 ·exact rate_nn h.sch hn j hj
def InvM (m:List BT):Prop:=∀k,k<m.length→rtQ m k=0∨∃p:Nat,0<p∧p≤50∧Gd p ((80:Nat):Rat) (1/rtQ m k)
theorem one_div {a d:Int} (ha:a≠0) (hd:0<d) (h:d≤80):Gd a.natAbs ((80:Nat):Rat) (1/((a:Rat)/d)):=by
 have hd' :=rat_pos hd;have ha' :(a:Rat)≠0:=by exact_mod_cast ha
 have e:1/((a:Rat)/d)=(d:Rat)/a:=by grind
 rw [e];have key:∀n:Nat,0<n→Gd n ((80:Nat):Rat) ((d:Rat)/(n:Int)):=fun n hn=>by
  have hp:(0:Int)<(n:Int):=by omega
  have hp' :=rat_pos hp;have hm:(d:Rat)/((n:Int):Rat)*((n:Int):Rat)=d:=Rat.div_mul_cancel (by grind);have h1:((n:Int):Rat)=(n:Rat):=Rat.intCast_natCast n;have hq:=div_pos' hd' hp';have h1n:(1:Rat)≤((n:Int):Rat):=by exact_mod_cast (show (1:Int)≤n by omega)
  have hdd:(d:Rat)≤((80:Int):Rat):=by exact_mod_cast h
  have e80:((80:Int):Rat)=((80:Nat):Rat):=rfl;rw [e80] at hdd
  generalize (d:Rat)/((n:Int):Rat)=t at hm hq
  have h2:=Rat.mul_le_mul_of_nonneg_left h1n (show 0≤t by grind);have h80:(0:Rat)≤((80:Nat):Rat):=by exact_mod_cast Nat.zero_le 80
  exact ⟨⟨d,by rw [←h1];exact hm⟩,by grind,by grind⟩
 rcases Int.lt_or_gt_of_ne ha with hlt|hgt
 ·have e2:(d:Rat)/a= -((d:Rat)/((a.natAbs:Nat):Int)):=by
   have:((a.natAbs:Nat):Int)= -a:=by omega
   rw [this,Rat.intCast_neg];grind
  rw [e2];exact (key a.natAbs (by omega)).neg
 ·have e2:((a.natAbs:Nat):Int)=a:=by omega
  have:=key a.natAbs (by omega)
  rwa [e2] at this
theorem made_inv (l:List T3):InvM (madeB l):=fun k hk=>by
 unfold madeB at hk ⊢;rw [madeK_len] at hk;unfold rtQ;rw [(madeK_at l hk).2]
 generalize mnum l k=q
 have h1:=mod_in q.1 (show (0:Int)<61 by decide);have h2:=mod_in q.2.2 (show (0:Int)<3 by decide);unfold mrate;rw [frac_q _ (by omega)]
 by_cases e:q.1%61-10=0
 ·left;rw [e];simp;grind
 ·exact .inr ⟨(q.1%61-10).natAbs,by omega,by omega,one_div e (by omega) (by omega)⟩
theorem up_inv {m:List BT} (h:InvM m):InvM (upB m):=fun k hk=>by
 rw [upB_len] at hk;unfold rtQ;rw [upB_rt];have:=h k hk;unfold rtQ at this;rcases abs_cases (rtT m k) with e|e<;>rw [e]
 ·exact this
 ·rcases this with h0|⟨p,h1,h2,h3⟩
  ·left;grind
  ·refine .inr ⟨p,h1,h2,?_⟩;have:=h3.neg
   rwa [show-(1/(rtT m k).q)=1/ -(rtT m k).q by grind] at this
structure Back (m:List BT) (x y z:Rt):Prop where
 ok:z.Ok
 inv:invV (m.map rawB) (rawR y)=(rawR z,0)
 fit:fitT z=true
 nn:0≤z.q
 le:0≤x.q→z.q≤x.q
 val:valT m z m.length=y
 less:∀u:Rt,u.Ok→0≤u.q→u.q<z.q→(valT m u m.length).q<y.q
 gd:∃p:Nat,0<p∧p≤50∧Gd (12*(2000*p)) ((2534720:Nat):Rat) z.q
theorem invV_pos {m:List BT} (h:Sch m) (hn:fallsT m=false) {y:Rt} (hy:y.Ok) (hf:fitT y=true) (hp:0<y.q) :
  invV (m.map rawB) (rawR y)=if (rtT m (kT m y-1)).num=0 then (zrow,15) else if fitT (invT m y)=true then (rawR (invT m y),0) else (zrow,3):=by
 have hs:=sgnR_q hy;rw [sgQ_pos hp] at hs;unfold invV;rw [if_pos (ck_of h),valsB_raw h,hn,rawR_right hy,if_neg (by decide),if_pos (by rw [fitsR_raw hy];exact hf),rawR_val hy,if_neg (by omega),if_neg (by omega)]
theorem invV_zero {m:List BT} (h:Sch m) (hn:fallsT m=false) {y:Rt} (hy:y.Ok) (hf:fitT y=true) (hp:y.q=0):invV (m.map rawB) (rawR y)=(rawR y,0):=by
 have hs:=sgnR_q hy;rw [hp,sgQ_zero] at hs;unfold invV;rw [if_pos (ck_of h),valsB_raw h,hn,rawR_right hy,if_neg (by decide),if_pos (by rw [fitsR_raw hy];exact hf),rawR_val hy,if_neg (by omega),if_pos hs]
theorem invV_neg {m:List BT} (h:Sch m) (hn:fallsT m=false) {y:Rt} (hy:y.Ok) (hf:fitT y=true) (hp:y.q<0):invV (m.map rawB) (rawR y)=(zrow,15):=by
 have hs:=sgnR_q hy;rw [sgQ_neg hp] at hs;unfold invV;rw [if_pos (ck_of h),valsB_raw h,hn,rawR_right hy,if_neg (by decide),if_pos (by rw [fitsR_raw hy];exact hf),rawR_val hy,if_pos (by omega)]
theorem beg_gd {m:List BT} (h:Mild m) {k:Nat} (hk:k<m.length):Gd 24000 ((15840:Nat):Rat) (begF (frQ m) (rtQ m) k):=by
 rw [←val_beg h.sch.inc hk];have:=val_gd h (e:=5) (B:=340) (x:=frQ m k) (((h.fr k).times 5).bound (by rw [Rat.natCast_le_natCast];decide)) (by decide) h.sch.le;exact this
theorem flat_end {m:List BT} (h:Sch m) (hn:fallsT m=false) {K:Nat} (hK:K+1=m.length) (hr:rtQ m K=0) (x:Rat):valF (frQ m) (rtQ m) m.length x≤begF (frQ m) (rtQ m) K:=by
 rcases Classical.em (frQ m K≤x) with h1|h1
 ·rw [val_at h.inc (j:=K) (by omega) h1 (by omega),hr];grind
 ·rw [←val_beg h.inc (j:=K) (by omega)];exact val_mono h.inc h.pos (rate_nn h hn) (by grind)
theorem back_sched {m:List BT} (h:Mild m) (hi:InvM m) (hn:fallsT m=false) {x:Rt} (hx:x.Ok) (hg:Gd 60 ((340:Nat):Rat) x.q):∃z,Back m x (valT m x m.length) z:=by
 have hs:=h.sch;have hy:=val_ok hs hx m.length;have hfy:=amt_val h hx hg;have hq:=q_val hs hx;have hyg:Gd 24000 ((15840:Nat):Rat) (valF (frQ m) (rtQ m) m.length x.q):=val_gd h (e:=5) (B:=340) hg (by decide) hs.le;have hnn:=rate_nn hs hn;have h0:0≤valF (frQ m) (rtQ m) m.length x.q:=by
  have h1:=val_mono (F:=frQ m) (R:=rtQ m) (x:=if x.q≤0 then x.q else 0) (y:=x.q) hs.inc hs.pos hnn (by split<;>grind);have h2:=val_low (F:=frQ m) (R:=rtQ m) (n:=m.length) (x:=if x.q≤0 then x.q else 0) hs.inc (fun _=>by rw [hs.zeroQ];split<;>grind)
  grind
 obtain ⟨y,hye⟩:∃y,valT m x m.length=y:=⟨_,rfl⟩;rw [hye] at hy hfy hq ⊢
 by_cases hz:y.q=0
 ·refine ⟨y,hy,invV_zero hs hn hy hfy hz,hfy,by rw [hz];exact Rat.le_refl,fun h=>by rw [hz];exact h,?_,fun u hu h1 h2=>by grind,1,by decide,by decide,?_⟩
  ·refine q_inj (val_ok hs hy _) hy ?_;rw [q_val hs hy,hz];exact val_low hs.inc (fun _=>by rw [hs.zeroQ];exact Rat.le_refl)
  ·rw [hz];exact Gd.zero _ (by exact_mod_cast Nat.zero_le _)
 ·have hp:0<y.q:=by grind
  have hK:=kth hs hn hy hp;have hr:(rtT m (kT m y-1)).num≠0:=fun hc=>by
   have h1:=ref_last hs hn hy hp hc;have h2:=hK.lt;have h3:=flat_end hs hn (K:=kT m y-1) (by omega) ((num0_q hs _).1 hc) x.q;have:=hK.below
   grind
  have hr2:rtQ m (kT m y-1)≠0:=fun e=>hr ((num0_q hs _).2 e)
  have hrp:0<rtQ m (kT m y-1):=by have:=hnn _ hK.lt;grind
  have hzo:=inv_ok hs hy hr;have hzq:=q_inv hs hy hr;obtain ⟨b1,b2⟩:=inv_bounds hs.inc hnn hK hrp;have hgd:∃p:Nat,0<p∧p≤50∧Gd (12*(2000*p)) ((2534720:Nat):Rat) (invT m y).q:=by
   rcases hi _ hK.lt with e|⟨p,p1,p2,p3⟩
   ·exact absurd e hr2
   refine ⟨p,p1,p2,?_⟩;rw [hzq];unfold invF;have e1:(y.q-begF (frQ m) (rtQ m) (kT m y-1))/rtQ m (kT m y-1)=(y.q-begF (frQ m) (rtQ m) (kT m y-1))*(1/rtQ m (kT m y-1)):=by grind
   rw [e1];rw [←hq] at hyg;have g1:=(hyg.sub (beg_gd h hK.lt)).mul p3;rw [←Rat.natCast_add, ←Rat.natCast_mul,show 24000*p=12*(2000*p) by omega] at g1;have g2:=((h.fr (kT m y-1)).times (2000*p)).add g1;rw [←Rat.natCast_add] at g2;exact g2
  have hfz:fitT (invT m y)=true:=by
   obtain ⟨p,p1,p2,p3⟩:=hgd;refine fit_far hzo (by omega) p3 ?_ ?_
   ·exact Nat.lt_of_le_of_lt (show 12*(2000*p)≤1200000 by omega) (by decide)
   ·exact Nat.lt_of_le_of_lt (Nat.mul_le_mul_left 2534720 (show 12*(2000*p)≤1200000 by omega)) (by decide)
  refine ⟨invT m y,hzo,by rw [invV_pos hs hn hy hfy hp,if_neg hr,if_pos hfz],hfz,?_,fun hx0=> ?_,?_,fun u hu u0 u1=> ?_,hgd⟩
  ·have:=hs.inc.le (i:=0) (j:=kT m y-1) (by omega) hK.lt;have:=hs.zeroQ;grind
  ·rcases Classical.em (x.q<(invT m y).q) with hlt|hlt
   ·exfalso
    rw [hzq] at hlt;have:=inv_least hs.inc hnn hK hrp hlt
    grind
   ·grind
  ·refine q_inj (val_ok hs hzo _) hy ?_;rw [q_val hs hzo,hzq];exact inv_val hs.inc hnn hK hrp
  ·rw [q_val hs hu];rw [hzq] at u1;exact inv_least hs.inc hnn hK hrp u1
theorem less_fit {m:List BT} (h:Mild m) {u:Rt} (hu:u.Ok) {p j:Nat} (hp:0<p∧p≤50) (hj:0<j∧j≤1000) (hg:Gd (12*(2000*p*j)) ((2534721:Nat):Rat) u.q):fitT u=true∧fitT (valT m u m.length)=true:=by
 have hb:2000*p*j≤100000000:=Nat.mul_le_mul (show 2000*p≤100000 by omega) hj.2;have hq:0<2000*p*j:=Nat.mul_pos (by omega) hj.1
 generalize 2000*p*j=e at hb hq hg
 have h1:12*e≤1200000000:=by omega
 have h2:400*(12*e)≤480000000000:=by omega
 refine ⟨fit_far hu (by omega) hg (Nat.lt_of_le_of_lt h1 (by decide)) (Nat.lt_of_le_of_lt (Nat.mul_le_mul_left 2534721 h1) (by decide)),?_⟩;exact at_fit h hu (e:=e) (B:=2534721) hq hg (by decide) (Nat.lt_of_le_of_lt h2 (by decide)) (Nat.lt_of_le_of_lt (Nat.mul_le_mul_left _ h2) (by decide))
def halfT (z:Rt):Rt:=mulR z (fracT 1 2)
def belowT (z:Rt) (n:Int):Rt:=subR z (fracT 1 (n%1000+1))
theorem part_unit (n:Int):(fracT 1 (n%1000+1)).Ok∧0<(fracT 1 (n%1000+1)).q∧∃j:Nat,0<j∧j≤1000∧Gd j ((1:Nat):Rat) (fracT 1 (n%1000+1)).q:=by
 have h1:=mod_in n (show (0:Int)<1000 by decide);refine ⟨frac_ok _ (by omega),by rw [frac_q _ (by omega)];exact div_pos' (by decide) (rat_pos (by omega)),(n%1000+1).toNat,by omega,by omega,?_⟩;exact frac_gd (by omega) ⟨1,by omega⟩ (by omega) (by omega)
theorem half_back {m:List BT} (h:Mild m) {x y z:Rt} (hb:Back m x y z):(halfT z).Ok∧(halfT z).q≤z.q∧fitT (halfT z)=true∧fitT (valT m (halfT z) m.length)=true:=by
 have ho:(fracT 1 2).Ok:=frac_ok 1 (by decide);have hg:Gd 2 ((1:Nat):Rat) (fracT 1 2).q:=frac_gd (by decide) ⟨1,rfl⟩ (by decide) (by decide);have hq:(fracT 1 2).q=1/2:=by rw [frac_q _ (by decide)];rfl
 have hk:(halfT z).Ok:=mulR_ok hb.ok ho;have hv:(halfT z).q=z.q*(fracT 1 2).q:=q_mul hb.ok ho;obtain ⟨p,p1,p2,p3⟩:=hb.gd;refine ⟨hk,by rw [hv,hq];have:=hb.nn;grind,less_fit h hk ⟨p1,p2⟩ (j:=2) (by decide) ?_⟩;rw [hv];have:=p3.mul hg;rw [←Rat.natCast_mul,show 12*(2000*p)*2=12*(2000*p*2) by omega] at this;exact this.bound (by rw [Rat.natCast_le_natCast];decide)
theorem below_back {m:List BT} (h:Mild m) {x y z:Rt} (hb:Back m x y z) (n:Int):(belowT z n).Ok∧(belowT z n).q≤z.q∧fitT (belowT z n)=true∧fitT (valT m (belowT z n) m.length)=true:=by
 obtain ⟨ho,h0,j,j1,j2,hg⟩:=part_unit n;have hk:(belowT z n).Ok:=subR_ok hb.ok ho;have hv:(belowT z n).q=z.q-(fracT 1 (n%1000+1)).q:=q_sub hb.ok ho;obtain ⟨p,p1,p2,p3⟩:=hb.gd;refine ⟨hk,by rw [hv];grind,less_fit h hk ⟨p1,p2⟩ (j:=j) ⟨j1,j2⟩ ?_⟩;rw [hv];have g1:=p3.times j;have g2:=hg.times (12*(2000*p));rw [show j*(12*(2000*p))=12*(2000*p)*j from Nat.mul_comm _ _] at g2;have:=g1.sub g2;rw [←Rat.natCast_add,show 12*(2000*p)*j=12*(2000*p*j) from Nat.mul_assoc _ _ _] at this;exact this
theorem unit_fit (n:Int):fitT (fracT (-1) (n%1000+1))=true∧(fracT (-1) (n%1000+1)).Ok∧(fracT (-1) (n%1000+1)).q<0:=by
 have h1:=mod_in n (show (0:Int)<1000 by decide);have ho:(fracT (-1) (n%1000+1)).Ok:=frac_ok _ (by omega);refine ⟨?_,ho,?_⟩
 ·have hg:Gd (n%1000+1).toNat ((1:Nat):Rat) (fracT (-1) (n%1000+1)).q:=frac_gd (by omega) ⟨1,by omega⟩ (by omega) (by omega);exact fit_far ho (by omega) hg (Nat.lt_of_le_of_lt (show _≤1000 by omega) (by decide)) (Nat.lt_of_le_of_lt (show _≤1000 by omega) (by decide))
 ·rw [frac_q _ (by omega)];have:=div_pos' (show (0:Rat)<1 by decide) (rat_pos (show 0<n%1000+1 by omega));have e:(((-1:Int):Rat))= -1:=rfl;rw [e];grind
def flatB (m:List BT):List BT:=m.set (m.length-1) (frT m (m.length-1),zeroR)
theorem flatB_len (m:List BT):(flatB m).length=m.length:=List.length_set
theorem flat_top {m:List BT} (h:Mild m) (hn:fallsT m=false) (n:Int) :
  fitT (frT m (m.length-1))=true∧(frT m (m.length-1)).Ok∧fitT (valT (flatB m) (frT m (m.length-1)) (flatB m).length)=true∧Rz (valT (flatB m) (frT m (m.length-1)) (flatB m).length) 50∧(valT (flatB m) (frT m (m.length-1)) (flatB m).length).Ok ∧
   invV ((flatB m).map rawB) (rawR (addR (valT (flatB m) (frT m (m.length-1)) (flatB m).length) (fracT 1 (n%1000+1))))=(zrow,15):=by
 have hp:=h.sch.pos;have hk:m.length-1<m.length:=by omega
 have hm:Mild (flatB m):=set_mild h hk;have hl:=flatB_len m;have hfr:frT (flatB m) (m.length-1)=frT m (m.length-1):=set_fr hk _;have hnn:fallsT (flatB m)=false:=set_nn h hk hn;have hx:=h.sch.frOk (m.length-1);have hfx:fitT (frT m (m.length-1))=true:=by
  rw [frT_at hk];exact (h.sch.fit _ (List.getElem_mem hk)).1
 have hv:fitT (valT (flatB m) (frT m (m.length-1)) (flatB m).length)=true :=
  amt_val hm hx (((h.fr _).times 5).bound (by rw [Rat.natCast_le_natCast];decide))
 have hto:=val_ok hm.sch hx (flatB m).length;have htq:(valT (flatB m) (frT m (m.length-1)) (flatB m).length).q=begF (frQ (flatB m)) (rtQ (flatB m)) (m.length-1):=by
  rw [q_val hm.sch hx, ←hfr];exact val_beg hm.sch.inc (by omega)
 have hbg:=beg_gd hm (k:=m.length-1) (by omega);refine ⟨hfx,hx,hv,fitT_sz hv,hto,?_⟩;obtain ⟨t,ht⟩:∃t,valT (flatB m) (frT m (m.length-1)) (flatB m).length=t:=⟨_,rfl⟩;rw [ht] at hto htq ⊢;obtain ⟨ho,h0,j,j1,j2,hg⟩:=part_unit n;have hyo:=addR_ok hto ho;have hyq:=q_add hto ho;have hfy:fitT (addR t (fracT 1 (n%1000+1)))=true:=by
  have g1:=hbg.times j;have g2:=hg.times 24000;rw [Nat.mul_comm j] at g2;have g3:=g1.add g2;rw [←htq, ←hyq, ←Rat.natCast_add] at g3;have hb:24000*j≤24000000:=by omega
  exact fit_far hyo (by omega) g3 (Nat.lt_of_le_of_lt hb (by decide)) (Nat.lt_of_le_of_lt (Nat.mul_le_mul_left _ hb) (by decide))
 have hb0:0≤begF (frQ (flatB m)) (rtQ (flatB m)) (m.length-1):=by
  have:=beg_mono hm.sch.inc (rate_nn hm.sch hnn) (i:=0) (j:=m.length-1) (by omega) (by omega);have e:begF (frQ (flatB m)) (rtQ (flatB m)) 0=0:=rfl
  grind
 have hyp:0<(addR t (fracT 1 (n%1000+1))).q:=by rw [hyq,htq];grind
 rw [invV_pos hm.sch hnn hyo hfy hyp,if_pos];have hkT:kT (flatB m) (addR t (fracT 1 (n%1000+1)))=m.length:=by
  rw [kT_eq hm.sch hyo];refine (cntB_unique (by omega) (fun k hk2=> ?_) (fun k h1 h2=>by omega)).symm;have:=beg_mono hm.sch.inc (rate_nn hm.sch hnn) (i:=k) (j:=m.length-1) (by omega) (by omega);exact decide_eq_false (by rw [hyq,htq];grind)
 rw [hkT,show rtT (flatB m) (m.length-1)=zeroR from by unfold flatB;rw [set_rt hk,if_pos rfl]]
 rfl
end Go.Proofs.YtblgfmjlajhipaaGreatDoor
