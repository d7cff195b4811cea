/- Contracts that the proofs of this seat share. Each theorem names its conditions. -/

import Derived.Test.YtblgfmjlajhipaaGreatDoorZc2
import Derived.Test.YtblgfmjlajhipaaGreatDoorZb5
set_option maxHeartbeats 16000000
set_option linter.unusedVariables false
namespace Go.Proofs.YtblgfmjlajhipaaGreatDoor
open Go.RowKit Go.Shelf
open Dgt
theorem begs_open {W:World} {v:Value} {m:List BT} {n:Nat} (h:LstR W v (begs m n)) (h0:0<n):∃g off c,v=.slice (some ⟨g,off,none⟩) n c∧∀k,k<n→∀V,Below W.heap.size W V→V.cell? ⟨g,off+k*3,none⟩=some (.bool (begT m k).neg)∧V.cell? ⟨g,off+k*3+1,none⟩=some (.string (encS (begT m k).num))∧V.cell? ⟨g,off+k*3+2,none⟩=some (.string (encS (begT m k).den)):=by
 obtain ⟨g,off,c,rfl,-⟩:=begs_at h h0;refine ⟨g,off,c,rfl,fun k hk=> ?_⟩;obtain ⟨g2,off2,c2,e,h2⟩:=begs_at h hk;simp only [Value.slice.injEq,Option.some.injEq,Addr.mk.injEq,and_true,true_and] at e;obtain ⟨⟨rfl,rfl⟩,-⟩:=e;exact h2
theorem invV_of {l:List Bk} {x:Rw}:invV l x=if ckB l=0 then (if (fallsT (valsB l)|| !x.right)=true then (zrow,1) else if fitsR x=true then (if sgnR x.val<0 then (zrow,15) else if sgnR x.val=0 then (x,0) else if (rtT (valsB l) (kT (valsB l) x.val-1)).num=0 then (zrow,15) else fitV (invT (valsB l) x.val)) else (zrow,3)) else (zrow,ckB l):=rfl
theorem sgn_posq {a:Rt} (ha:a.Ok) (h1:¬sgnR a<0) (h2:¬sgnR a=0):0<a.q:=(q_sgn ha).2.1.1 (by rcases sgn_cases a with h|h|h<;>omega)
def Ereach_any_1_1 (n:Nat) (k:Nat) (gs:Nat) (os:Nat) (cs:Nat) (bs:Rt) (x:Rw) (z:Int) (tz:Bool):Nat→Value
 | 0=>.slice (some ⟨gs,os,none⟩) n cs
 | 1=>.int .i64 (k:Int)
 | 2=>.pointer (some ⟨gs,os+k*3,none⟩)
 | 3=>.agg #[.bool bs.neg,.string (encS bs.num),.string (encS bs.den)]
 | 4=>.agg #[.bool x.neg,.string x.n,.string x.d]
 | 5=>.int .i64 z
 | 6=>.bool tz
 | 7=>.bool tz
 | _=>undef
set_option maxRecDepth 100000 in
theorem reach_any (n k gs os cs b7 bx:Nat) (bs:Rt) (x:Rw) (hk:k<n) (hb:bs.Ok) (hbz:Rz bs 5000) (hx:x.n.size≤50∧x.d.size≤50) (wq:World) (hat:∀V,Below wq.heap.size wq V→V.cell? ⟨gs,os+k*3,none⟩=some (.bool bs.neg)∧V.cell? ⟨gs,os+k*3+1,none⟩=some (.string (encS bs.num))∧V.cell? ⟨gs,os+k*3+2,none⟩=some (.string (encS bs.den))) (hs:wq.heap[b7]? =some (.cells #[.slice (some ⟨gs,os,none⟩) n cs] 54 (0,0))) (hx2:wq.heap[bx]? =some (.cells #[.bool x.neg,.string x.n,.string x.d] 29 (0,0))) :
  Gv 72 #[.int .i64 (k:Int),.pointer (some ⟨b7,0,none⟩),.pointer (some ⟨bx,0,none⟩)] wq (.bool (decide (0≤cmpR bs x.val))):=by
 unfold Gv;have HE:=hD hat;have HXs:=hD hs;have HXx:=hD hx2;have HKN:=hD hk;have c1:=fun w=>RatCmp_r (IsR.of hb hbz) (isR_raw (r:=x) (k:=5000) ⟨by omega,by omega⟩) (by decide) (by decide) w
 obtain ⟨z,hz⟩:∃z,cmpR bs x.val=z:=⟨_,rfl⟩;rw [hz] at c1 ⊢;have C1:Hid (∀w,Gv 66 #[rtV bs,.agg #[.bool x.neg,.string x.n,.string x.d]] w (.int .i64 z)):=hD c1;obtain ⟨tz,htz⟩:∃xq,decide (0≤z)=xq:=⟨_,rfl⟩;have Htz:=hD htz;clear htz;rw [Htz.out];clear c1 hz hat hs hx2 hb hbz hx hk;have HB:=hD (Below.refl wq.heap.size wq);obtain ⟨n0,hn0⟩:∃n,n=wq.heap.size:=⟨_,rfl⟩;rw [←hn0];have HN0:=hD hn0;clear hn0;go_enter Tryz.func72,Tryz.ntmps72;go_wp2_with fail;refine wpVl (w:=wq) (by kernel_rfl) (fun ix v _=>v=Ereach_any_1_1 n k gs os cs bs x z tz ix) (fun t=>(decide (4≤t)&&decide (t<12))) (by kernel_rfl) (by kernel_rfl) (by kernel_rfl) (fun _ _ _ _ _ h=>h) ?_ ?_
 ·intro i hi ov_ listed av_ w hR K hK;have ho:=hR.at_;have hi:i<8:=hi;have hii:i=0∨i=1∨i=2∨i=3∨i=4∨i=5∨i=6∨i=7:=by omega
  rcases hii with rfl|rfl|rfl|rfl|rfl|rfl|rfl|rfl<;>(simp at ho;subst ho)
  ·have b1:av_.tmps.getD 1 undef=.pointer (some ⟨b7,0,none⟩):=hR.b 1;have cx0:w.cell? ⟨b7,0,none⟩=some (.slice (some ⟨gs,os,none⟩) n cs):=by rw [Lib.cell_of_heap (hpU hR.below HXs.out)];rfl
   refine pSq ?_;go_simp;exact hK _ _ rfl rB
  ·have b0:av_.tmps.getD 0 undef=.int .i64 (k:Int):=hR.b 0;refine pSq ?_;go_simp;exact hK _ _ rfl rB
  ·have e0:av_.tmps.getD 5 undef=.slice (some ⟨gs,os,none⟩) n cs:=hR.d 0;have e1:av_.tmps.getD 6 undef=.int .i64 (k:Int):=hR.d 1;have hk3:(k:Int)<(n:Int):=by have:=HKN.out;omega
   refine pSq ?_;go_simp;exact hK _ _ rfl rB
  ·have e2:av_.tmps.getD 7 undef=.pointer (some ⟨gs,os+k*3,none⟩):=hR.d 2;obtain ⟨cx0,cx1,cx2⟩:=HE.out _ (HB.out.trans (hR.below.mono HB.out.size));refine pSq ?_;go_simp;exact hK _ _ rfl rB
  ·have b2:av_.tmps.getD 2 undef=.pointer (some ⟨bx,0,none⟩):=hR.b 2;obtain ⟨cx0,cx1,cx2⟩:=c3 (uH hR.below HXx);refine pSq ?_;go_simp;exact hK _ _ rfl rB
  ·have e3:av_.tmps.getD 8 undef=.agg #[.bool bs.neg,.string (encS bs.num),.string (encS bs.den)]:=hR.d 3;have e4:av_.tmps.getD 9 undef=.agg #[.bool x.neg,.string x.n,.string x.d]:=hR.d 4;refine pSq ?_;go_simp;refine (C1.out w).mono ?_;rintro e w' ⟨rfl,hb⟩;exact hK _ _ (rfl) hb
  ·have e5:av_.tmps.getD 10 undef=.int .i64 z:=hR.d 5;have htz:=Htz.out;refine pSq ?_;go_simp;exact hK _ _ rfl rB
  ·have e6:av_.tmps.getD 11 undef=.bool tz:=hR.d 6;refine pSq ?_;go_simp;exact hK _ _ rfl rB
 ·intro sv_ w hS hb;have e7:sv_ 4=.bool tz:=hS 7 (by decide);simp only [over,ovL,Nat.reduceAdd,Nat.reduceLeDiff,Nat.reduceLT];have HB:=mH HB hb;have HXs:=uH hb HXs;have HXx:=uH hb HXx;obtain ⟨w1,hw⟩:∃w8,w8=w:=⟨_,rfl⟩;subst hw;rw [e7];clear hS hb e7;go_wp2_with fail;go_ret;exact ⟨rfl,by rw [HN0.out];exact HB.out⟩
def EInverse_any_14_1 (ca:Nat) (cs:Nat) (m:List BT) (gl:Nat) (off:Nat) (gs:Nat) (os:Nat) (j:Nat) (rt:Rt) (df:Rt) (bs:Rt) (x:Rw) (bk2:Nat):Nat→Value
 | 0=>.agg #[.bool x.neg,.string x.n,.string x.d]
 | 1=>.slice (some ⟨gs,os,none⟩) m.length cs
 | 2=>.int .i64 (j:Int)
 | 3=>.pointer (some ⟨gs,os+j*3,none⟩)
 | 4=>.agg #[.bool bs.neg,.string (encS bs.num),.string (encS bs.den)]
 | 5=>.agg #[.bool df.neg,.string (encS df.num),.string (encS df.den)]
 | 6=>.pointer (some ⟨bk2,3,none⟩)
 | 7=>.slice (some ⟨gl,off,none⟩) m.length ca
 | 8=>.int .i64 (j:Int)
 | 9=>.pointer (some ⟨gl,off+j*6,none⟩)
 | 10=>.pointer (some ⟨gl,off+j*6+3,none⟩)
 | 11=>.agg #[.bool rt.neg,.string (encS rt.num),.string (encS rt.den)]
 | 12=>.tuple #[.agg #[.bool false,.string ⟨#[]⟩,.string ⟨#[]⟩],.bool false]
 | 13=>.tuple #[.agg #[.bool false,.string ⟨#[]⟩,.string ⟨#[]⟩],.bool false]
 | 14=>.agg #[.bool false,.string ⟨#[]⟩,.string ⟨#[]⟩]
 | 15=>.bool false
 | 16=>undef
 | 17=>undef
 | 18=>.bool false
 | _=>undef
def EInverse_any_14_2 (ca:Nat) (cs:Nat) (m:List BT) (gl:Nat) (off:Nat) (gs:Nat) (os:Nat) (j:Nat) (rt:Rt) (df:Rt) (bs:Rt) (qu:Rt) (x:Rw) (bk2:Nat):Nat→Value
 | 0=>.agg #[.bool x.neg,.string x.n,.string x.d]
 | 1=>.slice (some ⟨gs,os,none⟩) m.length cs
 | 2=>.int .i64 (j:Int)
 | 3=>.pointer (some ⟨gs,os+j*3,none⟩)
 | 4=>.agg #[.bool bs.neg,.string (encS bs.num),.string (encS bs.den)]
 | 5=>.agg #[.bool df.neg,.string (encS df.num),.string (encS df.den)]
 | 6=>.pointer (some ⟨bk2,3,none⟩)
 | 7=>.slice (some ⟨gl,off,none⟩) m.length ca
 | 8=>.int .i64 (j:Int)
 | 9=>.pointer (some ⟨gl,off+j*6,none⟩)
 | 10=>.pointer (some ⟨gl,off+j*6+3,none⟩)
 | 11=>.agg #[.bool rt.neg,.string (encS rt.num),.string (encS rt.den)]
 | 12=>.tuple #[.agg #[.bool qu.neg,.string (encS qu.num),.string (encS qu.den)],.bool true]
 | 13=>.tuple #[.agg #[.bool qu.neg,.string (encS qu.num),.string (encS qu.den)],.bool true]
 | 14=>.agg #[.bool qu.neg,.string (encS qu.num),.string (encS qu.den)]
 | 15=>.bool true
 | 16=>undef
 | 17=>undef
 | 18=>.bool true
 | _=>undef
def EInverse_any_17_3 (ca:Nat) (m:List BT) (gl:Nat) (off:Nat) (j:Nat) (fr:Rt) (qu:Rt) (z:Rt) (r:Rw) (c:Int) (bk2:Nat):Nat→Value
 | 0=>.pointer (some ⟨bk2,3,none⟩)
 | 1=>.slice (some ⟨gl,off,none⟩) m.length ca
 | 2=>.int .i64 (j:Int)
 | 3=>.pointer (some ⟨gl,off+j*6,none⟩)
 | 4=>.pointer (some ⟨gl,off+j*6,none⟩)
 | 5=>.agg #[.bool fr.neg,.string (encS fr.num),.string (encS fr.den)]
 | 6=>.agg #[.bool qu.neg,.string (encS qu.num),.string (encS qu.den)]
 | 7=>.agg #[.bool z.neg,.string (encS z.num),.string (encS z.den)]
 | 8=>.tuple #[.agg #[.bool r.neg,.string r.n,.string r.d],.int .i64 c]
 | 9=>.agg #[.bool r.neg,.string r.n,.string r.d]
 | 10=>.int .i64 c
 | _=>undef
set_option maxRecDepth 100000 in
theorem Inverse_any (nm:ByteArray) (um ud:Int) (v:Value) (l:List Bk) (x:Rw) (hz:SzK l 1100000) (hx:x.n.size≤1100000∧x.d.size≤1100000) (wq:World) (hl:LstK wq v l) :
  Gv 29 #[.agg #[.string nm,.int .i64 um,.int .i64 ud,v],.agg #[.bool x.neg,.string x.n,.string x.d]] wq (.tuple #[.agg #[.bool (invV l x).1.neg,.string (invV l x).1.n,.string (invV l x).1.d],.int .i64 (invV l x).2]):=by
 unfold Gv;have HL:=hD hl;have HZ:=hD hz;clear hl hz;have HV:=hD (invV_of (l:=l) (x:=x));have c1:=fun w h=>Check_any nm um ud v l HZ.out w (HL.out.up h);have c2:=fun w h=>falls_any nm um ud v l HZ.out w (HL.out.up h)
 have c3:=fun w=>RatRight_any x.neg x.n x.d w (by omega) (by omega);have c4:=fun w=>MoFits_any x (by omega) (by omega) w;have c5:=fun w=>RatSign_r (isR_raw hx) (by decide) w
 have HCK:=hD (ck_right (l:=l));have HFX:=hD (fun h:fitsR x=true=>fitT_sz (fits_val h));have HRX:=hD (val_raw (r:=x));have HFR:=hD (fits_right (r:=x));obtain ⟨C,hC⟩:∃c,ckB l=c:=⟨_,rfl⟩;obtain ⟨F,hF⟩:∃b,fallsT (valsB l)=b:=⟨_,rfl⟩;obtain ⟨P,hP⟩:∃b,x.right=b:=⟨_,rfl⟩;obtain ⟨Q,hQ⟩:∃b,fitsR x=b:=⟨_,rfl⟩;obtain ⟨sg,hs⟩:∃b,sgnR x.val=b:=⟨_,rfl⟩;rw [hC] at c1 HV HCK;rw [hF] at c2 HV;rw [show rightR x.neg x.n x.d=P from hP] at c3;rw [hP] at HV HRX HFR;rw [hQ] at c4 HV HFX HFR;rw [hs] at c5 HV;have HSG:=hD hs;have HFF:=hD hF;obtain ⟨V,hV⟩:∃v,invV l x=v:=⟨_,rfl⟩;rw [hV] at HV ⊢;have C1:Hid (∀w,Below wq.heap.size wq w→Gv 22 #[.agg #[.string nm,.int .i64 um,.int .i64 ud,v]] w (.int .i64 C)):=hD fun w hp0=>c1 w hp0
 have C2:Hid (∀w,Below wq.heap.size wq w→Gv 70 #[.agg #[.string nm,.int .i64 um,.int .i64 ud,v]] w (.bool F)):=hD fun w hp0=>c2 w hp0
 have C3:Hid (∀w,Gv 64 #[.agg #[.bool x.neg,.string x.n,.string x.d]] w (.bool P)):=hD c3;have C4:Hid (∀w,Gv 69 #[.agg #[.bool x.neg,.string x.n,.string x.d]] w (.bool Q)):=hD c4;have C5:Hid (∀w,Gv 65 #[.agg #[.bool x.neg,.string x.n,.string x.d]] w (.int .i64 sg)):=hD c5;clear c1 c2 c3 c4 c5 hC hF hP hQ hs hV hx;have HB:=hD (Below.refl wq.heap.size wq);obtain ⟨n0,hn0⟩:∃n,n=wq.heap.size:=⟨_,rfl⟩;rw [←hn0];have HN0:=hD hn0;clear hn0;go_enter Tryz.func29,Tryz.ntmps29;obtain ⟨W1,bk2,hW1,hbk2,HX2_1,HB,HG2_1,hup⟩:=boxn HB HN0 (.cells #[.string nm,.int .i64 um,.int .i64 ud,v] 26);clear hup;obtain ⟨W2,bk3,hW2,hbk3,HX3_2,HB,HG3_2,hup⟩:=boxn HB HN0 (.cells #[.bool x.neg,.string x.n,.string x.d] 29);have HL3_2:=(hup _ _ HX2_1).2;have HX2_1:=(hup _ _ HX2_1).1;clear hup;obtain ⟨W3,bk4,hW3,hbk4,HX4_3,HB,HG4_3,hup⟩:=boxZ HB HN0;have HL4_3:=(hup _ _ HX3_2).2;have HX2_1:=(hup _ _ HX2_1).1
 have HX3_2:=(hup _ _ HX3_2).1;clear hup;have k4:W3.cell? ⟨bk2,0,none⟩=some (.string nm):=by rw [Lib.cell_of_heap HX2_1.out];rfl
 have k5:W3.cell? ⟨bk2,1,none⟩=some (.int .i64 um):=by rw [Lib.cell_of_heap HX2_1.out];rfl
 have k6:W3.cell? ⟨bk2,2,none⟩=some (.int .i64 ud):=by rw [Lib.cell_of_heap HX2_1.out];rfl
 have k7:W3.cell? ⟨bk2,3,none⟩=some (v):=by rw [Lib.cell_of_heap HX2_1.out];rfl
 go_wp2_with fail;clear hW1 hbk2 hW2 hbk3 hW3 hbk4 k4 k5 k6 k7;refine (C1.out _ HB.out).mono ?_;rintro e w4 ⟨rfl,hb⟩;have HX2_1:=uH hb HX2_1;have HX3_2:=uH hb HX3_2;have HX4_3:=uH hb HX4_3;have HB:=mH HB hb;clear hb
 by_cases hc0:C=0
 ·subst hc0;have k8:w4.cell? ⟨bk2,0,none⟩=some (.string nm):=by rw [Lib.cell_of_heap HX2_1.out];rfl
  have k9:w4.cell? ⟨bk2,1,none⟩=some (.int .i64 um):=by rw [Lib.cell_of_heap HX2_1.out];rfl
  have k10:w4.cell? ⟨bk2,2,none⟩=some (.int .i64 ud):=by rw [Lib.cell_of_heap HX2_1.out];rfl
  have k11:w4.cell? ⟨bk2,3,none⟩=some (v):=by rw [Lib.cell_of_heap HX2_1.out];rfl
  go_wp2_with fail;clear k8 k9 k10 k11;refine (C2.out _ HB.out).mono ?_;rintro e w5 ⟨rfl,hb⟩;have HX2_1:=uH hb HX2_1;have HX3_2:=uH hb HX3_2;have HX4_3:=uH hb HX4_3;have HB:=mH HB hb;clear hb;cases F
  case false =>
   obtain ⟨k12a,k12b,k12c⟩:=c3 HX3_2;go_wp2_with fail;clear k12a k12b k12c;refine (C3.out _).mono ?_;rintro e w6 ⟨rfl,hb⟩;have HX2_1:=uH hb HX2_1;have HX3_2:=uH hb HX3_2;have HX4_3:=uH hb HX4_3;have HB:=mH HB hb;clear hb;cases P
   case false =>
    have hV:V=(zrow,1):=HV.out;subst hV;obtain ⟨W7,hW7,HX4_3,HB,ho,f13a,f13b,f13c,k13a,k13b,k13c⟩:=putZ HX4_3 HB HN0 HG4_3;have HX2_1:=ho _ _ (en2 HL3_2 HL4_3) HX2_1;have HX3_2:=ho _ _ (en1 HL4_3) HX3_2;clear ho;go_wp2_with fail;clear f13a f13b f13c k13a k13b k13c hW7;refine bodyPost_ret (rC2 HX4_3.out) rfl ?_;exact ⟨rfl,by rw [HN0.out];exact HB.out⟩
   case true =>
    obtain ⟨k14a,k14b,k14c⟩:=c3 HX3_2;go_wp2_with fail;clear k14a k14b k14c;refine (C4.out _).mono ?_;rintro e w8 ⟨rfl,hb⟩;have HX2_1:=uH hb HX2_1;have HX3_2:=uH hb HX3_2;have HX4_3:=uH hb HX4_3;have HB:=mH HB hb;clear hb;cases Q
    case false =>
     have hV:V=(zrow,3):=HV.out;subst hV;obtain ⟨W9,hW9,HX4_3,HB,ho,f15a,f15b,f15c,k15a,k15b,k15c⟩:=putZ HX4_3 HB HN0 HG4_3;have HX2_1:=ho _ _ (en2 HL3_2 HL4_3) HX2_1;have HX3_2:=ho _ _ (en1 HL4_3) HX3_2;clear ho;go_wp2_with fail;clear f15a f15b f15c k15a k15b k15c hW9;refine bodyPost_ret (rC2 HX4_3.out) rfl ?_;exact ⟨rfl,by rw [HN0.out];exact HB.out⟩
    case true =>
     obtain ⟨k16a,k16b,k16c⟩:=c3 HX3_2;go_wp2_with fail;clear k16a k16b k16c;refine (C5.out _).mono ?_;rintro e w10 ⟨rfl,hb⟩;have HX2_1:=uH hb HX2_1;have HX3_2:=uH hb HX3_2;have HX4_3:=uH hb HX4_3;have HB:=mH HB hb;clear hb;obtain ⟨tn,htn⟩:∃xq,decide (sg<0)=xq:=⟨_,rfl⟩;have Htn:=hD htn;clear htn;cases tn
     case false =>
      have q17:=Htn.out;obtain ⟨k18a,k18b,k18c⟩:=c3 HX3_2;go_wp2_with fail;clear q17 k18a k18b k18c;refine (C5.out _).mono ?_;rintro e w11 ⟨rfl,hb⟩;have HX2_1:=uH hb HX2_1;have HX3_2:=uH hb HX3_2;have HX4_3:=uH hb HX4_3;have HB:=mH HB hb;clear hb
      by_cases hs0:sg=0
      ·have hV:V=(x,0):=by rw [HV.out];simp [hs0]
       subst hV;have hsz:(sg==0)=true:=by rw [hs0];rfl
       clear HV Htn;obtain ⟨k19a,k19b,k19c⟩:=c3 HX3_2;obtain ⟨W12,hW12,HX4_3,HB,ho,f20a,f20b,f20c,k20a,k20b,k20c⟩:=put3 HX4_3 HB HN0 HG4_3 (.bool x.neg) (.string x.n) (.string x.d);have HX2_1:=ho _ _ (en2 HL3_2 HL4_3) HX2_1;have HX3_2:=ho _ _ (en1 HL4_3) HX3_2;clear ho;go_wp2_with fail;clear k19a k19b k19c f20a f20b f20c k20a k20b k20c hW12;refine bodyPost_ret (rC2 HX4_3.out) rfl ?_;exact ⟨rfl,by rw [HN0.out];exact HB.out⟩
      ·have hsz:(sg==0)=false:=by simpa using hs0
       have hnn:¬sg<0:=by have:=Htn.out;simpa using this
       obtain ⟨hS,hm⟩:=HCK.out (by trivial);obtain ⟨m,hmm⟩:∃m,valsB l=m:=⟨_,rfl⟩;rw [hmm] at hS hm HV HFF;have hV:V=if (rtT m (kT m x.val-1)).num=0 then (zrow,15) else fitV (invT m x.val):=by rw [HV.out];simp [hnn,hs0]
       obtain ⟨y,hy⟩:∃y,x.val=y:=⟨_,rfl⟩;rw [hy] at hV HSG HFX HRX;have hyo:y.Ok:=by rw [←hy];exact x.val_ok
       have hyz:=HFX.out (by trivial);have hxr:rawR y=x:=HRX.out (by trivial);have hpq:=sgn_posq hyo (by rw [HSG.out];exact hnn) (by rw [HSG.out];exact hs0);have HKT:=hD (kth hS HFF.out hyo hpq);have HKP:=hD (k_pos hS hyo hpq);have HUP:=hD (fun (a b:Nat) (hab:a≤b) (hb:b<m.length) h=>beg_up hS HFF.out hyo hab hb h);have HV:=hD hV;have HS:=hD hS;have HYO:=hD (And.intro hyo hyz);have hl:=HL.out;rw [hm] at hl;have CS:=hD (fun w (h:Below wq.heap.size wq w)=>sums_any nm um ud v m hS w (hl.up h));obtain ⟨gl,off,ca,hv,hca2,hla,hca⟩:=hl.openS hS.pos;have HAT:=hD hca;have HLA:=hD hla;subst hv;have HXZ:Hid (x.n.size≤50∧x.d.size≤50):=hD (by rw [←hxr];exact rawR_sz hyz);have HXY:=hD hy;clear hV hS hm hyo hyz hxr hpq hl hca hla hca2 hnn hs0 hy HCK HFX HRX HFR HSG Htn hmm;have k21:w11.cell? ⟨bk2,0,none⟩=some (.string nm):=by rw [Lib.cell_of_heap HX2_1.out];rfl
       have k22:w11.cell? ⟨bk2,1,none⟩=some (.int .i64 um):=by rw [Lib.cell_of_heap HX2_1.out];rfl
       have k23:w11.cell? ⟨bk2,2,none⟩=some (.int .i64 ud):=by rw [Lib.cell_of_heap HX2_1.out];rfl
       have k24:w11.cell? ⟨bk2,3,none⟩=some (.slice (some ⟨gl,off,none⟩) m.length ca):=by rw [Lib.cell_of_heap HX2_1.out];rfl
       go_wp2_with fail;clear hsz k21 k22 k23 k24;refine (CS.out _ HB.out).mono ?_;rintro e w13 ⟨sv7,rfl,hlr,hb⟩;have HX2_1:=uH hb HX2_1;have HX3_2:=uH hb HX3_2;have HX4_3:=uH hb HX4_3;have HB:=mH HB hb;clear hb;obtain ⟨gs,os,cs,rfl,hbg⟩:=begs_open hlr HS.out.pos;have HBG:=hD hbg;clear hlr hbg;obtain ⟨W14,bk7,hW14,hbk7,HX7_25,HB,HG7_25,hup⟩:=boxn HB HN0 (.cells #[.slice none 0 0] 54);have HL7_25:=(hup _ _ HX4_3).2;have HX2_1:=(hup _ _ HX2_1).1;have HX3_2:=(hup _ _ HX3_2).1;have HX4_3:=(hup _ _ HX4_3).1;clear hup;have f26:W14.frozen? ⟨bk7,0,none⟩=false:=frz0 HX7_25.out 0;have k27:W14.cell? ⟨bk7,0,none⟩=some (.slice none 0 0):=by rw [Lib.cell_of_heap HX7_25.out];rfl
       have hB:=(HB.out.setCell (p:=⟨bk7,0,none⟩) (by rw [←HN0.out];exact HG7_25.out) (.slice (some ⟨gs,os,none⟩) m.length cs));have hN:(W14.setCell ⟨bk7,0,none⟩ (.slice (some ⟨gs,os,none⟩) m.length cs)).heap[bk7]? =some (.cells #[.slice (some ⟨gs,os,none⟩) m.length cs] 54 (0,0)):=by simp [World.setCell,Array.getElem?_modify,HX7_25.out]
       have hx2_1:(W14.setCell ⟨bk7,0,none⟩ (.slice (some ⟨gs,os,none⟩) m.length cs)).heap[bk2]? =_:=(row_else HX2_1.out (en3 HL3_2 HL4_3 HL7_25) _);have HX2_1:=hD hx2_1;clear hx2_1;have hx3_2:(W14.setCell ⟨bk7,0,none⟩ (.slice (some ⟨gs,os,none⟩) m.length cs)).heap[bk3]? =_:=(row_else HX3_2.out (en2 HL4_3 HL7_25) _);have HX3_2:=hD hx3_2;clear hx3_2;have hx4_3:(W14.setCell ⟨bk7,0,none⟩ (.slice (some ⟨gs,os,none⟩) m.length cs)).heap[bk4]? =_:=(row_else HX4_3.out (en1 HL7_25) _);have HX4_3:=hD hx4_3;clear hx4_3;obtain ⟨W15,hW15⟩:∃W,(W14.setCell ⟨bk7,0,none⟩ (.slice (some ⟨gs,os,none⟩) m.length cs))=W:=⟨_,rfl⟩;rw [hW15] at hN hB HX2_1 HX3_2 HX4_3;have HX7_25:=hD hN;have HB:=hD hB;clear hN hB;have HBS:Hid (Below w13.heap.size w13 W15):=hD (by rw [←hW15, ←hW14];exact (rB.alloc (Nat.le_refl _) _).setCell (by rw [←hbk7];exact Nat.le_refl _) _)
       have HSE:=hD (fun w (h1:w.heap[bk7]? =some (.cells #[.slice (some ⟨gs,os,none⟩) m.length cs] 54 (0,0))) (h2:w.heap[bk3]? =some (.cells #[.bool x.neg,.string x.n,.string x.d] 29 (0,0))) (h3:Below w13.heap.size w13 w)=>search_any _ #[.pointer (some ⟨bk7,0,none⟩),.pointer (some ⟨bk3,0,none⟩)] m.length (fun k=>decide (0≤cmpR (begT m k) y)) w Fn.enters72 HLA.out (fun k hk w' hb=>by
        have:=reach_any m.length k gs os cs bk7 bk3 (begT m k) x hk (beg_ok HS.out k) ((beg_sz HS.out k).mono (by have:=HS.out.le;omega)) HXZ.out w' (fun V hV=>HBG.out k hk V ((h3.trans (hb.mono h3.size)).trans (hV.mono (h3.trans (hb.mono h3.size)).size))) (hpU hb h1) (hpU hb h2);rw [HXY.out] at this;exact this) HUP.out)
       simp only [show cntB (fun k=>decide (0≤cmpR (begT m k) y)) m.length=kT m y from rfl] at HSE;have k28:W15.cell? ⟨bk7,0,none⟩=some (.slice (some ⟨gs,os,none⟩) m.length cs):=by rw [Lib.cell_of_heap HX7_25.out];rfl
       go_wp2_with fail;clear hW14 hbk7 f26 k27 hW15 k28;refine (HSE.out _ HX7_25.out HX3_2.out HBS.out).mono ?_;rintro e w16 ⟨rfl,hb⟩;have HX2_1:=uH hb HX2_1;have HX3_2:=uH hb HX3_2;have HX4_3:=uH hb HX4_3;have HX7_25:=uH hb HX7_25;have HB:=mH HB hb;have HBS:=mH HBS hb;clear hb;obtain ⟨kn,hkn⟩:∃k,kT m y=k:=⟨_,rfl⟩;rw [hkn] at HKT HKP HV ⊢;obtain ⟨j,hj⟩:=Nat.exists_eq_succ_of_ne_zero (Nat.pos_iff_ne_zero.1 HKP.out);rw [show kn-1=j by omega] at HKT HV;have HJ:Hid (IntKind.i64.wrap ((kn:Int)-1)=(j:Int)∧(j:Int)<(m.length:Int)∧j<m.length):=hD ⟨by rw [IntWalk.i64_in _ (by have:=HKT.out.lt;have:=HLA.out;omega)];omega,by have:=HKT.out.lt;omega,HKT.out.lt⟩;have HIV:Hid (invT m y=addR (frT m j) (quoR (subR y (begT m j)) (rtT m j))):=hD (by unfold invT;rw [hkn,show kn-1=j by omega]);have HE:=hD (HAT.out j HJ.out.2.2);have HE2:=hD (HBG.out j HJ.out.2.2)
       have hs:=HS.out;have hyo:=HYO.out.1;have hyz:=HYO.out.2;have hj8:j≤8:=by have:=HJ.out.2.2;have:=hs.le;omega
       have hbz:=(beg_sz hs j).mono (show 8+152*j≤2000 by omega);have d1:=fun w=>RatSub_r (isR_raw (r:=x) (k:=2000) ⟨by have:=HXZ.out;omega,by have:=HXZ.out;omega⟩) (IsR.of (beg_ok hs j) hbz) (by decide) (by decide) w
       rw [HXY.out] at d1;have hso:=subR_ok hyo (beg_ok hs j);have hsz:=subR_sz (hyz.mono (show 50≤2000 by decide)) hbz;have d2:=fun w=>RatQuo_r (IsR.of hso (hsz.mono (show _≤5000 by decide))) (IsR.of (hs.rtOk j) ((hs.rtSz j).mono (show 50≤5000 by decide))) (by decide) (by decide) w
       have HD3:=hD (fun (h0:(rtT m j).num≠0)=>And.intro (fun w=>RatAdd_r (IsR.of (hs.frOk j) ((hs.frSz j).mono (show 50≤6000 by decide))) (IsR.of (quoR_ok hso (Nat.pos_of_ne_zero h0)) ((quoR_sz hsz (hs.rtSz j)).mono (show _≤6000 by decide))) (by decide) (by decide) w) (fun w=>fitting_any (invT m y) (by rw [HIV.out];exact addR_ok (hs.frOk j) (quoR_ok hso (Nat.pos_of_ne_zero h0))) (by rw [HIV.out];exact (addR_sz (hs.frSz j) (quoR_sz hsz (hs.rtSz j))).mono (by decide)) w));have HQ0:=hD (show quoV (subR y (begT m j)) (rtT m j)=if (rtT m j).num=0 then .tuple #[.agg #[.bool false,.string ⟨#[]⟩,.string ⟨#[]⟩],.bool false] else .tuple #[rtV (quoR (subR y (begT m j)) (rtT m j)),.bool true] from rfl);rw [HIV.out] at HD3 HV;obtain ⟨fr,h1⟩:∃a,frT m j=a:=⟨_,rfl⟩;obtain ⟨rt,h2⟩:∃a,rtT m j=a:=⟨_,rfl⟩;obtain ⟨bs,h3⟩:∃a,begT m j=a:=⟨_,rfl⟩
       rw [h1,h2] at HE;rw [h3] at HE2 d1 d2;rw [h2] at d2;rw [h1,h2,h3] at HD3 HV;rw [h2,h3] at HQ0;obtain ⟨df,h4⟩:∃a,subR y bs=a:=⟨_,rfl⟩;rw [h4] at d1 d2 HD3 HV HQ0;obtain ⟨qu,h5⟩:∃a,quoR df rt=a:=⟨_,rfl⟩;rw [h5] at HD3 HV HQ0;rw [HQ0.out] at d2;have HD2:=hD d2;have hj1:=HJ.out.1;clear d2 hs hyo hyz hj8 hbz hso hsz h1 h2 h3 h4 h5 hkn hj HKT HKP HQ0 HIV;have C6:Hid (∀w,Gv 63 #[.agg #[.bool x.neg,.string x.n,.string x.d],rtV bs] w (.agg #[.bool df.neg,.string (encS df.num),.string (encS df.den)])):=hD d1;clear d1
       by_cases hr0:rt.num=0
       ·have hV:V=(zrow,15):=by rw [HV.out,if_pos hr0]
        subst hV;have d2:=HD2.out;simp only [hr0,if_true] at d2;clear HV HD3 HD2 hr0;have C7:Hid (∀w,Gv 73 #[rtV df,rtV rt] w (.tuple #[.agg #[.bool false,.string ⟨#[]⟩,.string ⟨#[]⟩],.bool false])):=hD d2;clear d2;go_wp2_with fail;clear hj1;refine wp_region_box (w0:=w16) (by kernel_rfl) (fun ix v _=>v=EInverse_any_14_1 ca cs m gl off gs os j rt df bs x bk2 ix) 16 17 (.cells #[.bool false,.string ⟨#[]⟩,.string ⟨#[]⟩] 29 (0,0)) (.cells #[.bool false,.string ⟨#[]⟩,.string ⟨#[]⟩] 29 (0,0)) (fun t=>(decide (9≤t)&&decide (t<11))||(decide (49≤t)&&decide (t<65))) (by kernel_rfl) (by kernel_rfl) (by kernel_rfl) (by decide) (by decide) (by kernel_rfl) rfl (fun _ _ _ _ _ h=>h) ?_ ?_ ?_ ?_
        ·intro i hi hia his ov_ listed av_ w hR K hK;have ho:=hR.at_;have hi:i<19:=hi;have hii:i=0∨i=1∨i=2∨i=3∨i=4∨i=5∨i=6∨i=7∨i=8∨i=9∨i=10∨i=11∨i=12∨i=13∨i=14∨i=15∨i=18:=by omega
         rcases hii with rfl|rfl|rfl|rfl|rfl|rfl|rfl|rfl|rfl|rfl|rfl|rfl|rfl|rfl|rfl|rfl|rfl
         ·simp at ho;subst ho;have b3:av_.tmps.getD 3 undef=.pointer (some ⟨bk3,0,none⟩):=hR.b 3;obtain ⟨cx0,cx1,cx2⟩:=c3 (uH hR.below HX3_2);refine pSq ?_;go_simp;exact hK _ _ rfl rB
         ·simp at ho;subst ho;have b7:av_.tmps.getD 7 undef=.pointer (some ⟨bk7,0,none⟩):=hR.b 7;have cx0:w.cell? ⟨bk7,0,none⟩=some (.slice (some ⟨gs,os,none⟩) m.length cs):=by rw [Lib.cell_of_heap (hpU hR.below HX7_25.out)];rfl
          refine pSq ?_;go_simp;exact hK _ _ rfl rB
         ·simp at ho;subst ho;have b8:av_.tmps.getD 8 undef=.int .i64 (j:Int):=hR.b 8;refine pSq ?_;go_simp;exact hK _ _ rfl rB
         ·simp at ho;subst ho;have e1:av_.tmps.getD 51 undef=.slice (some ⟨gs,os,none⟩) m.length cs:=hR.dep ⟨1,.data⟩ (by simp) rfl (by decide) (by decide);have e2:av_.tmps.getD 52 undef=.int .i64 (j:Int):=hR.dep ⟨2,.data⟩ (by simp) rfl (by decide) (by decide);have hj2:=HJ.out.2.1;refine pSq ?_;go_simp;exact hK _ _ rfl rB
         ·simp at ho;subst ho;have e3:av_.tmps.getD 53 undef=.pointer (some ⟨gs,os+j*3,none⟩):=hR.dep ⟨3,.data⟩ (by simp) rfl (by decide) (by decide);obtain ⟨cx0,cx1,cx2⟩:=HE2.out _ (HBS.out.trans (hR.below.mono HBS.out.size));refine pSq ?_;go_simp;exact hK _ _ rfl rB
         ·simp at ho;subst ho;have e0:av_.tmps.getD 50 undef=.agg #[.bool x.neg,.string x.n,.string x.d]:=hR.dep ⟨0,.data⟩ (by simp) rfl (by decide) (by decide);have e4:av_.tmps.getD 54 undef=.agg #[.bool bs.neg,.string (encS bs.num),.string (encS bs.den)]:=hR.dep ⟨4,.data⟩ (by simp) rfl (by decide) (by decide);refine pSq ?_;go_simp;refine (C6.out w).mono ?_;rintro e w' ⟨rfl,hb⟩;exact hK _ _ (rfl) hb
         ·simp at ho;subst ho;have b2:av_.tmps.getD 2 undef=.pointer (some ⟨bk2,0,none⟩):=hR.b 2;refine pSq ?_;go_simp;exact hK _ _ rfl rB
         ·simp at ho;subst ho;have e6:av_.tmps.getD 56 undef=.pointer (some ⟨bk2,3,none⟩):=hR.dep ⟨6,.data⟩ (by simp) rfl (by decide) (by decide);have cx0:w.cell? ⟨bk2,3,none⟩=some (.slice (some ⟨gl,off,none⟩) m.length ca):=by rw [Lib.cell_of_heap (hpU hR.below HX2_1.out)];rfl
          refine pSq ?_;go_simp;exact hK _ _ rfl rB
         ·simp at ho;subst ho;have b8:av_.tmps.getD 8 undef=.int .i64 (j:Int):=hR.b 8;refine pSq ?_;go_simp;exact hK _ _ rfl rB
         ·simp at ho;subst ho;have e7:av_.tmps.getD 57 undef=.slice (some ⟨gl,off,none⟩) m.length ca:=hR.dep ⟨7,.data⟩ (by simp) rfl (by decide) (by decide);have e8:av_.tmps.getD 58 undef=.int .i64 (j:Int):=hR.dep ⟨8,.data⟩ (by simp) rfl (by decide) (by decide);have hj2:=HJ.out.2.1;refine pSq ?_;go_simp;exact hK _ _ rfl rB
         ·simp at ho;subst ho;have e9:av_.tmps.getD 59 undef=.pointer (some ⟨gl,off+j*6,none⟩):=hR.dep ⟨9,.data⟩ (by simp) rfl (by decide) (by decide);refine pSq ?_;go_simp;exact hK _ _ rfl rB
         ·simp at ho;subst ho;have e10:av_.tmps.getD 60 undef=.pointer (some ⟨gl,off+j*6+3,none⟩):=hR.dep ⟨10,.data⟩ (by simp) rfl (by decide) (by decide);obtain ⟨cx0,cx1,cx2,cx3,cx4,cx5⟩:=HE.out _ (HB.out.trans (hR.below.mono HB.out.size));refine pSq ?_;go_simp;exact hK _ _ rfl rB
         ·simp at ho;subst ho;have e5:av_.tmps.getD 55 undef=.agg #[.bool df.neg,.string (encS df.num),.string (encS df.den)]:=hR.dep ⟨5,.data⟩ (by simp) rfl (by decide) (by decide);have e11:av_.tmps.getD 61 undef=.agg #[.bool rt.neg,.string (encS rt.num),.string (encS rt.den)]:=hR.dep ⟨11,.data⟩ (by simp) rfl (by decide) (by decide);refine pSq ?_;go_simp;refine (C7.out w).mono ?_;rintro e w' ⟨rfl,hb⟩;exact hK _ _ (rfl) hb
         ·simp at ho;subst ho;have e12:av_.tmps.getD 62 undef=.tuple #[.agg #[.bool false,.string ⟨#[]⟩,.string ⟨#[]⟩],.bool false]:=hR.dep ⟨12,.data⟩ (by simp) rfl (by decide) (by decide);refine pSq ?_;go_simp;exact hK _ _ rfl rB
         ·simp at ho;subst ho;have e13:av_.tmps.getD 49 undef=.tuple #[.agg #[.bool false,.string ⟨#[]⟩,.string ⟨#[]⟩],.bool false]:=hR.dep ⟨13,.data⟩ (by simp) rfl (by decide) (by decide);refine pSq ?_;go_simp;exact hK _ _ rfl rB
         ·simp at ho;subst ho;have e13:av_.tmps.getD 49 undef=.tuple #[.agg #[.bool false,.string ⟨#[]⟩,.string ⟨#[]⟩],.bool false]:=hR.dep ⟨13,.data⟩ (by simp) rfl (by decide) (by decide);refine pSq ?_;go_simp;exact hK _ _ rfl rB
         ·simp at ho;subst ho;have e15:av_.tmps.getD 64 undef=.bool false:=hR.dep ⟨15,.data⟩ (by simp) rfl (by decide) (by decide);refine pSq ?_;go_simp;exact hK _ _ rfl rB
        ·intro ov_ av_ w ho K hK;simp at ho;subst ho;refine pSq ?_;go_simp;exact hK _ _ _ rfl (Nat.le_refl _) (heap_alloc_new _ _) (rB.alloc (Nat.le_refl _) _)
        ·intro ov_ listed av_ w g hR hv hg hz K hK;have ho:=hR.at_;simp at ho;subst ho;have e16:av_.tmps.getD 9 undef=.pointer (some ⟨g,0,none⟩):=hv;have e14:av_.tmps.getD 63 undef=.agg #[.bool false,.string ⟨#[]⟩,.string ⟨#[]⟩]:=hR.dep ⟨14,.data⟩ (by simp) rfl (by decide) (by decide);have cz0:w.cell? ⟨g,0,none⟩=some (.bool false):=by rw [Lib.cell_of_heap hz];rfl
         have fz0:w.frozen? ⟨g,0,none⟩=false:=frz0 hz 0;have cz1:w.cell? ⟨g,1,none⟩=some (.string ⟨#[]⟩):=by rw [Lib.cell_of_heap hz];rfl
         have fz1:w.frozen? ⟨g,1,none⟩=false:=frz0 hz 1;have cz2:w.cell? ⟨g,2,none⟩=some (.string ⟨#[]⟩):=by rw [Lib.cell_of_heap hz];rfl
         have fz2:w.frozen? ⟨g,2,none⟩=false:=frz0 hz 2;refine pSq ?_;go_simp;exact hK _ (by simp [World.setCell,Array.getElem?_modify,hz]) (((rB.setCell (p:=⟨g,0,none⟩) hg (.bool false)).setCell (p:=⟨g,1,none⟩) hg (.string ⟨#[]⟩)).setCell (p:=⟨g,2,none⟩) hg (.string ⟨#[]⟩))
        ·intro sv_ w g hS hg0 hge hN hb;have e18:sv_ 10=.bool false:=hS 18 (by decide) (by decide) (by decide);have e16:sv_ 9=.pointer (some ⟨g,0,none⟩):=hg0;simp only [over,ovL,Nat.reduceAdd,Nat.reduceLeDiff,Nat.reduceLT];obtain ⟨bk9,hg1⟩:∃b,g=b:=⟨_,rfl⟩;rw [hg1] at e16 hge hN;clear hg1;have HG9_29:Hid (n0≤bk9):=hD (by rw [HN0.out];exact Nat.le_trans HB.out.size hge);have HL9_29:=hD (Nat.lt_of_lt_of_le (Array.getElem?_eq_some_iff.1 HX7_25.out).1 hge);have HX9_29:=hD hN;clear hN hge hg0;have HX2_1:=uH hb HX2_1;have HX3_2:=uH hb HX3_2;have HX4_3:=uH hb HX4_3;have HX7_25:=uH hb HX7_25;have HB:=mH HB hb;obtain ⟨w17,hw⟩:∃w8,w8=w:=⟨_,rfl⟩;subst hw;rw [e18,e16];clear hS hb e18 e16;obtain ⟨W18,hW18,HX4_3,HB,ho,f30a,f30b,f30c,k30a,k30b,k30c⟩:=putZ HX4_3 HB HN0 HG4_3;have HX2_1:=ho _ _ (en2 HL3_2 HL4_3) HX2_1;have HX3_2:=ho _ _ (en1 HL4_3) HX3_2;have HX7_25:=ho _ _ (ne1 HL7_25) HX7_25
         have HX9_29:=ho _ _ (ne2 HL7_25 HL9_29) HX9_29;clear ho;go_wp2_with fail;clear f30a f30b f30c k30a k30b k30c hW18;refine bodyPost_ret (rC2 HX4_3.out) rfl ?_;exact ⟨rfl,by rw [HN0.out];exact HB.out⟩
       ·have hV:V=fitV (addR fr qu):=by rw [HV.out,if_neg hr0]
        subst hV;have d2:=HD2.out;simp only [hr0,if_false] at d2;obtain ⟨d3,d4⟩:=HD3.out hr0;clear HV HD3 HD2 hr0;obtain ⟨z,h6⟩:∃a,addR fr qu=a:=⟨_,rfl⟩;rw [h6] at d3 d4;obtain ⟨r,h7⟩:∃a,(fitV z).1=a:=⟨_,rfl⟩;obtain ⟨c,h8⟩:∃a,(fitV z).2=a:=⟨_,rfl⟩;rw [h7,h8] at d4;have HRC:=hD (show (fitV (addR fr qu)).1=r∧(fitV (addR fr qu)).2=c from by rw [h6];exact ⟨h7,h8⟩);have C7:Hid (∀w,Gv 73 #[rtV df,rtV rt] w (.tuple #[.agg #[.bool qu.neg,.string (encS qu.num),.string (encS qu.den)],.bool true])):=hD d2;have C8:Hid (∀w,Gv 60 #[rtV fr,rtV qu] w (.agg #[.bool z.neg,.string (encS z.num),.string (encS z.den)])):=hD d3;have C9:Hid (∀w,Gv 59 #[rtV z] w (.tuple #[.agg #[.bool r.neg,.string r.n,.string r.d],.int .i64 c])):=hD d4;clear d2 d3 d4 h6 h7 h8;go_wp2_with fail;clear hj1
        refine wp_region_box (w0:=w16) (by kernel_rfl) (fun ix v _=>v=EInverse_any_14_2 ca cs m gl off gs os j rt df bs qu x bk2 ix) 16 17 (.cells #[.bool false,.string ⟨#[]⟩,.string ⟨#[]⟩] 29 (0,0)) (.cells #[.bool qu.neg,.string (encS qu.num),.string (encS qu.den)] 29 (0,0)) (fun t=>(decide (9≤t)&&decide (t<11))||(decide (49≤t)&&decide (t<65))) (by kernel_rfl) (by kernel_rfl) (by kernel_rfl) (by decide) (by decide) (by kernel_rfl) rfl (fun _ _ _ _ _ h=>h) ?_ ?_ ?_ ?_
        ·intro i hi hia his ov_ listed av_ w hR K hK;have ho:=hR.at_;have hi:i<19:=hi;have hii:i=0∨i=1∨i=2∨i=3∨i=4∨i=5∨i=6∨i=7∨i=8∨i=9∨i=10∨i=11∨i=12∨i=13∨i=14∨i=15∨i=18:=by omega
         rcases hii with rfl|rfl|rfl|rfl|rfl|rfl|rfl|rfl|rfl|rfl|rfl|rfl|rfl|rfl|rfl|rfl|rfl
         ·simp at ho;subst ho;have b3:av_.tmps.getD 3 undef=.pointer (some ⟨bk3,0,none⟩):=hR.b 3;obtain ⟨cx0,cx1,cx2⟩:=c3 (uH hR.below HX3_2);refine pSq ?_;go_simp;exact hK _ _ rfl rB
         ·simp at ho;subst ho;have b7:av_.tmps.getD 7 undef=.pointer (some ⟨bk7,0,none⟩):=hR.b 7;have cx0:w.cell? ⟨bk7,0,none⟩=some (.slice (some ⟨gs,os,none⟩) m.length cs):=by rw [Lib.cell_of_heap (hpU hR.below HX7_25.out)];rfl
          refine pSq ?_;go_simp;exact hK _ _ rfl rB
         ·simp at ho;subst ho;have b8:av_.tmps.getD 8 undef=.int .i64 (j:Int):=hR.b 8;refine pSq ?_;go_simp;exact hK _ _ rfl rB
         ·simp at ho;subst ho;have e1:av_.tmps.getD 51 undef=.slice (some ⟨gs,os,none⟩) m.length cs:=hR.dep ⟨1,.data⟩ (by simp) rfl (by decide) (by decide);have e2:av_.tmps.getD 52 undef=.int .i64 (j:Int):=hR.dep ⟨2,.data⟩ (by simp) rfl (by decide) (by decide);have hj2:=HJ.out.2.1;refine pSq ?_;go_simp;exact hK _ _ rfl rB
         ·simp at ho;subst ho;have e3:av_.tmps.getD 53 undef=.pointer (some ⟨gs,os+j*3,none⟩):=hR.dep ⟨3,.data⟩ (by simp) rfl (by decide) (by decide);obtain ⟨cx0,cx1,cx2⟩:=HE2.out _ (HBS.out.trans (hR.below.mono HBS.out.size));refine pSq ?_;go_simp;exact hK _ _ rfl rB
         ·simp at ho;subst ho;have e0:av_.tmps.getD 50 undef=.agg #[.bool x.neg,.string x.n,.string x.d]:=hR.dep ⟨0,.data⟩ (by simp) rfl (by decide) (by decide);have e4:av_.tmps.getD 54 undef=.agg #[.bool bs.neg,.string (encS bs.num),.string (encS bs.den)]:=hR.dep ⟨4,.data⟩ (by simp) rfl (by decide) (by decide);refine pSq ?_;go_simp;refine (C6.out w).mono ?_;rintro e w' ⟨rfl,hb⟩;exact hK _ _ (rfl) hb
         ·simp at ho;subst ho;have b2:av_.tmps.getD 2 undef=.pointer (some ⟨bk2,0,none⟩):=hR.b 2;refine pSq ?_;go_simp;exact hK _ _ rfl rB
         ·simp at ho;subst ho;have e6:av_.tmps.getD 56 undef=.pointer (some ⟨bk2,3,none⟩):=hR.dep ⟨6,.data⟩ (by simp) rfl (by decide) (by decide);have cx0:w.cell? ⟨bk2,3,none⟩=some (.slice (some ⟨gl,off,none⟩) m.length ca):=by rw [Lib.cell_of_heap (hpU hR.below HX2_1.out)];rfl
          refine pSq ?_;go_simp;exact hK _ _ rfl rB
         ·simp at ho;subst ho;have b8:av_.tmps.getD 8 undef=.int .i64 (j:Int):=hR.b 8;refine pSq ?_;go_simp;exact hK _ _ rfl rB
         ·simp at ho;subst ho;have e7:av_.tmps.getD 57 undef=.slice (some ⟨gl,off,none⟩) m.length ca:=hR.dep ⟨7,.data⟩ (by simp) rfl (by decide) (by decide);have e8:av_.tmps.getD 58 undef=.int .i64 (j:Int):=hR.dep ⟨8,.data⟩ (by simp) rfl (by decide) (by decide);have hj2:=HJ.out.2.1;refine pSq ?_;go_simp;exact hK _ _ rfl rB
         ·simp at ho;subst ho;have e9:av_.tmps.getD 59 undef=.pointer (some ⟨gl,off+j*6,none⟩):=hR.dep ⟨9,.data⟩ (by simp) rfl (by decide) (by decide);refine pSq ?_;go_simp;exact hK _ _ rfl rB
         ·simp at ho;subst ho;have e10:av_.tmps.getD 60 undef=.pointer (some ⟨gl,off+j*6+3,none⟩):=hR.dep ⟨10,.data⟩ (by simp) rfl (by decide) (by decide);obtain ⟨cx0,cx1,cx2,cx3,cx4,cx5⟩:=HE.out _ (HB.out.trans (hR.below.mono HB.out.size));refine pSq ?_;go_simp;exact hK _ _ rfl rB
         ·simp at ho;subst ho;have e5:av_.tmps.getD 55 undef=.agg #[.bool df.neg,.string (encS df.num),.string (encS df.den)]:=hR.dep ⟨5,.data⟩ (by simp) rfl (by decide) (by decide);have e11:av_.tmps.getD 61 undef=.agg #[.bool rt.neg,.string (encS rt.num),.string (encS rt.den)]:=hR.dep ⟨11,.data⟩ (by simp) rfl (by decide) (by decide);refine pSq ?_;go_simp;refine (C7.out w).mono ?_;rintro e w' ⟨rfl,hb⟩;exact hK _ _ (rfl) hb
         ·simp at ho;subst ho;have e12:av_.tmps.getD 62 undef=.tuple #[.agg #[.bool qu.neg,.string (encS qu.num),.string (encS qu.den)],.bool true]:=hR.dep ⟨12,.data⟩ (by simp) rfl (by decide) (by decide);refine pSq ?_;go_simp;exact hK _ _ rfl rB
         ·simp at ho;subst ho;have e13:av_.tmps.getD 49 undef=.tuple #[.agg #[.bool qu.neg,.string (encS qu.num),.string (encS qu.den)],.bool true]:=hR.dep ⟨13,.data⟩ (by simp) rfl (by decide) (by decide);refine pSq ?_;go_simp;exact hK _ _ rfl rB
         ·simp at ho;subst ho;have e13:av_.tmps.getD 49 undef=.tuple #[.agg #[.bool qu.neg,.string (encS qu.num),.string (encS qu.den)],.bool true]:=hR.dep ⟨13,.data⟩ (by simp) rfl (by decide) (by decide);refine pSq ?_;go_simp;exact hK _ _ rfl rB
         ·simp at ho;subst ho;have e15:av_.tmps.getD 64 undef=.bool true:=hR.dep ⟨15,.data⟩ (by simp) rfl (by decide) (by decide);refine pSq ?_;go_simp;exact hK _ _ rfl rB
        ·intro ov_ av_ w ho K hK;simp at ho;subst ho;refine pSq ?_;go_simp;exact hK _ _ _ rfl (Nat.le_refl _) (heap_alloc_new _ _) (rB.alloc (Nat.le_refl _) _)
        ·intro ov_ listed av_ w g hR hv hg hz K hK;have ho:=hR.at_;simp at ho;subst ho;have e16:av_.tmps.getD 9 undef=.pointer (some ⟨g,0,none⟩):=hv;have e14:av_.tmps.getD 63 undef=.agg #[.bool qu.neg,.string (encS qu.num),.string (encS qu.den)]:=hR.dep ⟨14,.data⟩ (by simp) rfl (by decide) (by decide);have cz0:w.cell? ⟨g,0,none⟩=some (.bool false):=by rw [Lib.cell_of_heap hz];rfl
         have fz0:w.frozen? ⟨g,0,none⟩=false:=frz0 hz 0;have cz1:w.cell? ⟨g,1,none⟩=some (.string ⟨#[]⟩):=by rw [Lib.cell_of_heap hz];rfl
         have fz1:w.frozen? ⟨g,1,none⟩=false:=frz0 hz 1;have cz2:w.cell? ⟨g,2,none⟩=some (.string ⟨#[]⟩):=by rw [Lib.cell_of_heap hz];rfl
         have fz2:w.frozen? ⟨g,2,none⟩=false:=frz0 hz 2;refine pSq ?_;go_simp;exact hK _ (by simp [World.setCell,Array.getElem?_modify,hz]) (((rB.setCell (p:=⟨g,0,none⟩) hg (.bool qu.neg)).setCell (p:=⟨g,1,none⟩) hg (.string (encS qu.num))).setCell (p:=⟨g,2,none⟩) hg (.string (encS qu.den)))
        ·intro sv_ w g hS hg0 hge hN hb;have e18:sv_ 10=.bool true:=hS 18 (by decide) (by decide) (by decide);have e16:sv_ 9=.pointer (some ⟨g,0,none⟩):=hg0;simp only [over,ovL,Nat.reduceAdd,Nat.reduceLeDiff,Nat.reduceLT];obtain ⟨bk9,hg1⟩:∃b,g=b:=⟨_,rfl⟩;rw [hg1] at e16 hge hN;clear hg1;have HG9_31:Hid (n0≤bk9):=hD (by rw [HN0.out];exact Nat.le_trans HB.out.size hge);have HL9_31:=hD (Nat.lt_of_lt_of_le (Array.getElem?_eq_some_iff.1 HX7_25.out).1 hge);have HX9_31:=hD hN;clear hN hge hg0;have HX2_1:=uH hb HX2_1;have HX3_2:=uH hb HX3_2;have HX4_3:=uH hb HX4_3;have HX7_25:=uH hb HX7_25;have HB:=mH HB hb;obtain ⟨w19,hw⟩:∃w8,w8=w:=⟨_,rfl⟩;subst hw;rw [e18,e16];clear hS hb e18 e16;go_wp2_with fail
         refine wpTl (w:=w19) (by kernel_rfl) (fun ix v _=>v=EInverse_any_17_3 ca m gl off j fr qu z r c bk2 ix) 11 (fun t=>(decide (68≤t)&&decide (t<79))) (by decide) (by kernel_rfl) (by kernel_rfl) (by kernel_rfl) (by kernel_rfl) (by kernel_rfl) (fun _ _ _ _ _ h=>h) ?_ ?_
         ·intro i hi ov_ listed av_ w hR K hK;have ho:=hR.at_;have hi:i<11:=hi;have hii:i=0∨i=1∨i=2∨i=3∨i=4∨i=5∨i=6∨i=7∨i=8∨i=9∨i=10:=by omega
          rcases hii with rfl|rfl|rfl|rfl|rfl|rfl|rfl|rfl|rfl|rfl|rfl<;>(simp at ho;subst ho)
          ·have b2:av_.tmps.getD 2 undef=.pointer (some ⟨bk2,0,none⟩):=hR.b 2;refine pSq ?_;go_simp;exact hK _ _ rfl rB
          ·have e0:av_.tmps.getD 68 undef=.pointer (some ⟨bk2,3,none⟩):=hR.t 0;have cx0:w.cell? ⟨bk2,3,none⟩=some (.slice (some ⟨gl,off,none⟩) m.length ca):=by rw [Lib.cell_of_heap (hpU hR.below HX2_1.out)];rfl
           refine pSq ?_;go_simp;exact hK _ _ rfl rB
          ·have b8:av_.tmps.getD 8 undef=.int .i64 (j:Int):=hR.b 8;refine pSq ?_;go_simp;exact hK _ _ rfl rB
          ·have e1:av_.tmps.getD 69 undef=.slice (some ⟨gl,off,none⟩) m.length ca:=hR.t 1;have e2:av_.tmps.getD 70 undef=.int .i64 (j:Int):=hR.t 2;have hj2:=HJ.out.2.1;refine pSq ?_;go_simp;exact hK _ _ rfl rB
          ·have e3:av_.tmps.getD 71 undef=.pointer (some ⟨gl,off+j*6,none⟩):=hR.t 3;refine pSq ?_;go_simp;exact hK _ _ rfl rB
          ·have e4:av_.tmps.getD 72 undef=.pointer (some ⟨gl,off+j*6,none⟩):=hR.t 4;obtain ⟨cx0,cx1,cx2,cx3,cx4,cx5⟩:=HE.out _ (HB.out.trans (hR.below.mono HB.out.size));refine pSq ?_;go_simp;exact hK _ _ rfl rB
          ·have b9:av_.tmps.getD 9 undef=.pointer (some ⟨bk9,0,none⟩):=hR.b 9;obtain ⟨cx0,cx1,cx2⟩:=c3 (uH hR.below HX9_31);refine pSq ?_;go_simp;exact hK _ _ rfl rB
          ·have e5:av_.tmps.getD 73 undef=.agg #[.bool fr.neg,.string (encS fr.num),.string (encS fr.den)]:=hR.t 5;have e6:av_.tmps.getD 74 undef=.agg #[.bool qu.neg,.string (encS qu.num),.string (encS qu.den)]:=hR.t 6;refine pSq ?_;go_simp;refine (C8.out w).mono ?_;rintro e w' ⟨rfl,hb⟩;exact hK _ _ (rfl) hb
          ·have e7:av_.tmps.getD 75 undef=.agg #[.bool z.neg,.string (encS z.num),.string (encS z.den)]:=hR.t 7;refine pSq ?_;go_simp;refine (C9.out w).mono ?_;rintro e w' ⟨rfl,hb⟩;exact hK _ _ (rfl) hb
          ·have e8:av_.tmps.getD 76 undef=.tuple #[.agg #[.bool r.neg,.string r.n,.string r.d],.int .i64 c]:=hR.t 8;refine pSq ?_;go_simp;exact hK _ _ rfl rB
          ·have e8:av_.tmps.getD 76 undef=.tuple #[.agg #[.bool r.neg,.string r.n,.string r.d],.int .i64 c]:=hR.t 8;refine pSq ?_;go_simp;exact hK _ _ rfl rB
         ·intro sv_ w hS hb;have e9:sv_ 77=.agg #[.bool r.neg,.string r.n,.string r.d]:=hS 9 (by decide);have e10:sv_ 78=.int .i64 c:=hS 10 (by decide);simp only [over,ovL,Nat.reduceAdd,Nat.reduceLeDiff,Nat.reduceLT];have HX2_1:=uH hb HX2_1;have HX3_2:=uH hb HX3_2;have HX4_3:=uH hb HX4_3;have HX7_25:=uH hb HX7_25;have HX9_31:=uH hb HX9_31;have HB:=mH HB hb;obtain ⟨w20,hw⟩:∃w8,w8=w:=⟨_,rfl⟩;subst hw;rw [e9,e10];clear hS hb e9 e10;obtain ⟨W21,hW21,HX4_3,HB,ho,f32a,f32b,f32c,k32a,k32b,k32c⟩:=put3 HX4_3 HB HN0 HG4_3 (.bool r.neg) (.string r.n) (.string r.d);have HX2_1:=ho _ _ (en2 HL3_2 HL4_3) HX2_1;have HX3_2:=ho _ _ (en1 HL4_3) HX3_2;have HX7_25:=ho _ _ (ne1 HL7_25) HX7_25;have HX9_31:=ho _ _ (ne2 HL7_25 HL9_31) HX9_31;clear ho;refine tail_step (n:=1) rfl rfl ?_;go_simp
          try rw [hW21]
          clear f32a f32b f32c k32a k32b k32c hW21;refine tail_step (n:=0) rfl rfl ?_;go_simp;simp only [wpTail];go_wp2_with fail;refine bodyPost_ret (rC2 HX4_3.out) rfl ?_;exact ⟨by rw [HRC.out.1,HRC.out.2];rfl,by rw [HN0.out];exact HB.out⟩
     case true =>
      have q33:=Htn.out;have hV:V=(zrow,15):=by rw [HV.out];simp [show sg<0 from by have:=Htn.out;simpa using this]
      subst hV;obtain ⟨W22,hW22,HX4_3,HB,ho,f34a,f34b,f34c,k34a,k34b,k34c⟩:=putZ HX4_3 HB HN0 HG4_3;have HX2_1:=ho _ _ (en2 HL3_2 HL4_3) HX2_1;have HX3_2:=ho _ _ (en1 HL4_3) HX3_2;clear ho;go_wp2_with fail;clear q33 f34a f34b f34c k34a k34b k34c hW22;refine bodyPost_ret (rC2 HX4_3.out) rfl ?_;exact ⟨rfl,by rw [HN0.out];exact HB.out⟩
  case true =>
   have hV:V=(zrow,1):=HV.out;subst hV;obtain ⟨W23,hW23,HX4_3,HB,ho,f35a,f35b,f35c,k35a,k35b,k35c⟩:=putZ HX4_3 HB HN0 HG4_3;have HX2_1:=ho _ _ (en2 HL3_2 HL4_3) HX2_1;have HX3_2:=ho _ _ (en1 HL4_3) HX3_2;clear ho;go_wp2_with fail;clear f35a f35b f35c k35a k35b k35c hW23;refine bodyPost_ret (rC2 HX4_3.out) rfl ?_;exact ⟨rfl,by rw [HN0.out];exact HB.out⟩
 ·have hV:V=(zrow,C):=by rw [HV.out,if_neg hc0]
  subst hV;have hne:(C != 0)=true:=by simpa using hc0
  clear HV hc0;obtain ⟨W24,hW24,HX4_3,HB,ho,f36a,f36b,f36c,k36a,k36b,k36c⟩:=putZ HX4_3 HB HN0 HG4_3;have HX2_1:=ho _ _ (en2 HL3_2 HL4_3) HX2_1;have HX3_2:=ho _ _ (en1 HL4_3) HX3_2;clear ho;go_wp2_with fail;clear f36a f36b f36c k36a k36b k36c hW24;refine bodyPost_ret (rC2 HX4_3.out) rfl ?_;exact ⟨rfl,by rw [HN0.out];exact HB.out⟩
end Go.Proofs.YtblgfmjlajhipaaGreatDoor
