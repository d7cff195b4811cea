/- Contracts that the proofs of this seat share. Each theorem names its conditions. -/

import Derived.Test.YtblgfmjlajhipaaGreatDoorZb7
import Derived.Test.YtblgfmjlajhipaaGreatDoorZc5
import Derived.Test.YtblgfmjlajhipaaGreatDoorZb5
import Derived.Test.YtblgfmjlajhipaaGreatDoorZd0
import Derived.Test.YtblgfmjlajhipaaGreatDoorZb4
set_option maxHeartbeats 16000000
set_option linter.unusedVariables false
namespace Go.Proofs.YtblgfmjlajhipaaGreatDoor
open Go.RowKit Go.Shelf
open Dgt
theorem run_neqD (d:Int) (u:Rt) (w:World):(binOp .neq 64 (.agg #[.int .i64 d,.bool u.neg,.string (encS u.num),.string (encS u.den)]) (.agg #[.int .i64 d,.bool u.neg,.string (encS u.num),.string (encS u.den)])).run Tryz.prog w=.ok (.bool false) w:=by
 go_simp
def ErSame_eq_6_1 (l:List DR) (k:Nat) (ca:Nat) (ca2:Nat) (gl:Nat) (off:Nat) (g2:Nat) (off2:Nat) (dx:Int) (x:Rt):Nat→Value
 | 0=>.slice (some ⟨gl,off,none⟩) l.length ca
 | 1=>.int .i64 (k:Int)
 | 2=>.pointer (some ⟨gl,off+k*4,none⟩)
 | 3=>.agg #[.int .i64 dx,.bool x.neg,.string (encS x.num),.string (encS x.den)]
 | 4=>.slice (some ⟨g2,off2,none⟩) l.length ca2
 | 5=>.int .i64 (k:Int)
 | 6=>.pointer (some ⟨g2,off2+k*4,none⟩)
 | 7=>.agg #[.int .i64 dx,.bool x.neg,.string (encS x.num),.string (encS x.den)]
 | 8=>.bool false
 | _=>undef
set_option maxRecDepth 100000 in
theorem rSame_eq (v v2:Value) (l:List DR)  (wq:World) (hl:LstD wq v (l.map rawD)) (hl2:LstD wq v2 (l.map rawD)) :
  Gv 33 #[v,v2] wq (.bool true):=by
 unfold Gv;obtain ⟨ps,ca,rfl,-,hla,hat⟩:=hl.open;obtain ⟨ps2,ca2,rfl,-,-,hat2⟩:=hl2.open;simp only [List.length_map] at hla ⊢;have HLA:=hD hla;have HAT:Hid (∀k (h:k<l.length),∃g off,ps=some ⟨g,off,none⟩∧AtE wq g (off+k*4) l[k].1 l[k].2):=hD fun k h=>by
  obtain ⟨g,off,h1,h2⟩:=hat k (by rw [List.length_map];exact h);rw [List.getElem_map] at h2;exact ⟨g,off,h1,h2⟩
 have HAT2:Hid (∀k (h:k<l.length),∃g off,ps2=some ⟨g,off,none⟩∧AtE wq g (off+k*4) l[k].1 l[k].2):=hD fun k h=>by
  obtain ⟨g,off,h1,h2⟩:=hat2 k (by rw [List.length_map];exact h);rw [List.getElem_map] at h2;exact ⟨g,off,h1,h2⟩
 clear hat hat2 hla hl hl2;have HB:=hD (Below.refl wq.heap.size wq);obtain ⟨n0,hn0⟩:∃n,n=wq.heap.size:=⟨_,rfl⟩;rw [←hn0];have HN0:=hD hn0;clear hn0;go_enter Tryz.func33,Tryz.ntmps33;go_wp2_with fail
 go_loopw [5] (fun u5 wr=>∃(k:Nat),k≤l.length∧u5=.int .i64 (k:Int)∧Hid (Below wq.heap.size wq wr)) (fun u5 _=>l.length-(intOf u5).toNat)
 case atStart=>exact ⟨0,by omega,by first|rfl|go_num,HB⟩
 case round =>
  obtain ⟨k,hk,rfl,HB⟩:=hrel
  by_cases hlt:k<l.length
  ·have hlt' :(k:Int)<(l.length:Int):=by omega
   obtain ⟨gl,off,rfl,hat⟩:=HAT.out k hlt;obtain ⟨g2,off2,rfl,hat2⟩:=HAT2.out k hlt;have HE:=hD hat;have HE2:=hD hat2;obtain ⟨⟨dx,x⟩,he⟩:∃e,l[k]=e:=⟨_,rfl⟩;rw [he] at HE HE2;have HLT:=hD hlt
   change Hid (AtE wq gl _ dx x) at HE;change Hid (AtE wq g2 _ dx x) at HE2
   clear hat hat2 hlt hk he;have HWI:Hid (IntKind.i64.wrap ((k:Int)+1)=((k+1:Nat):Int)):=hD (by rw [IntWalk.i64_in _ (by have:=HLT.out;have:=HLA.out;omega)];omega);go_wp2_with fail;clear hlt';refine wpVl (w:=wr) (by kernel_rfl) (fun ix v _=>v=ErSame_eq_6_1 l k ca ca2 gl off g2 off2 dx x ix) (fun t=>(decide (17≤t)&&decide (t<26))) (by kernel_rfl) (by kernel_rfl) (by kernel_rfl) (fun _ _ _ _ _ h=>h) ?_ ?_
   ·intro i hi ov_ listed av_ w hR K hK;have ho:=hR.at_;have hi:i<9:=hi;have hii:i=0∨i=1∨i=2∨i=3∨i=4∨i=5∨i=6∨i=7∨i=8:=by omega
    rcases hii with rfl|rfl|rfl|rfl|rfl|rfl|rfl|rfl|rfl<;>(simp at ho;subst ho)
    ·have b0:av_.tmps.getD 0 undef=.slice (some ⟨gl,off,none⟩) l.length ca:=hR.b 0;refine pSq ?_;go_simp;exact hK _ _ rfl rB
    ·have b5:av_.tmps.getD 5 undef=.int .i64 (k:Int):=hR.b 5;refine pSq ?_;go_simp;exact hK _ _ rfl rB
    ·have e0:av_.tmps.getD 17 undef=.slice (some ⟨gl,off,none⟩) l.length ca:=hR.d 0;have e1:av_.tmps.getD 18 undef=.int .i64 (k:Int):=hR.d 1;have hk3:(k:Int)<(l.length:Int):=by have:=HLT.out;omega
     refine pSq ?_;go_simp;exact hK _ _ rfl rB
    ·have e2:av_.tmps.getD 19 undef=.pointer (some ⟨gl,off+k*4,none⟩):=hR.d 2;obtain ⟨cx0,cx1,cx2,cx3⟩:=HE.out _ (HB.out.trans (hR.below.mono HB.out.size));refine pSq ?_;go_simp;exact hK _ _ rfl rB
    ·have b1:av_.tmps.getD 1 undef=.slice (some ⟨g2,off2,none⟩) l.length ca2:=hR.b 1;refine pSq ?_;go_simp;exact hK _ _ rfl rB
    ·have b5:av_.tmps.getD 5 undef=.int .i64 (k:Int):=hR.b 5;refine pSq ?_;go_simp;exact hK _ _ rfl rB
    ·have e4:av_.tmps.getD 21 undef=.slice (some ⟨g2,off2,none⟩) l.length ca2:=hR.d 4;have e5:av_.tmps.getD 22 undef=.int .i64 (k:Int):=hR.d 5;have hk3:(k:Int)<(l.length:Int):=by have:=HLT.out;omega
     refine pSq ?_;go_simp;exact hK _ _ rfl rB
    ·have e6:av_.tmps.getD 23 undef=.pointer (some ⟨g2,off2+k*4,none⟩):=hR.d 6;obtain ⟨cx0,cx1,cx2,cx3⟩:=HE2.out _ (HB.out.trans (hR.below.mono HB.out.size));refine pSq ?_;go_simp;exact hK _ _ rfl rB
    ·have e3:av_.tmps.getD 20 undef=.agg #[.int .i64 dx,.bool x.neg,.string (encS x.num),.string (encS x.den)]:=hR.d 3;have e7:av_.tmps.getD 24 undef=.agg #[.int .i64 dx,.bool x.neg,.string (encS x.num),.string (encS x.den)]:=hR.d 7;have hq:=run_neqD dx x;refine pSq ?_;go_simp;exact hK _ _ rfl rB
   ·intro sv_ w hS hb;have e8:sv_ 25=.bool false:=hS 8 (by decide);simp only [over,ovL,Nat.reduceAdd,Nat.reduceLeDiff,Nat.reduceLT];have HB:=mH HB hb;obtain ⟨w1,hw⟩:∃w8,w8=w:=⟨_,rfl⟩;subst hw;rw [e8];clear hS hb e8;have hwi:=HWI.out;go_wp2_with fail;clear hwi
    go_roundw
    case rel=>exact ⟨k+1,by have:=HLT.out;omega,by first|rfl|go_num,HB⟩
    case measure=>have:=HLT.out;simp [intOf];omega
  ·have hge:¬(k:Int)<(l.length:Int):=by omega
   go_wp2_with fail;clear hge;go_ret;exact ⟨rfl,by rw [HN0.out];exact HB.out⟩
theorem run_eqlW (r:Rw) (w:World):(binOp .eql 29 (.agg #[.bool r.neg,.string r.n,.string r.d]) (.agg #[.bool r.neg,.string r.n,.string r.d])).run Tryz.prog w=.ok (.bool true) w:=by
 go_simp
def fracT (n d:Int):Rt:=quoR (ofR n) (ofR d)
theorem of_num {d:Int} (h:d≠0):¬(ofR d).num=0:=by
 rw [show (ofR d).num=d.natAbs from by unfold ofR;first|rfl|(split<;>simp<;>omega)];omega
set_option maxRecDepth 100000 in
theorem rat_any (n d:Int) (hn: -9223372036854775808≤n∧n≤9223372036854775807) (hd: -9223372036854775808≤d∧d≤9223372036854775807) (h0:d≠0) (wq:World) :
  Gv 20 #[.int .i64 n,.int .i64 d] wq (.agg #[.bool (fracT n d).neg,.string (encS (fracT n d).num),.string (encS (fracT n d).den)]):=by
 unfold Gv;have c1:=fun w=>rRatOf_any n w hn.1 hn.2
 have c2:=fun w=>rRatOf_any d w hd.1 hd.2
 have c3:=fun w=>rRatQuo_r (IsR.of (ofR_ok n) (ofR_sz hn.1 hn.2)) (IsR.of (ofR_ok d) (ofR_sz hd.1 hd.2)) (by decide) (by decide) w
 unfold quoV at c3;rw [if_neg (of_num h0)] at c3;unfold fracT;obtain ⟨a,h1⟩:∃x,ofR n=x:=⟨_,rfl⟩;rw [h1] at c1 c3 ⊢;obtain ⟨b,h2⟩:∃x,ofR d=x:=⟨_,rfl⟩;rw [h2] at c2 c3 ⊢;obtain ⟨q,h3⟩:∃x,quoR a b=x:=⟨_,rfl⟩;rw [h3] at c3 ⊢;have C1:Hid (∀w,Gv 14 #[.int .i64 n] w (.agg #[.bool a.neg,.string (encS a.num),.string (encS a.den)])):=hD c1;have C2:Hid (∀w,Gv 14 #[.int .i64 d] w (.agg #[.bool b.neg,.string (encS b.num),.string (encS b.den)])):=hD c2;have C3:Hid (∀w,Gv 49 #[rtV a,rtV b] w (.tuple #[.agg #[.bool q.neg,.string (encS q.num),.string (encS q.den)],.bool true])):=hD c3;clear c1 c2 c3 h1 h2 h3 hn hd h0;have HB:=hD (Below.refl wq.heap.size wq);obtain ⟨n0,hn0⟩:∃n,n=wq.heap.size:=⟨_,rfl⟩;rw [←hn0];have HN0:=hD hn0;clear hn0;go_enter Tryz.func20,Tryz.ntmps20;obtain ⟨W1,bk4,hW1,hbk4,HX4_1,HB,HG4_1,hup⟩:=boxZ HB HN0;clear hup;go_wp2_with fail;clear hW1 hbk4;refine (C1.out _).mono ?_
 rintro e w2 ⟨rfl,hb⟩;have HX4_1:=uH hb HX4_1;have HB:=mH HB hb;clear hb;go_wp2_with fail;refine (C2.out _).mono ?_;rintro e w3 ⟨rfl,hb⟩;have HX4_1:=uH hb HX4_1;have HB:=mH HB hb;clear hb;go_wp2_with fail;refine (C3.out _).mono ?_;rintro e w4 ⟨rfl,hb⟩;have HX4_1:=uH hb HX4_1;have HB:=mH HB hb;clear hb;obtain ⟨W5,bk5,hW5,hbk5,HX5_2,HB,HG5_2,hup⟩:=boxZ HB HN0;have HL5_2:=(hup _ _ HX4_1).2;have HX4_1:=(hup _ _ HX4_1).1;clear hup;obtain ⟨W6,hW6,HX5_2,HB,ho,f3a,f3b,f3c,k3a,k3b,k3c⟩:=putR HX5_2 HB HN0 HG5_2 q;have HX4_1:=ho _ _ (en1 HL5_2) HX4_1;clear ho;obtain ⟨k4a,k4b,k4c⟩:=c3 HX5_2;obtain ⟨W7,hW7,HX4_1,HB,ho,f5a,f5b,f5c,k5a,k5b,k5c⟩:=putR HX4_1 HB HN0 HG4_1 q;have HX5_2:=ho _ _ (ne1 HL5_2) HX5_2;clear ho;go_wp2_with fail;clear hW5 hbk5 f3a f3b f3c k3a k3b k3c hW6 k4a k4b k4c f5a f5b f5c k5a k5b k5c hW7;refine bodyPost_ret (rC1 HX4_1.out) rfl ?_;exact ⟨rfl,by rw [HN0.out];exact HB.out⟩
set_option maxRecDepth 100000 in
theorem lat_any (nm:ByteArray) (um ud:Int) (v:Value) (l:List Bk) (x y:Rw) (c:Int) (hz:SzK l 1100000) (hx:x.n.size≤1100000∧x.d.size≤1100000) (hy:atV l x=(y,c)) (wq:World) (hl:LstK wq v l) :
  Gv 30 #[.agg #[.string nm,.int .i64 um,.int .i64 ud,v],.agg #[.bool x.neg,.string x.n,.string x.d],.agg #[.bool y.neg,.string y.n,.string y.d],.int .i64 c] wq (.bool true):=by
 unfold Gv;have HL:=hD hl;have HZ:=hD hz;have c1:=fun w h=>At_any nm um ud v l x HZ.out hx w (HL.out.up h)
 rw [hy] at c1;clear hl hz hy hx;have C1:Hid (∀w,Below wq.heap.size wq w→Gv 21 #[.agg #[.string nm,.int .i64 um,.int .i64 ud,v],.agg #[.bool x.neg,.string x.n,.string x.d]] w (.tuple #[.agg #[.bool y.neg,.string y.n,.string y.d],.int .i64 c])):=hD fun w hp0=>c1 w hp0
 clear c1;have HB:=hD (Below.refl wq.heap.size wq);obtain ⟨n0,hn0⟩:∃n,n=wq.heap.size:=⟨_,rfl⟩;rw [←hn0];have HN0:=hD hn0;clear hn0;go_enter Tryz.func30,Tryz.ntmps30;obtain ⟨W1,bk4,hW1,hbk4,HX4_1,HB,HG4_1,hup⟩:=boxn HB HN0 (.cells #[.string nm,.int .i64 um,.int .i64 ud,v] 26);clear hup;obtain ⟨W2,bk5,hW2,hbk5,HX5_2,HB,HG5_2,hup⟩:=boxn HB HN0 (.cells #[.bool x.neg,.string x.n,.string x.d] 29);have HL5_2:=(hup _ _ HX4_1).2;have HX4_1:=(hup _ _ HX4_1).1;clear hup;obtain ⟨W3,bk6,hW3,hbk6,HX6_3,HB,HG6_3,hup⟩:=boxn HB HN0 (.cells #[.bool y.neg,.string y.n,.string y.d] 29);have HL6_3:=(hup _ _ HX5_2).2;have HX4_1:=(hup _ _ HX4_1).1;have HX5_2:=(hup _ _ HX5_2).1;clear hup;have k4:W3.cell? ⟨bk4,0,none⟩=some (.string nm):=by rw [Lib.cell_of_heap HX4_1.out];rfl
 have k5:W3.cell? ⟨bk4,1,none⟩=some (.int .i64 um):=by rw [Lib.cell_of_heap HX4_1.out];rfl
 have k6:W3.cell? ⟨bk4,2,none⟩=some (.int .i64 ud):=by rw [Lib.cell_of_heap HX4_1.out];rfl
 have k7:W3.cell? ⟨bk4,3,none⟩=some (v):=by rw [Lib.cell_of_heap HX4_1.out];rfl
 obtain ⟨k8a,k8b,k8c⟩:=c3 HX5_2;go_wp2_with fail;clear hW1 hbk4 hW2 hbk5 hW3 hbk6 k4 k5 k6 k7 k8a k8b k8c;refine (C1.out _ HB.out).mono ?_;rintro e w4 ⟨rfl,hb⟩;have HX4_1:=uH hb HX4_1;have HX5_2:=uH hb HX5_2;have HX6_3:=uH hb HX6_3;have HB:=mH HB hb;clear hb;obtain ⟨W5,bk9,hW5,hbk9,HX9_9,HB,HG9_9,hup⟩:=boxZ HB HN0;have HL9_9:=(hup _ _ HX6_3).2;have HX4_1:=(hup _ _ HX4_1).1;have HX5_2:=(hup _ _ HX5_2).1;have HX6_3:=(hup _ _ HX6_3).1;clear hup;obtain ⟨W6,hW6,HX9_9,HB,ho,f10a,f10b,f10c,k10a,k10b,k10c⟩:=put3 HX9_9 HB HN0 HG9_9 (.bool y.neg) (.string y.n) (.string y.d);have HX4_1:=ho _ _ (en3 HL5_2 HL6_3 HL9_9) HX4_1;have HX5_2:=ho _ _ (en2 HL6_3 HL9_9) HX5_2;have HX6_3:=ho _ _ (en1 HL9_9) HX6_3;clear ho;have q11:=(run_eqlW y);obtain ⟨k12a,k12b,k12c⟩:=c3 HX9_9;obtain ⟨k13a,k13b,k13c⟩:=c3 HX6_3;go_wp2_with fail;clear hW5 hbk9 f10a f10b f10c k10a k10b k10c hW6 q11 k12a k12b k12c k13a k13b k13c
 go_ret;exact ⟨rfl,by rw [HN0.out];exact HB.out⟩
set_option maxRecDepth 100000 in
theorem lmarg_any (nm:ByteArray) (um ud:Int) (v:Value) (l:List Bk) (x y:Rw) (c:Int) (hz:SzK l 1100000) (hx:x.n.size≤1100000∧x.d.size≤1100000) (hy:margV l x=(y,c)) (wq:World) (hl:LstK wq v l) :
  Gv 41 #[.agg #[.string nm,.int .i64 um,.int .i64 ud,v],.agg #[.bool x.neg,.string x.n,.string x.d],.agg #[.bool y.neg,.string y.n,.string y.d],.int .i64 c] wq (.bool true):=by
 unfold Gv;have HL:=hD hl;have HZ:=hD hz;have c1:=fun w h=>Marginal_any nm um ud v l x HZ.out hx w (HL.out.up h)
 rw [hy] at c1;clear hl hz hy hx;have C1:Hid (∀w,Below wq.heap.size wq w→Gv 25 #[.agg #[.string nm,.int .i64 um,.int .i64 ud,v],.agg #[.bool x.neg,.string x.n,.string x.d]] w (.tuple #[.agg #[.bool y.neg,.string y.n,.string y.d],.int .i64 c])):=hD fun w hp0=>c1 w hp0
 clear c1;have HB:=hD (Below.refl wq.heap.size wq);obtain ⟨n0,hn0⟩:∃n,n=wq.heap.size:=⟨_,rfl⟩;rw [←hn0];have HN0:=hD hn0;clear hn0;go_enter Tryz.func41,Tryz.ntmps41;obtain ⟨W1,bk4,hW1,hbk4,HX4_1,HB,HG4_1,hup⟩:=boxn HB HN0 (.cells #[.string nm,.int .i64 um,.int .i64 ud,v] 26);clear hup;obtain ⟨W2,bk5,hW2,hbk5,HX5_2,HB,HG5_2,hup⟩:=boxn HB HN0 (.cells #[.bool x.neg,.string x.n,.string x.d] 29);have HL5_2:=(hup _ _ HX4_1).2;have HX4_1:=(hup _ _ HX4_1).1;clear hup;obtain ⟨W3,bk6,hW3,hbk6,HX6_3,HB,HG6_3,hup⟩:=boxn HB HN0 (.cells #[.bool y.neg,.string y.n,.string y.d] 29);have HL6_3:=(hup _ _ HX5_2).2;have HX4_1:=(hup _ _ HX4_1).1;have HX5_2:=(hup _ _ HX5_2).1;clear hup;have k4:W3.cell? ⟨bk4,0,none⟩=some (.string nm):=by rw [Lib.cell_of_heap HX4_1.out];rfl
 have k5:W3.cell? ⟨bk4,1,none⟩=some (.int .i64 um):=by rw [Lib.cell_of_heap HX4_1.out];rfl
 have k6:W3.cell? ⟨bk4,2,none⟩=some (.int .i64 ud):=by rw [Lib.cell_of_heap HX4_1.out];rfl
 have k7:W3.cell? ⟨bk4,3,none⟩=some (v):=by rw [Lib.cell_of_heap HX4_1.out];rfl
 obtain ⟨k8a,k8b,k8c⟩:=c3 HX5_2;go_wp2_with fail;clear hW1 hbk4 hW2 hbk5 hW3 hbk6 k4 k5 k6 k7 k8a k8b k8c;refine (C1.out _ HB.out).mono ?_;rintro e w4 ⟨rfl,hb⟩;have HX4_1:=uH hb HX4_1;have HX5_2:=uH hb HX5_2;have HX6_3:=uH hb HX6_3;have HB:=mH HB hb;clear hb;obtain ⟨W5,bk9,hW5,hbk9,HX9_9,HB,HG9_9,hup⟩:=boxZ HB HN0;have HL9_9:=(hup _ _ HX6_3).2;have HX4_1:=(hup _ _ HX4_1).1;have HX5_2:=(hup _ _ HX5_2).1;have HX6_3:=(hup _ _ HX6_3).1;clear hup;obtain ⟨W6,hW6,HX9_9,HB,ho,f10a,f10b,f10c,k10a,k10b,k10c⟩:=put3 HX9_9 HB HN0 HG9_9 (.bool y.neg) (.string y.n) (.string y.d);have HX4_1:=ho _ _ (en3 HL5_2 HL6_3 HL9_9) HX4_1;have HX5_2:=ho _ _ (en2 HL6_3 HL9_9) HX5_2;have HX6_3:=ho _ _ (en1 HL9_9) HX6_3;clear ho;have q11:=(run_eqlW y);obtain ⟨k12a,k12b,k12c⟩:=c3 HX9_9;obtain ⟨k13a,k13b,k13c⟩:=c3 HX6_3;go_wp2_with fail;clear hW5 hbk9 f10a f10b f10c k10a k10b k10c hW6 q11 k12a k12b k12c k13a k13b k13c
 go_ret;exact ⟨rfl,by rw [HN0.out];exact HB.out⟩
set_option maxRecDepth 100000 in
theorem linv_any (nm:ByteArray) (um ud:Int) (v:Value) (l:List Bk) (x y:Rw) (c:Int) (hz:SzK l 1100000) (hx:x.n.size≤1100000∧x.d.size≤1100000) (hy:invV l x=(y,c)) (wq:World) (hl:LstK wq v l) :
  Gv 31 #[.agg #[.string nm,.int .i64 um,.int .i64 ud,v],.agg #[.bool x.neg,.string x.n,.string x.d],.agg #[.bool y.neg,.string y.n,.string y.d],.int .i64 c] wq (.bool true):=by
 unfold Gv;have HL:=hD hl;have HZ:=hD hz;have c1:=fun w h=>Inverse_any nm um ud v l x HZ.out hx w (HL.out.up h)
 rw [hy] at c1;clear hl hz hy hx;have C1:Hid (∀w,Below wq.heap.size wq w→Gv 29 #[.agg #[.string nm,.int .i64 um,.int .i64 ud,v],.agg #[.bool x.neg,.string x.n,.string x.d]] w (.tuple #[.agg #[.bool y.neg,.string y.n,.string y.d],.int .i64 c])):=hD fun w hp0=>c1 w hp0
 clear c1;have HB:=hD (Below.refl wq.heap.size wq);obtain ⟨n0,hn0⟩:∃n,n=wq.heap.size:=⟨_,rfl⟩;rw [←hn0];have HN0:=hD hn0;clear hn0;go_enter Tryz.func31,Tryz.ntmps31;obtain ⟨W1,bk4,hW1,hbk4,HX4_1,HB,HG4_1,hup⟩:=boxn HB HN0 (.cells #[.string nm,.int .i64 um,.int .i64 ud,v] 26);clear hup;obtain ⟨W2,bk5,hW2,hbk5,HX5_2,HB,HG5_2,hup⟩:=boxn HB HN0 (.cells #[.bool x.neg,.string x.n,.string x.d] 29);have HL5_2:=(hup _ _ HX4_1).2;have HX4_1:=(hup _ _ HX4_1).1;clear hup;obtain ⟨W3,bk6,hW3,hbk6,HX6_3,HB,HG6_3,hup⟩:=boxn HB HN0 (.cells #[.bool y.neg,.string y.n,.string y.d] 29);have HL6_3:=(hup _ _ HX5_2).2;have HX4_1:=(hup _ _ HX4_1).1;have HX5_2:=(hup _ _ HX5_2).1;clear hup;have k4:W3.cell? ⟨bk4,0,none⟩=some (.string nm):=by rw [Lib.cell_of_heap HX4_1.out];rfl
 have k5:W3.cell? ⟨bk4,1,none⟩=some (.int .i64 um):=by rw [Lib.cell_of_heap HX4_1.out];rfl
 have k6:W3.cell? ⟨bk4,2,none⟩=some (.int .i64 ud):=by rw [Lib.cell_of_heap HX4_1.out];rfl
 have k7:W3.cell? ⟨bk4,3,none⟩=some (v):=by rw [Lib.cell_of_heap HX4_1.out];rfl
 obtain ⟨k8a,k8b,k8c⟩:=c3 HX5_2;go_wp2_with fail;clear hW1 hbk4 hW2 hbk5 hW3 hbk6 k4 k5 k6 k7 k8a k8b k8c;refine (C1.out _ HB.out).mono ?_;rintro e w4 ⟨rfl,hb⟩;have HX4_1:=uH hb HX4_1;have HX5_2:=uH hb HX5_2;have HX6_3:=uH hb HX6_3;have HB:=mH HB hb;clear hb;obtain ⟨W5,bk9,hW5,hbk9,HX9_9,HB,HG9_9,hup⟩:=boxZ HB HN0;have HL9_9:=(hup _ _ HX6_3).2;have HX4_1:=(hup _ _ HX4_1).1;have HX5_2:=(hup _ _ HX5_2).1;have HX6_3:=(hup _ _ HX6_3).1;clear hup;obtain ⟨W6,hW6,HX9_9,HB,ho,f10a,f10b,f10c,k10a,k10b,k10c⟩:=put3 HX9_9 HB HN0 HG9_9 (.bool y.neg) (.string y.n) (.string y.d);have HX4_1:=ho _ _ (en3 HL5_2 HL6_3 HL9_9) HX4_1;have HX5_2:=ho _ _ (en2 HL6_3 HL9_9) HX5_2;have HX6_3:=ho _ _ (en1 HL9_9) HX6_3;clear ho;have q11:=(run_eqlW y);obtain ⟨k12a,k12b,k12c⟩:=c3 HX9_9;obtain ⟨k13a,k13b,k13c⟩:=c3 HX6_3;go_wp2_with fail;clear hW5 hbk9 f10a f10b f10c k10a k10b k10c hW6 q11 k12a k12b k12c k13a k13b k13c
 go_ret;exact ⟨rfl,by rw [HN0.out];exact HB.out⟩
end Go.Proofs.YtblgfmjlajhipaaGreatDoor
