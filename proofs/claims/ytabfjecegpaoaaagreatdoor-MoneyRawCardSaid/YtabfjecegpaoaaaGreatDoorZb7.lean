/- Contracts that the proofs of this seat share. Each theorem names its conditions. -/

import Derived.Test.YtabfjecegpaoaaaGreatDoorZb2
import Derived.Test.YtabfjecegpaoaaaGreatDoorZb4
set_option maxHeartbeats 16000000
set_option linter.unusedVariables false
namespace Go.Proofs.YtabfjecegpaoaaaGreatDoor
open Go.RowKit Go.Shelf
open Dgt
structure SrtW (bl bq n cap:Nat) (q:List Rt) (W:World):Prop where
 box:W.heap[bl]? =some (.cells #[.slice (some ⟨bq,0,none⟩) n cap] 67 (0,0))
 row:W.heap[bq]? =some (.cells (cel q).toArray 69 (0,0))
theorem SrtW.fr {bl bq n cap bo:Nat} {q:List Rt} {A W:World} (h:SrtW bl bq n cap q A) (hf:Fr (fun b=>b=bo) A W) (h1:bl≠bo) (h2:bq≠bo):SrtW bl bq n cap q W :=
 ⟨hf.heap h.box h1,hf.heap h.row h2⟩
theorem fr_same {bo:Nat} {A B C:World} (h:Fr (fun b=>b=bo) A B) (k:Below B.heap.size B C):Fr (fun b=>b=bo) A C:=h.trans (Fr.of_new k _)
def ECMP (bl bq n cap i k:Nat) (x y:Rt) (c:Int):Nat→Value
 | 0=>.slice (some ⟨bq,0,none⟩) n cap
 | 1=>.int .i64 (k:Int)
 | 2=>.pointer (some ⟨bq,k*6,none⟩)
 | 3=>.pointer (some ⟨bq,k*6+3,none⟩)
 | 4=>.agg #[.bool y.neg,.string (encS y.num),.string (encS y.den)]
 | 5=>.slice (some ⟨bq,0,none⟩) n cap
 | 6=>.int .i64 (i:Int)
 | 7=>.pointer (some ⟨bq,i*6,none⟩)
 | 8=>.pointer (some ⟨bq,i*6+3,none⟩)
 | 9=>.agg #[.bool x.neg,.string (encS x.num),.string (encS x.den)]
 | 10=>.int .i64 c
 | 11=>.int .i64 c
 | _=>undef
set_option maxRecDepth 100000 in
theorem cmp_any {bl bq n cap i k:Nat} {q:List Rt} {x y:Rt} (hi:i<n) (hk:k<n) (hc:n≤cap) (hx:q[2*i+1]? =some x) (hy:q[2*k+1]? =some y) (ox:x.Ok) (oy:y.Ok) (zx:Rz x 50000) (zy:Rz y 50000) (wq:World) (hS:SrtW bl bq n cap q wq) :
  Gv 102 #[.int .i64 (i:Int),.int .i64 (k:Int),.pointer (some ⟨bl,0,none⟩)] wq (.int .i64 (cmpR y x)):=by
 unfold Gv;have c1:=fun w=>RatCmp_r (IsR.of oy zy) (IsR.of ox zx) (by decide) (by decide) w
 obtain ⟨c,h0⟩:∃c,cmpR y x=c:=⟨_,rfl⟩;rw [h0] at c1 ⊢;have HBX:=hD hS.box;have HRW:=hD hS.row;have HX:=hD hx;have HY:=hD hy;have HIK:=hD (And.intro hi (And.intro hk hc));have C1:Hid (∀w,Gv 71 #[.agg #[.bool y.neg,.string (encS y.num),.string (encS y.den)],.agg #[.bool x.neg,.string (encS x.num),.string (encS x.den)]] w (.int .i64 c)):=hD c1;clear c1 h0 hS hx hy ox oy zx zy hi hk hc;have HB:=hD (Below.refl wq.heap.size wq);obtain ⟨n0,hn0⟩:∃n,n=wq.heap.size:=⟨_,rfl⟩;rw [←hn0];have HN0:=hD hn0;clear hn0;go_enter Tryz.func102,Tryz.ntmps102;go_wp2_with fail;refine wpVl (w:=wq) (by kernel_rfl) (fun ix v _=>v=ECMP bl bq n cap i k x y c ix) (fun t=>(decide (5≤t)&&decide (t<17))) (by kernel_rfl) (by kernel_rfl) (by kernel_rfl) (fun _ _ _ _ _ h=>h) ?_ ?_
 ·intro i hi ov_ listed av_ w hR K hK;have ho:=hR.at_;have hi:i<12:=hi;have hii:i=0∨i=1∨i=2∨i=3∨i=4∨i=5∨i=6∨i=7∨i=8∨i=9∨i=10∨i=11:=by omega
  rcases hii with rfl|rfl|rfl|rfl|rfl|rfl|rfl|rfl|rfl|rfl|rfl|rfl
  ·simp at ho;subst ho;have b2:av_.tmps.getD 2 undef=.pointer (some ⟨bl,0,none⟩):=hR.b 2;have cx:w.cell? ⟨bl,0,none⟩=some (.slice (some ⟨bq,0,none⟩) n cap):=by rw [Lib.cell_of_heap (hpU hR.below HBX.out)];rfl
   refine pSq ?_;go_simp;exact hK _ _ rfl rB
  ·simp at ho;subst ho;have b1:av_.tmps.getD 1 undef=.int .i64 (k:Int):=hR.b 1;refine pSq ?_;go_simp;exact hK _ _ rfl rB
  ·simp at ho;subst ho;have e0:av_.tmps.getD 6 undef=.slice (some ⟨bq,0,none⟩) n cap:=hR.d 0;have e1:av_.tmps.getD 7 undef=.int .i64 (k:Int):=hR.d 1;have q1:(k:Int)<(n:Int):=by have:=HIK.out.2.1;omega
   refine pSq ?_;go_simp;exact hK _ _ rfl rB
  ·simp at ho;subst ho;have e2:av_.tmps.getD 8 undef=.pointer (some ⟨bq,k*6,none⟩):=hR.d 2;refine pSq ?_;go_simp;exact hK _ _ rfl rB
  ·simp at ho;subst ho;have e3:av_.tmps.getD 9 undef=.pointer (some ⟨bq,k*6+3,none⟩):=hR.d 3;obtain ⟨d0,d1,d2⟩:=cel_cells (hpU hR.below HRW.out) HY.out;have d0' :w.cell? ⟨bq,k*6+3,none⟩=some (.bool y.neg):=by rw [show k*6+3=(2*k+1)*3 by omega];exact d0
   have d1' :w.cell? ⟨bq,k*6+4,none⟩=some (.string (encS y.num)):=by rw [show k*6+4=(2*k+1)*3+1 by omega];exact d1
   have d2' :w.cell? ⟨bq,k*6+5,none⟩=some (.string (encS y.den)):=by rw [show k*6+5=(2*k+1)*3+2 by omega];exact d2
   refine pSq ?_;go_simp;exact hK _ _ rfl rB
  ·simp at ho;subst ho;have b2:av_.tmps.getD 2 undef=.pointer (some ⟨bl,0,none⟩):=hR.b 2;have cx:w.cell? ⟨bl,0,none⟩=some (.slice (some ⟨bq,0,none⟩) n cap):=by rw [Lib.cell_of_heap (hpU hR.below HBX.out)];rfl
   refine pSq ?_;go_simp;exact hK _ _ rfl rB
  ·simp at ho;subst ho;have b0:av_.tmps.getD 0 undef=.int .i64 (i:Int):=hR.b 0;refine pSq ?_;go_simp;exact hK _ _ rfl rB
  ·simp at ho;subst ho;have e5:av_.tmps.getD 11 undef=.slice (some ⟨bq,0,none⟩) n cap:=hR.d 5;have e6:av_.tmps.getD 12 undef=.int .i64 (i:Int):=hR.d 6;have q1:(i:Int)<(n:Int):=by have:=HIK.out.1;omega
   refine pSq ?_;go_simp;exact hK _ _ rfl rB
  ·simp at ho;subst ho;have e7:av_.tmps.getD 13 undef=.pointer (some ⟨bq,i*6,none⟩):=hR.d 7;refine pSq ?_;go_simp;exact hK _ _ rfl rB
  ·simp at ho;subst ho;have e8:av_.tmps.getD 14 undef=.pointer (some ⟨bq,i*6+3,none⟩):=hR.d 8;obtain ⟨d0,d1,d2⟩:=cel_cells (hpU hR.below HRW.out) HX.out;have d0' :w.cell? ⟨bq,i*6+3,none⟩=some (.bool x.neg):=by rw [show i*6+3=(2*i+1)*3 by omega];exact d0
   have d1' :w.cell? ⟨bq,i*6+4,none⟩=some (.string (encS x.num)):=by rw [show i*6+4=(2*i+1)*3+1 by omega];exact d1
   have d2' :w.cell? ⟨bq,i*6+5,none⟩=some (.string (encS x.den)):=by rw [show i*6+5=(2*i+1)*3+2 by omega];exact d2
   refine pSq ?_;go_simp;exact hK _ _ rfl rB
  ·simp at ho;subst ho;have e4:av_.tmps.getD 10 undef=.agg #[.bool y.neg,.string (encS y.num),.string (encS y.den)]:=hR.d 4;have e9:av_.tmps.getD 15 undef=.agg #[.bool x.neg,.string (encS x.num),.string (encS x.den)]:=hR.d 9;refine pSq ?_;go_simp;refine (C1.out w).mono ?_;rintro e w' ⟨rfl,hb⟩;exact hK _ _ (rfl) hb
  ·simp at ho;subst ho;have e10:av_.tmps.getD 16 undef=.int .i64 c:=hR.d 10;refine pSq ?_;go_simp;exact hK _ _ rfl rB
 ·intro sv_ w hS hb;have e11:sv_ 5=.int .i64 c:=hS 11 (by decide);simp only [over,ovL,Nat.reduceAdd,Nat.reduceLeDiff,Nat.reduceLT];have HB:=mH HB hb;rw [e11];clear hS hb e11;go_wp2_with fail;go_ret;exact ⟨rfl,by rw [HN0.out];exact HB.out⟩
def ovq (q:List Rt) (k:Nat):Rat:=(q.getD (2*k+1) zeroR).q
def OvOk (q:List Rt) (n:Nat):Prop:=∀i,i<n→∃x,q[2*i+1]? =some x∧x.Ok∧Rz x 50000
theorem ovq_at {q:List Rt} {i:Nat} {x:Rt} (h:q[2*i+1]? =some x):ovq q i=x.q:=by unfold ovq;rw [List.getD_eq_getElem?_getD,h];rfl
theorem swap_fr {bo:Nat} {A W:World} (h:Fr (fun b=>b=bo) A W) (i j:Nat) (u v:Value):Fr (fun b=>b=bo) A ((W.setCell ⟨bo,i,none⟩ u).setCell ⟨bo,j,none⟩ v).drew :=
 (((h.setCell (p:=⟨bo,i,none⟩) (.inl rfl) u).setCell (p:=⟨bo,j,none⟩) (.inl rfl) v)).drew
def EINS0 (bo n:Nat):Nat→Value
 | 0=>.int .i64 ((0:Nat):Int)
 | 1=>.int .i64 0
 | 2=>.bool false
 | 3=>.bool false
 | 4=>undef
 | 5=>undef
 | 6=>undef
 | 7=>undef
 | 8=>undef
 | 9=>undef
 | 10=>undef
 | 11=>undef
 | 12=>undef
 | 13=>undef
 | 14=>undef
 | 15=>undef
 | 16=>.bool false
 | _=>undef
def EINS1 (bo n bl i j J p:Nat) (c:Int) (C:Bool):Nat→Value
 | 0=>.int .i64 (J:Int)
 | 1=>.int .i64 0
 | 2=>.bool true
 | 3=>.bool true
 | 4=>.func (Fn.func 102) #[] #[.pointer (some ⟨bl,0,none⟩)]
 | 5=>.slice (some ⟨bo,0,none⟩) n n
 | 6=>.int .i64 (J:Int)
 | 7=>.pointer (some ⟨bo,J,none⟩)
 | 8=>.int .i64 (i:Int)
 | 9=>.slice (some ⟨bo,0,none⟩) n n
 | 10=>.int .i64 (J:Int)
 | 11=>.int .i64 (j:Int)
 | 12=>.pointer (some ⟨bo,j,none⟩)
 | 13=>.int .i64 (p:Int)
 | 14=>.int .i64 c
 | 15=>.bool C
 | 16=>.bool C
 | _=>undef
set_option maxRecDepth 100000 in
theorem insort_any {bo bl bq n cap:Nat} {q:List Rt} (h1:1≤n) (hn:n≤20) (hc:n≤cap) (hq:OvOk q n) (hne1:bl≠bo) (hne2:bq≠bo) (wq:World) (hS:SrtW bl bq n cap q wq) (hb:wq.heap[bo]? =some (.cells (intsB (List.range n)) 3 (0,0))) :
  Calls Tryz.prog 147 #[.slice (some ⟨bo,0,none⟩) n n,.int .i64 0,.int .i64 (n:Int),.func (Fn.func 102) #[] #[.pointer (some ⟨bl,0,none⟩)]] wq fun e w' =>e=.returned (.tuple #[])∧∃s,Ordd (ovq q) n s∧w'.heap[bo]? =some (.cells (intsB s) 3 (0,0))∧Fr (fun b=>b=bo) wq w' :=by
 have HNB:=hD hb;have HIN:=hD (And.intro h1 hn);have HCM:Hid (∀i k x y W,i<n→k<n→q[2*i+1]? =some x→q[2*k+1]? =some y→Fr (fun b=>b=bo) wq W→Gv 102 #[.int .i64 (i:Int),.int .i64 (k:Int),.pointer (some ⟨bl,0,none⟩)] W (.int .i64 (cmpR y x))):=hD fun i k x y W hi hk hx hy hf=>by
  obtain ⟨x',hx',ox,zx⟩:=hq i hi;obtain ⟨y',hy',oy,zy⟩:=hq k hk;rw [hx] at hx';rw [hy] at hy';obtain rfl:=Option.some.inj hx';obtain rfl:=Option.some.inj hy';exact cmp_any hi hk hc hx hy ox oy zx zy W (hS.fr hf hne1 hne2)
 have HQ:=hD hq;clear hb hS hne1 hne2 h1 hn hc hq;go_enter Tryz.func147,Tryz.ntmps147;go_wp2_with fail
 go_loopw [8] (fun v wr=>∃(i:Nat) (s:List Nat),v=.int .i64 (i:Int)∧1≤i∧i≤n∧Hid (InsI (ovq q) n i s)∧Hid (wr.heap[bo]? =some (.cells (intsB s) 3 (0,0)))∧Hid (Fr (fun b=>b=bo) wq wr)) (fun v _=>n-(intOf v).toNat)
 case atStart=>exact ⟨1,List.range n,rfl,by omega,HIN.out.1,hD (insI_start HIN.out.1),HNB,hD (Fr.refl _ _)⟩
 case round =>
  clear HNB;obtain ⟨i,s,rfl,hi1,hin,HI,HB,HF⟩:=hrel
  by_cases hlt:i<n
  ·have hlt' :(i:Int)<(n:Int):=by omega
   have HLT:=hD hlt;have HI1:=hD hi1;clear hlt hi1 hin;go_wp2_with fail
   go_loopw [9] (fun v wr2=>∃(j:Nat) (s:List Nat),v=.int .i64 (j:Int)∧Hid (InsJ (ovq q) n i j s)∧Hid (wr2.heap[bo]? =some (.cells (intsB s) 3 (0,0)))∧Hid (Fr (fun b=>b=bo) wq wr2)) (fun v _=>(intOf v).toNat)
   case atStart=>exact ⟨i,s,rfl,hD (insJ_start HI.out HLT.out),HB,HF⟩
   case round =>
    clear HI HB HF;obtain ⟨J,s,rfl,HJ,HB,HF⟩:=hrel;have hn20:=HIN.out.2;obtain ⟨hsl,hji,hin⟩:=insJ_len HJ.out;have hwi:IntKind.i64.wrap ((i:Int)+1)=((i+1:Nat):Int):=by rw [IntWalk.i64_in _ (by omega)];omega
    have HWI:=hD hwi;clear hwi;rcases Nat.eq_zero_or_pos J with hJ0|hJ0
    ·subst hJ0;have h0:¬((0:Nat):Int)>0:=by omega
     have HI2:=hD (insJ_stop HJ.out (.inl rfl));clear hsl hji hin hn20;go_wp2_with fail;refine wpVl (w:=wr) (by kernel_rfl) (fun ix v _=>v=EINS0 bo n ix) (fun t=>(decide (18≤t)&&decide (t<35))) (by kernel_rfl) (by kernel_rfl) (by kernel_rfl) (fun _ _ _ _ _ h=>h) ?_ ?_
     ·intro i hi ov_ listed av_ w hR K hK;have ho:=hR.at_;have hi:i<17:=hi;have hii:i=0∨i=1∨i=2∨i=3∨i=4∨i=5∨i=6∨i=7∨i=8∨i=9∨i=10∨i=11∨i=12∨i=13∨i=14∨i=15∨i=16:=by omega
      rcases hii with rfl|rfl|rfl|rfl|rfl|rfl|rfl|rfl|rfl|rfl|rfl|rfl|rfl|rfl|rfl|rfl|rfl
      ·simp at ho;subst ho;have b9:av_.tmps.getD 9 undef=.int .i64 ((0:Nat):Int):=hR.b 9;refine pSq ?_;go_simp;exact hK _ _ rfl rB
      ·simp at ho;subst ho;have b1:av_.tmps.getD 1 undef=.int .i64 0:=hR.b 1;refine pSq ?_;go_simp;exact hK _ _ rfl rB
      ·simp at ho;subst ho;have e0:av_.tmps.getD 18 undef=.int .i64 ((0:Nat):Int):=hR.d 0;have e1:av_.tmps.getD 19 undef=.int .i64 0:=hR.d 1;refine pSq ?_;go_simp;exact hK _ _ rfl rB
      ·simp at ho;subst ho;have e2:av_.tmps.getD 20 undef=.bool false:=hR.d 2;refine pSq ?_;go_simp;exact hK _ _ rfl rB
      ·simp at ho;subst ho;have e3:av_.tmps.getD 21 undef=.bool false:=hR.g 3;refine gSkp rfl rfl rfl (b:=true) e3 (by decide) ?_;exact hK _ _ rfl rB
      ·simp at ho;subst ho;have e3:av_.tmps.getD 21 undef=.bool false:=hR.g 3;refine gSkp rfl rfl rfl (b:=true) e3 (by decide) ?_;exact hK _ _ rfl rB
      ·simp at ho;subst ho;have e3:av_.tmps.getD 21 undef=.bool false:=hR.g 3;refine gSkp rfl rfl rfl (b:=true) e3 (by decide) ?_;exact hK _ _ rfl rB
      ·simp at ho;subst ho;have e3:av_.tmps.getD 21 undef=.bool false:=hR.g 3;refine gSkp rfl rfl rfl (b:=true) e3 (by decide) ?_;exact hK _ _ rfl rB
      ·simp at ho;subst ho;have e3:av_.tmps.getD 21 undef=.bool false:=hR.g 3;refine gSkp rfl rfl rfl (b:=true) e3 (by decide) ?_;exact hK _ _ rfl rB
      ·simp at ho;subst ho;have e3:av_.tmps.getD 21 undef=.bool false:=hR.g 3;refine gSkp rfl rfl rfl (b:=true) e3 (by decide) ?_;exact hK _ _ rfl rB
      ·simp at ho;subst ho;have e3:av_.tmps.getD 21 undef=.bool false:=hR.g 3;refine gSkp rfl rfl rfl (b:=true) e3 (by decide) ?_;exact hK _ _ rfl rB
      ·simp at ho;subst ho;have e3:av_.tmps.getD 21 undef=.bool false:=hR.g 3;refine gSkp rfl rfl rfl (b:=true) e3 (by decide) ?_;exact hK _ _ rfl rB
      ·simp at ho;subst ho;have e3:av_.tmps.getD 21 undef=.bool false:=hR.g 3;refine gSkp rfl rfl rfl (b:=true) e3 (by decide) ?_;exact hK _ _ rfl rB
      ·simp at ho;subst ho;have e3:av_.tmps.getD 21 undef=.bool false:=hR.g 3;refine gSkp rfl rfl rfl (b:=true) e3 (by decide) ?_;exact hK _ _ rfl rB
      ·simp at ho;subst ho;have e3:av_.tmps.getD 21 undef=.bool false:=hR.g 3;refine gSkp rfl rfl rfl (b:=true) e3 (by decide) ?_;exact hK _ _ rfl rB
      ·simp at ho;subst ho;have e3:av_.tmps.getD 21 undef=.bool false:=hR.g 3;refine gSkp rfl rfl rfl (b:=true) e3 (by decide) ?_;exact hK _ _ rfl rB
      ·simp at ho;subst ho;have e3:av_.tmps.getD 21 undef=.bool false:=hR.d 3;refine pSq ?_;go_simp;exact hK _ _ rfl rB
     ·intro sv_ w hS hb;have e16:sv_ 34=.bool false:=hS 16 (by decide);simp only [over,ovL,Nat.reduceAdd,Nat.reduceLeDiff,Nat.reduceLT];have HF2:=hD (fr_same HF.out hb);have HB:=uH hb HB;rw [e16];clear hS hb e16 HF h0;obtain ⟨w8,hw8⟩:∃w8,w8=w:=⟨_,rfl⟩;subst hw8;have hwi:=HWI.out;go_wp2_with fail
      go_roundw
      case rel=>exact ⟨i+1,s,by first|rfl|go_num,by omega,by have:=HLT.out;omega,HI2,HB,HF2⟩
      case measure=>have:=HLT.out;simp [intOf];omega
    ·obtain ⟨j,hj⟩:∃j,j+1=J:=⟨J-1,by omega⟩;have HJE:=hD hj;have HJ:Hid (InsJ (ovq q) n i (j+1) s):=by rw [hj];exact HJ
     have hpj:j<s.length:=by omega
     obtain ⟨p,hp⟩:∃p,s[j]? =some p:=⟨s[j],List.getElem?_eq_getElem hpj⟩;have hpi:=insJ_lt HJ.out hp;obtain ⟨x,hx,ox,-⟩:=HQ.out i hin;obtain ⟨y,hy,oy,-⟩:=HQ.out p (by omega);have HC:=hD (fun W h=>HCM.out i p x y W hin (by omega) hx hy h);have hcq:cmpR y x<0↔ovq q p<ovq q i:=by rw [cmpR_q oy ox,sgQ_lt0,ovq_at hx,ovq_at hy];grind
     obtain ⟨c,hcc⟩:∃c,cmpR y x=c:=⟨_,rfl⟩;rw [hcc] at HC hcq;have HCQ:=hD hcq;have HP:=hD hp;have HJN:Hid (J<n):=hD (by omega);obtain ⟨C,hC⟩:∃C,decide (c<0)=C:=⟨_,rfl⟩;have HCE:=hD hC;clear hj hJ0 hcq hcc hp hsl hji hin hn20 hpj hpi hx ox hy oy hC;go_wp2_with fail;refine wpVl (w:=wr) (by kernel_rfl) (fun ix v _=>v=EINS1 bo n bl i j J p c C ix) (fun t=>(decide (18≤t)&&decide (t<35))) (by kernel_rfl) (by kernel_rfl) (by kernel_rfl) (fun _ _ _ _ _ h=>h) ?_ ?_
     ·intro i hi ov_ listed av_ w hR K hK;have ho:=hR.at_;have hi:i<17:=hi;have hii:i=0∨i=1∨i=2∨i=3∨i=4∨i=5∨i=6∨i=7∨i=8∨i=9∨i=10∨i=11∨i=12∨i=13∨i=14∨i=15∨i=16:=by omega
      rcases hii with rfl|rfl|rfl|rfl|rfl|rfl|rfl|rfl|rfl|rfl|rfl|rfl|rfl|rfl|rfl|rfl|rfl
      ·simp at ho;subst ho;have b9:av_.tmps.getD 9 undef=.int .i64 (J:Int):=hR.b 9;refine pSq ?_;go_simp;exact hK _ _ rfl rB
      ·simp at ho;subst ho;have b1:av_.tmps.getD 1 undef=.int .i64 0:=hR.b 1;refine pSq ?_;go_simp;exact hK _ _ rfl rB
      ·simp at ho;subst ho;have e0:av_.tmps.getD 18 undef=.int .i64 (J:Int):=hR.d 0;have e1:av_.tmps.getD 19 undef=.int .i64 0:=hR.d 1;have q0:0<J:=by have:=HJE.out;omega
       refine pSq ?_;go_simp;exact hK _ _ rfl rB
      ·simp at ho;subst ho;have e2:av_.tmps.getD 20 undef=.bool true:=hR.d 2;refine pSq ?_;go_simp;exact hK _ _ rfl rB
      ·simp at ho;subst ho;have e3:av_.tmps.getD 21 undef=.bool true:=hR.g 3;have b3:av_.tmps.getD 3 undef=.func (Fn.func 102) #[] #[.pointer (some ⟨bl,0,none⟩)]:=hR.b 3;refine gSq (b:=true) e3 ?_;go_simp;exact hK _ _ rfl rB
      ·simp at ho;subst ho;have e3:av_.tmps.getD 21 undef=.bool true:=hR.g 3;have b0:av_.tmps.getD 0 undef=.slice (some ⟨bo,0,none⟩) n n:=hR.b 0;refine gSq (b:=true) e3 ?_;go_simp;exact hK _ _ rfl rB
      ·simp at ho;subst ho;have e3:av_.tmps.getD 21 undef=.bool true:=hR.g 3;have b9:av_.tmps.getD 9 undef=.int .i64 (J:Int):=hR.b 9;refine gSq (b:=true) e3 ?_;go_simp;exact hK _ _ rfl rB
      ·simp at ho;subst ho;have e5:av_.tmps.getD 23 undef=.slice (some ⟨bo,0,none⟩) n n:=hR.d 5;have e6:av_.tmps.getD 24 undef=.int .i64 (J:Int):=hR.d 6;have e3:av_.tmps.getD 21 undef=.bool true:=hR.g 3;have q1:(J:Int)<(n:Int):=by have:=HJN.out;omega
       refine gSq (b:=true) e3 ?_;go_simp;exact hK _ _ rfl rB
      ·simp at ho;subst ho;have e7:av_.tmps.getD 25 undef=.pointer (some ⟨bo,J,none⟩):=hR.d 7;have e3:av_.tmps.getD 21 undef=.bool true:=hR.g 3;have cx:w.cell? ⟨bo,J,none⟩=some (.int .i64 (i:Int)):=ints_cell (hpU hR.below HB.out) (by rw [←HJE.out];exact insJ_val HJ.out);refine gSq (b:=true) e3 ?_;go_simp;exact hK _ _ rfl rB
      ·simp at ho;subst ho;have e3:av_.tmps.getD 21 undef=.bool true:=hR.g 3;have b0:av_.tmps.getD 0 undef=.slice (some ⟨bo,0,none⟩) n n:=hR.b 0;refine gSq (b:=true) e3 ?_;go_simp;exact hK _ _ rfl rB
      ·simp at ho;subst ho;have e3:av_.tmps.getD 21 undef=.bool true:=hR.g 3;have b9:av_.tmps.getD 9 undef=.int .i64 (J:Int):=hR.b 9;refine gSq (b:=true) e3 ?_;go_simp;exact hK _ _ rfl rB
      ·simp at ho;subst ho;have e10:av_.tmps.getD 28 undef=.int .i64 (J:Int):=hR.d 10;have e3:av_.tmps.getD 21 undef=.bool true:=hR.g 3;have q1:IntKind.i64.wrap ((J:Int)-1)=(j:Int):=by rw [IntWalk.i64_in _ (by have:=HJN.out;have:=HIN.out.2;omega)];have:=HJE.out;omega
       refine gSq (b:=true) e3 ?_;go_simp;exact hK _ _ rfl rB
      ·simp at ho;subst ho;have e9:av_.tmps.getD 27 undef=.slice (some ⟨bo,0,none⟩) n n:=hR.d 9;have e11:av_.tmps.getD 29 undef=.int .i64 (j:Int):=hR.d 11;have e3:av_.tmps.getD 21 undef=.bool true:=hR.g 3;have q1:(j:Int)<(n:Int):=by have:=HJN.out;have:=HJE.out;omega
       refine gSq (b:=true) e3 ?_;go_simp;exact hK _ _ rfl rB
      ·simp at ho;subst ho;have e12:av_.tmps.getD 30 undef=.pointer (some ⟨bo,j,none⟩):=hR.d 12;have e3:av_.tmps.getD 21 undef=.bool true:=hR.g 3;have cx:w.cell? ⟨bo,j,none⟩=some (.int .i64 (p:Int)):=ints_cell (hpU hR.below HB.out) HP.out;refine gSq (b:=true) e3 ?_;go_simp;exact hK _ _ rfl rB
      ·simp at ho;subst ho;have e4:av_.tmps.getD 22 undef=.func (Fn.func 102) #[] #[.pointer (some ⟨bl,0,none⟩)]:=hR.d 4;have e8:av_.tmps.getD 26 undef=.int .i64 (i:Int):=hR.d 8;have e13:av_.tmps.getD 31 undef=.int .i64 (p:Int):=hR.d 13;have e3:av_.tmps.getD 21 undef=.bool true:=hR.g 3;refine gSq (b:=true) e3 ?_;go_simp;refine (HC.out w (fr_same HF.out hR.below)).mono ?_;rintro e w' ⟨rfl,hb⟩;exact hK _ _ (rfl) hb
      ·simp at ho;subst ho;have e14:av_.tmps.getD 32 undef=.int .i64 c:=hR.d 14;have e3:av_.tmps.getD 21 undef=.bool true:=hR.g 3;have q1:=HCE.out;refine gSq (b:=true) e3 ?_;go_simp;exact hK _ _ rfl rB
      ·simp at ho;subst ho;have e3:av_.tmps.getD 21 undef=.bool true:=hR.d 3;have e15:av_.tmps.getD 33 undef=.bool C:=hR.d 15;refine pSq ?_;go_simp;exact hK _ _ rfl rB
     ·intro sv_ w hS hb;have e16:sv_ 34=.bool C:=hS 16 (by decide);simp only [over,ovL,Nat.reduceAdd,Nat.reduceLeDiff,Nat.reduceLT];have HF:=hD (fr_same HF.out hb);have HB:=uH hb HB;rw [e16];clear hS hb e16;obtain ⟨w8,hw8⟩:∃w8,w8=w:=⟨_,rfl⟩;subst hw8;cases C
      ·have HI2:=hD (insJ_stop HJ.out (.inr ⟨p,by omega,HP.out,fun h=>by have h2:=HCE.out;have h3:=HCQ.out.2 h;simp at h2;omega⟩));have hwi:=HWI.out;go_wp2_with fail
       go_roundw
       case rel=>exact ⟨i+1,s,by first|rfl|go_num,by omega,by have:=HLT.out;omega,HI2,HB,HF⟩
       case measure=>have:=HLT.out;simp [intOf];omega
      ·have HJ2:=hD (insJ_step HJ.out HP.out (HCQ.out.1 (of_decide_eq_true HCE.out)));have ca:w8.cell? ⟨bo,J,none⟩=some (.int .i64 (i:Int)):=ints_cell HB.out (by rw [←HJE.out];exact insJ_val HJ.out);have cb:w8.cell? ⟨bo,j,none⟩=some (.int .i64 (p:Int)):=ints_cell HB.out HP.out;have fa:w8.frozen? ⟨bo,J,none⟩=false:=frz0 HB.out J;have fb:w8.frozen? ⟨bo,j,none⟩=false:=frz0 HB.out j;have hX:=ints_set HB.out J p;have cc:(w8.setCell ⟨bo,J,none⟩ (.int .i64 (p:Int))).cell? ⟨bo,j,none⟩=some (.int .i64 (p:Int)):=by rw [Lib.cell_of_heap hX];have:=HJE.out;have h2:=List.getElem?_eq_some_iff.1 HP.out;simp [intsB,HP.out,show ¬J=j by omega]
       have HX:Hid (((w8.setCell ⟨bo,J,none⟩ (.int .i64 (p:Int))).setCell ⟨bo,j,none⟩ (.int .i64 (i:Int))).drew.heap[bo]? =some (.cells (intsB ((s.set (j+1) p).set j i)) 3 (0,0))):=hD (by rw [HJE.out];exact ints_set hX j i);have HF3:=hD (swap_fr HF.out J j (.int .i64 (p:Int)) (.int .i64 (i:Int)));have q1:(J:Int)<(n:Int):=by have:=HJN.out;omega
       have q2:(j:Int)<(n:Int):=by have:=HJN.out;have:=HJE.out;omega
       have q3:IntKind.i64.wrap (j:Int)=(j:Int):=IntWalk.i64_in _ (by have:=HJN.out;have:=HJE.out;have:=HIN.out.2;omega);have q4:(J:Int)-1=(j:Int):=by have:=HJE.out;omega
       clear hX;go_wp2_with fail
       go_big_region
       clear ca cb fa fb cc;obtain ⟨w9,hw9⟩:∃w9,((w8.setCell ⟨bo,J,none⟩ (.int .i64 (p:Int))).setCell ⟨bo,j,none⟩ (.int .i64 (i:Int))).drew=w9:=⟨_,rfl⟩;rw [hw9] at HX HF3 ⊢;clear hw9;go_wp2_with fail
       go_roundw
       case rel=>exact ⟨j,_,by first|rfl|go_num,HJ2,HX,HF3⟩
       case measure=>have:=HJE.out;simp [intOf];omega
  ·obtain rfl:i=n:=by omega
   have HO:=hD (insI_end HI.out);have hge:¬(i:Int)<(i:Int):=by omega
   clear hlt hi1 hin;go_wp2_with fail
   go_end0
   exact ⟨rfl,s,HO.out,HB.out,HF.out⟩
end Go.Proofs.YtabfjecegpaoaaaGreatDoor
