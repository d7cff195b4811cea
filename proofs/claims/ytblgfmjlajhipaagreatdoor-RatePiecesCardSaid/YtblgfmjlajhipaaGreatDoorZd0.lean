/- Contracts that the proofs of this seat share. Each theorem names its conditions. -/
import Derived.RangeFuncKeeps
import Derived.Test.YtblgfmjlajhipaaGreatDoorZc8
import Derived.Test.YtblgfmjlajhipaaGreatDoorZc9
import Derived.Test.YtblgfmjlajhipaaGreatDoorZb9
import Derived.Test.YtblgfmjlajhipaaGreatDoorZb5
set_option maxHeartbeats 16000000
set_option linter.unusedVariables false
namespace Go.Proofs.YtblgfmjlajhipaaGreatDoor
open Go.RowKit Go.Shelf Go.Maps
open Dgt
attribute [local go_sem] Oper.semAt_some
def OvM (S b1 b2:Nat):Nat→Prop:=fun b=>b<S∧b≠b1∧b≠b2
def OvI (b4 b6 S b1 b2:Nat) (w0:World) (pre:List DR) (m:Nat→Prop) (A:World):Prop :=
 A.heap[b4]? =some (.cells #[.bool false,.string ⟨#[]⟩,.string ⟨#[]⟩] 29 (0,0))∧A.heap[b6]? =some (.cells #[.bool (sumP pre).neg,.string (encS (sumP pre).num),.string (encS (sumP pre).den)] 29 (0,0))∧Below w0.heap.size w0 A∧S≤A.heap.size∧m=OvM S b1 b2
theorem OvI_hangs {b4 b6 S b1 b2:Nat} {w0:World} (h1:w0.heap.size≤b1) (h2:w0.heap.size≤b2) (hS:w0.heap.size≤S) (h4:OvM S b1 b2 b4) (h6:OvM S b1 b2 b6):Hangs (OvI b4 b6 S b1 b2 w0):=by
 rintro pre m A B ⟨a1,a2,a3,a4,rfl⟩ hf;exact ⟨hf.heap a1 (fun h=>h h4),hf.heap a2 (fun h=>h h6),a3.trans (hf.below a3.size (fun b hb h=>h ⟨by omega,by omega,by omega⟩)),Nat.le_trans a4 hf.size,rfl⟩
theorem sumP_sz {n:List DR} {fr tp:Int} (h:Gr n) (hs:spanB fr tp=true) (hn:n.length≤1000):∀k,k≤n.length→Rz (sumP (pieceK n fr tp k)) 60000∧Rz (refK n fr tp k) 60000:=fun k hk=>by
 have hp:=span_parts hs;have hd:∀k,-9223372036854775808≤dayAt n fr tp k∧dayAt n fr tp k≤9223372036854775807:=fun k=>by
  unfold dayAt;cases hk:n[k]? with
  | none=>simp only;omega
  | some e =>
   have h1:=h.day e (List.mem_of_getElem? hk);cases hk2:n[k+1]? with
   | none=>simp only;omega
   | some e2 =>
    have h2:=h.day e2 (List.mem_of_getElem? hk2);simp only;omega
 obtain ⟨h1,h2⟩:=piece_sz h hd k;exact ⟨h1.mono (by omega),h2.mono (by omega)⟩
theorem piece_of {n:List DR} {fr tp:Int} (h:Gr n) (hs:spanB fr tp=true):∀{k:Nat} {pre:List DR} {p:DR} {rest:List DR},k≤n.length→pieceK n fr tp k=pre++p::rest→0<p.1∧p.1≤3652059∧p.2.Ok∧fitT p.2=true∧∃j,j≤n.length∧pre=pieceK n fr tp j
 | 0,pre,p,rest,_,e=>by simp [pieceK] at e
 | k+1,pre,p,rest,hk,e=>by
  rw [pieceK_s] at e
  split at e
  ·rename_i hd
   rcases List.eq_nil_or_concat rest with rfl|⟨r,z,rfl⟩
   ·have e2:=List.append_inj' e rfl;have hp:p=(dayAt n fr tp k,rtAt n k):=by have:=e2.2;injection this with this;exact this.symm
    subst hp;have hsp:=span_parts hs;refine ⟨hd,?_,(rtAt_ok h k).1,(rtAt_ok h k).2,k,by omega,e2.1.symm⟩;show dayAt n fr tp k≤3652059;unfold dayAt;cases hk:n[k]? with
    | none=>exact (by decide:(0:Int)≤3652059)
    | some x =>
     have h1:=h.day x (List.mem_of_getElem? hk);cases hk2:n[k+1]? with
     | none=>simp only;omega
     | some e2=>simp only;omega
   ·rw [List.concat_eq_append, ←List.cons_append, ←List.append_assoc] at e;exact piece_of h hs (by omega) (List.append_inj' e rfl).1
  ·exact piece_of h hs (by omega) e
set_option maxRecDepth 100000 in
theorem Over_no (v:Value) (l:List Dk) (fr tp:Int) (hs:spanB fr tp=false) (wq:World) :
  Gv 38 #[v,.agg #[.int .i64 fr,.int .i64 tp]] wq (.tuple #[.agg #[.bool (overV l fr tp).1.neg,.string (overV l fr tp).1.n,.string (overV l fr tp).1.d],.bool (overV l fr tp).2]):=by
 unfold Gv;rw [show overV l fr tp=(zrow,false) by unfold overV;rw [if_neg (by rw [hs];decide)]];have c1:=fun w=>spanRight_any fr tp w
 rw [hs] at c1;have C1:Hid (∀w,Gv 79 #[.agg #[.int .i64 fr,.int .i64 tp]] w (.bool false)):=hD c1;clear c1 hs;have HB:=hD (Below.refl wq.heap.size wq);obtain ⟨n0,hn0⟩:∃n,n=wq.heap.size:=⟨_,rfl⟩;rw [←hn0];have HN0:=hD hn0;clear hn0;go_enter Tryz.func38,Tryz.ntmps38;obtain ⟨W1,bk3,hW1,hbk3,HX3_1,HB,HG3_1,hup⟩:=boxn HB HN0 (.cells #[.int .i64 fr,.int .i64 tp] 68);clear hup;obtain ⟨W2,bk4,hW2,hbk4,HX4_2,HB,HG4_2,hup⟩:=boxZ HB HN0;have HL4_2:=(hup _ _ HX3_1).2;have HX3_1:=(hup _ _ HX3_1).1;clear hup;have k3:W2.cell? ⟨bk3,0,none⟩=some (.int .i64 fr):=by rw [Lib.cell_of_heap HX3_1.out];rfl
 have k4:W2.cell? ⟨bk3,1,none⟩=some (.int .i64 tp):=by rw [Lib.cell_of_heap HX3_1.out];rfl
 go_wp2_with fail;clear hW1 hbk3 hW2 hbk4 k3 k4;refine (C1.out _).mono ?_;rintro e w3 ⟨rfl,hb⟩;have HX3_1:=uH hb HX3_1;have HX4_2:=uH hb HX4_2;have HB:=mH HB hb;clear hb;obtain ⟨W4,hW4,HX4_2,HB,ho,f5a,f5b,f5c,k5a,k5b,k5c⟩:=putZ HX4_2 HB HN0 HG4_2;have HX3_1:=ho _ _ (en1 HL4_2) HX3_1;clear ho;go_wp2_with fail;clear f5a f5b f5c k5a k5b k5c hW4;refine bodyPost_ret (rC2 HX4_2.out) rfl ?_;exact ⟨rfl,by rw [HN0.out];exact HB.out⟩
def EOver_yes_7_1 (x:Rt) (od:Rt) (pr:Rt) (su:Rt) (su2:Rt) (dd:Int):Nat→Value
 | 0=>.agg #[.bool su.neg,.string (encS su.num),.string (encS su.den)]
 | 1=>.int .i64 dd
 | 2=>.agg #[.bool od.neg,.string (encS od.num),.string (encS od.den)]
 | 3=>.agg #[.bool x.neg,.string (encS x.num),.string (encS x.den)]
 | 4=>.agg #[.bool pr.neg,.string (encS pr.num),.string (encS pr.den)]
 | 5=>.agg #[.bool su2.neg,.string (encS su2.num),.string (encS su2.den)]
 | _=>undef
set_option maxRecDepth 100000 in
theorem Over_yes (v:Value) (l:List Dk) (fr tp:Int) (hz:SzD l 1100000) (hs:spanB fr tp=true) (wq:World) (hl:LstD wq v l) :
  Gv 38 #[v,.agg #[.int .i64 fr,.int .i64 tp]] wq (.tuple #[.agg #[.bool (overV l fr tp).1.neg,.string (overV l fr tp).1.n,.string (overV l fr tp).1.d],.bool (overV l fr tp).2]):=by
 unfold Gv;have hn9:=normG_le l;obtain ⟨ps,ca,rfl,-,hla,-⟩:=hl.open;have HL:=Lib.hid hl;have HZ:=Lib.hid hz;have HSB:=Lib.hid hs;have HOV:=Lib.hid (show overV l fr tp=if fitT (overT (normG (drs l)) fr tp)=true then (rawR (overT (normG (drs l)) fr tp),true) else (zrow,false) by unfold overV;rw [if_pos hs]);have hgr:=norm_gr (drs_gr l);have HPZ:=Lib.hid (sumP_sz hgr hs (by omega));have HPK:=Lib.hid (fun k=>(@piece_q _ fr tp hgr k).1);have HPO:=Lib.hid (fun k pre p rest=>@piece_of _ fr tp hgr hs k pre p rest);have c1:=fun w=>spanRight_any fr tp w
 have c2:=fun w=>RatOf_any 0 w (by decide) (by decide)
 have HZ0:Hid (sumP []=ofR 0):=Lib.hid rfl;obtain ⟨z0,hz0⟩:∃a,ofR 0=a:=⟨_,rfl⟩;rw [hz0] at c2 HZ0;rw [hs] at c1;have HPI:=Lib.hid (fun b1 b2 w0 h1 h2 h3=>pieces_iter (.slice ps l.length ca) l fr tp b1 b2 w0 hz h1 h2 h3 hs);have HSO:=Lib.hid (@over_q _ fr tp hgr).1;obtain ⟨V,hV⟩:∃o,overV l fr tp=o:=⟨_,rfl⟩;rw [hV] at HOV ⊢;obtain ⟨n,hn⟩:∃n,normG (drs l)=n:=⟨_,rfl⟩;rw [hn] at HOV HPZ HPO HPI HSO HPK;clear hla hl hz hs hgr hz0 hV hn hn9;have C1:Hid (∀w,Gv 79 #[.agg #[.int .i64 fr,.int .i64 tp]] w (.bool true)):=Lib.hid c1;have C2:Hid (∀w,Gv 58 #[.int .i64 0] w (.agg #[.bool z0.neg,.string (encS z0.num),.string (encS z0.den)])):=Lib.hid c2;clear c1 c2;have HB:=Lib.hid (Below.refl wq.heap.size wq);obtain ⟨n0,hn0⟩:∃n,n=wq.heap.size:=⟨_,rfl⟩;rw [←hn0];have HN0:=Lib.hid hn0;clear hn0;refine (callsIn_wide (n:=0)).1 ?_;refine callsIn_of_wp_marks Tryz.func38 rfl trivial ?_
 refine (wpIn_wide (n:=0)).2 ?_;simp only [Tryz.ntmps38,List.size_toArray,List.length_cons,List.length_nil,Nat.reduceAdd,Nat.reduceSub,Array.replicate_succ,Array.replicate_zero,List.push_toArray,List.append_toArray,List.nil_append,List.cons_append];obtain ⟨W1,bk3,hW1,hbk3,HX3_1,HB,HG3_1,hup⟩:=boxn HB HN0 (.cells #[.int .i64 fr,.int .i64 tp] 68);clear hup;obtain ⟨W2,bk4,hW2,hbk4,HX4_2,HB,HG4_2,hup⟩:=boxZ HB HN0;have HL4_2:=(hup _ _ HX3_1).2;have HX3_1:=(hup _ _ HX3_1).1;clear hup;have k3:W2.cell? ⟨bk3,0,none⟩=some (.int .i64 fr):=by rw [Lib.cell_of_heap HX3_1.out];rfl
 have k4:W2.cell? ⟨bk3,1,none⟩=some (.int .i64 tp):=by rw [Lib.cell_of_heap HX3_1.out];rfl
 go_wp2_with fail;clear hW1 hbk3 hW2 hbk4 k3 k4;refine (C1.out _).mono ?_;rintro e w3 ⟨rfl,hb⟩;have HX3_1:=uH hb HX3_1;have HX4_2:=uH hb HX4_2;have HB:=mH HB hb;clear hb;go_wp2_with fail;refine (C2.out _).mono ?_;rintro e w4 ⟨rfl,hb⟩;have HX3_1:=uH hb HX3_1;have HX4_2:=uH hb HX4_2;have HB:=mH HB hb;clear hb;obtain ⟨W5,bk6,hW5,hbk6,HX6_5,HB,HG6_5,hup⟩:=boxZ HB HN0;have HL6_5:=(hup _ _ HX4_2).2;have HX3_1:=(hup _ _ HX3_1).1;have HX4_2:=(hup _ _ HX4_2).1;clear hup;obtain ⟨W6,hW6,HX6_5,HB,ho,f6a,f6b,f6c,k6a,k6b,k6c⟩:=putR HX6_5 HB HN0 HG6_5 z0;have HX3_1:=ho _ _ (en2 HL4_2 HL6_5) HX3_1;have HX4_2:=ho _ _ (en1 HL6_5) HX4_2;clear ho;have k7:W6.cell? ⟨bk3,0,none⟩=some (.int .i64 fr):=by rw [Lib.cell_of_heap HX3_1.out];rfl
 have k8:W6.cell? ⟨bk3,1,none⟩=some (.int .i64 tp):=by rw [Lib.cell_of_heap HX3_1.out];rfl
 go_wp2_with fail;clear hW5 hbk6 f6a f6b f6c k6a k6b k6c hW6 k7 k8;refine (pieces_any ps l.length ca fr tp _).mono ?_;rintro e w8 ⟨rfl,rfl⟩;obtain ⟨W7,bk161,hW7,hbk161,HX161_9,HB,HG161_9,hup⟩:=boxn HB HN0 (.cells #[.slice ps l.length ca] 56);have HL161_9:=(hup _ _ HX6_5).2;have HX3_1:=(hup _ _ HX3_1).1;have HX4_2:=(hup _ _ HX4_2).1;have HX6_5:=(hup _ _ HX6_5).1;clear hup;obtain ⟨W8,bk162,hW8,hbk162,HX162_10,HB,HG162_10,hup⟩:=boxn HB HN0 (.cells #[.int .i64 fr,.int .i64 tp] 68);have HL162_10:=(hup _ _ HX161_9).2;have HX3_1:=(hup _ _ HX3_1).1;have HX4_2:=(hup _ _ HX4_2).1;have HX6_5:=(hup _ _ HX6_5).1;have HX161_9:=(hup _ _ HX161_9).1;clear hup;go_wp2_with fail;clear hW7 hbk161 hW8 hbk162;have hdi:=HPI.out bk161 bk162 W8 (HL.out.up HB.out) HX161_9.out HX162_10.out;have HWS:Hid (bk162<W8.heap.size):=Lib.hid (Array.getElem?_eq_some_iff.1 HX162_10.out).1
 have HL64:=HL6_5;have HL16:=HL161_9;have HL12:=HL162_10;have HG0:Hid (wq.heap.size≤bk4):=Lib.hid (by rw [←HN0.out];exact HG4_2.out);have HO4:Hid (OvM W8.heap.size bk161 bk162 bk4):=Lib.hid (by have:=HWS.out;have:=HL64.out;have:=HL16.out;have:=HL12.out;exact ⟨by omega,by omega,by omega⟩);have HO6:Hid (OvM W8.heap.size bk161 bk162 bk6):=Lib.hid (by have:=HWS.out;have:=HL64.out;have:=HL16.out;have:=HL12.out;exact ⟨by omega,by omega,by omega⟩);have HWQ:Hid (wq.heap.size≤W8.heap.size):=Lib.hid HB.out.size;refine (wpIn_wide (n:=0)).1 ?_
 refine wp_rangeA (xs:=pieceK n fr tp n.length) (encs:=fun p:DR=>#[Value.int .i64 p.1,.agg #[.bool p.2.neg,.string (encS p.2.num),.string (encS p.2.den)]]) (Bx:=fun b=>b=bk161∨b=bk162) rfl (enters_of Tryz.func111 (by kernel_rfl) rfl) hdi (fun _=>rfl) (OvI bk4 bk6 W8.heap.size bk161 bk162 wq) (fun _ _ _=>False) ?hI ?hIlt (fun _ _ _ _ h _=>h) ?hBx (OvM W8.heap.size bk161 bk162) ?h0 ?round ?done (fun _ _ _ h=>h.elim)
 case hI=>exact OvI_hangs (by have:=HG0.out;have:=HL64.out;have:=HL16.out;omega) (by have:=HG0.out;have:=HL64.out;have:=HL16.out;have:=HL12.out;omega) HWQ.out HO4.out HO6.out
 case hIlt =>
  rintro pre m A b ⟨-,-,-,a4,rfl⟩ ⟨h1,h2,h3⟩;exact ⟨by omega,by rintro (h|h);exact h2 h;exact h3 h,by omega,by omega⟩
 case hBx =>
  have:=HWS.out;have:=HL12.out;rintro b (rfl|rfl)<;>omega
 case h0=>exact ⟨HX4_2.out,by rw [HZ0.out];exact HX6_5.out,HB.out,Nat.le_refl _,rfl⟩
 case round =>
  clear hdi;rintro l9 pre ⟨dd,x⟩ rest m Wr hxs hwr ⟨a1,a2,a3,a4,rfl⟩;obtain ⟨hd0,hd1,hxo,hxf,j,hj,hpre⟩:=HPO.out _ _ _ _ (Nat.le_refl _) hxs
  change 0<dd at hd0;change dd≤3652059 at hd1;change x.Ok at hxo;change fitT x=true at hxf
  have zs:Rz (sumP pre) 60000:=by rw [hpre];exact (HPZ.out j hj).1
  have ks:(sumP pre).Ok:=by rw [hpre];exact HPK.out j
  have zo:Rz (ofR dd) 8:=ofR_sz (by omega) (by omega);have zx:=fitT_sz hxf;have m1:=fun w=>RatOf_any dd w (by omega) (by omega)
  have m2:=fun w=>RatMul_r (IsR.of (ofR_ok dd) (zo.mono (show 8≤1000 by decide))) (IsR.of hxo (zx.mono (show _≤1000 by decide))) (by decide) (by decide) w
  have m3:=fun w=>RatAdd_r (IsR.of ks zs) (IsR.of (mulR_ok (ofR_ok dd) hxo) ((mulR_sz zo zx).mono (show _≤60000 by decide))) (by decide) (by decide) w
  have HSN:Hid (sumP (pre++[(dd,x)])=addR (sumP pre) (mulR (ofR dd) x)):=Lib.hid (sumP_snoc pre (dd,x));obtain ⟨od,h1⟩:∃a,ofR dd=a:=⟨_,rfl⟩;rw [h1] at m1 m2 m3 HSN;obtain ⟨pr,h2⟩:∃a,mulR od x=a:=⟨_,rfl⟩;rw [h2] at m2 m3 HSN;have HX4_2:=Lib.hid a1;have HX6_5:=Lib.hid a2;have HB:=Lib.hid a3;have HA4:=Lib.hid a4;obtain ⟨su,h3⟩:∃a,sumP pre=a:=⟨_,rfl⟩;rw [h3] at m3 HSN HX6_5;have HSU:=Lib.hid h3;obtain ⟨su2,h4⟩:∃a,addR su pr=a:=⟨_,rfl⟩;rw [h4] at m3 HSN;have HBr:=Lib.hid (Below.refl Wr.heap.size Wr);have HWR:=Lib.hid hwr;have C3:Hid (∀w,Gv 58 #[.int .i64 dd] w (.agg #[.bool od.neg,.string (encS od.num),.string (encS od.den)])):=Lib.hid m1;have C4:Hid (∀w,Gv 62 #[rtV od,rtV x] w (.agg #[.bool pr.neg,.string (encS pr.num),.string (encS pr.den)])):=Lib.hid m2;have C5:Hid (∀w,Gv 60 #[rtV su,rtV pr] w (.agg #[.bool su2.neg,.string (encS su2.num),.string (encS su2.den)])):=Lib.hid m3
  clear m1 m2 m3 zs ks zo zx h1 h2 h3 h4 hd0 hd1 hxo hxf hj hpre hxs a1 a2 a3 a4 hwr;obtain ⟨W9,bk8,hW9,hbk8,HX8_11,HB,HG8_11,hup⟩:=boxZ HB HN0;have HGb8_11:=Lib.hid (show _≤bk8 by rw [←hbk8];exact HBr.out.size);have HBr:=Lib.hid (by have h:=HBr.out.alloc HBr.out.size (.cells #[.bool false,.string ⟨#[]⟩,.string ⟨#[]⟩] 29);rw [hW9] at h;exact h);have HL8_11:=(hup _ _ HX6_5).2;have HX4_2:=(hup _ _ HX4_2).1;have HX6_5:=(hup _ _ HX6_5).1;clear hup;obtain ⟨W10,hW10,HX8_11,HB,ho,f12a,f12b,f12c,k12a,k12b,k12c⟩:=putR HX8_11 HB HN0 HG8_11 x;have HX4_2:=ho _ _ (en2 HL6_5 HL8_11) HX4_2;have HX6_5:=ho _ _ (en1 HL8_11) HX6_5;have HBr:=Lib.hid (by have h:=((HBr.out.setCell (p:=⟨bk8,0,none⟩) HGb8_11.out (.bool x.neg)).setCell (p:=⟨bk8,1,none⟩) HGb8_11.out (.string (encS x.num))).setCell (p:=⟨bk8,2,none⟩) HGb8_11.out (.string (encS x.den));rw [hW10] at h;exact h);clear ho
  gi_wp2_with fail
  clear hW9 hbk8 f12a f12b f12c k12a k12b k12c hW10;refine ⟨HBr.out,?_⟩;rintro W' hsz hfl ⟨a1,a2,a3,a4,-⟩;rw [HSU.out] at a2;have HX8:=Lib.hid (hfl.heap HX8_11.out (fun h=>by have:=HGb8_11.out;have:=HWR.out;omega));have HX4_2:=Lib.hid a1;have HX6_5:=Lib.hid a2;have HB:=Lib.hid a3;have HA4:=Lib.hid a4;have HBr:=Lib.hid (Below.refl W'.heap.size W');clear a1 a2 a3 a4 hsz hfl;have HL8:=HL8_11
  gi_wp2_with fail
  refine wpIn_region_tail (w:=W') (by kernel_rfl) (fun ix v _=>v=EOver_yes_7_1 x od pr su su2 dd ix) 6 (fun t=>(decide (19≤t)&&decide (t<25))) (by decide) (by kernel_rfl) (by kernel_rfl) (by kernel_rfl) (by kernel_rfl) (by kernel_rfl) (fun _ _ _ _ _ h=>h) ?_ ?_
  ·intro i hi ov_ listed av_ w hR K hK;have ho:=hR.at_;have hi:i<6:=hi;have hii:i=0∨i=1∨i=2∨i=3∨i=4∨i=5:=by omega
   rcases hii with rfl|rfl|rfl|rfl|rfl|rfl<;>(simp at ho;subst ho)
   ·have b6:av_.tmps.getD 6 undef=.pointer (some ⟨bk6,0,none⟩):=hR.b 6;obtain ⟨cx0,cx1,cx2⟩:=c3 (uH hR.below HX6_5);refine plain_stepI rfl rfl ?_;go_simp;exact hK _ _ rfl rB
   ·have b7:av_.tmps.getD 7 undef=.int .i64 dd:=hR.b 7;refine plain_stepI rfl rfl ?_;go_simp;exact hK _ _ rfl rB
   ·have e1:av_.tmps.getD 20 undef=.int .i64 dd:=hR.t 1;refine plain_stepI rfl rfl ?_;go_simp;refine ⟨trivial,rfl,?_⟩;refine (CallsIn.inRound l9 (callsIn_wide.2 (C3.out w))).mono ?_;rintro e w' ⟨rfl,hb⟩;exact hK _ _ (rfl) hb
   ·have b8:av_.tmps.getD 8 undef=.pointer (some ⟨bk8,0,none⟩):=hR.b 8;obtain ⟨cx0,cx1,cx2⟩:=c3 (uH hR.below HX8);refine plain_stepI rfl rfl ?_;go_simp;exact hK _ _ rfl rB
   ·have e2:av_.tmps.getD 21 undef=.agg #[.bool od.neg,.string (encS od.num),.string (encS od.den)]:=hR.t 2;have e3:av_.tmps.getD 22 undef=.agg #[.bool x.neg,.string (encS x.num),.string (encS x.den)]:=hR.t 3;refine plain_stepI rfl rfl ?_;go_simp;refine ⟨trivial,rfl,?_⟩;refine (CallsIn.inRound l9 (callsIn_wide.2 (C4.out w))).mono ?_;rintro e w' ⟨rfl,hb⟩;exact hK _ _ (rfl) hb
   ·have e0:av_.tmps.getD 19 undef=.agg #[.bool su.neg,.string (encS su.num),.string (encS su.den)]:=hR.t 0;have e4:av_.tmps.getD 23 undef=.agg #[.bool pr.neg,.string (encS pr.num),.string (encS pr.den)]:=hR.t 4;refine plain_stepI rfl rfl ?_;go_simp;refine ⟨trivial,rfl,?_⟩;refine (CallsIn.inRound l9 (callsIn_wide.2 (C5.out w))).mono ?_;rintro e w' ⟨rfl,hb⟩;exact hK _ _ (rfl) hb
  ·intro sv_ w hS hb;have e5:sv_ 24=.agg #[.bool su2.neg,.string (encS su2.num),.string (encS su2.den)]:=hS 5 (by decide);simp only [over,ovL,Nat.reduceAdd,Nat.reduceLeDiff,Nat.reduceLT];have HX4_2:=uH hb HX4_2;have HX6_5:=uH hb HX6_5;have HX8:=uH hb HX8;have HB:=mH HB hb;have HBr:=mH HBr hb;obtain ⟨w11,hw⟩:∃w8,w8=w:=⟨_,rfl⟩;subst hw;rw [e5];clear hS hb e5;obtain ⟨W12,hW12,HX6_5,HB,ho,f13a,f13b,f13c,k13a,k13b,k13c⟩:=putR HX6_5 HB HN0 HG6_5 su2;have HX4_2:=ho _ _ (en1 HL6_5) HX4_2;have HX8:=ho _ _ (ne1 HL8) HX8;have HFHBr:Hid (Fr (fun b=>b=bk6) W' W12):=Lib.hid (by rw [←hW12];exact ((((Fr.of_new HBr.out (fun b=>b=bk6)).setCell (p:=⟨bk6,0,none⟩) (.inl rfl) (.bool su2.neg)).setCell (p:=⟨bk6,1,none⟩) (.inl rfl) (.string (encS su2.num))).setCell (p:=⟨bk6,2,none⟩) (.inl rfl) (.string (encS su2.den))));clear ho;refine tail_stepI (k:=0) rfl rfl ?_;go_simp
   try rw [hW12]
   clear f13a f13b f13c k13a k13b k13c hW12;simp only [wpTailI]
   gi_wp2_with fail
   refine ⟨_,⟨HX4_2.out,by rw [HSN.out];exact HX6_5.out,HB.out,Nat.le_trans HA4.out HFHBr.out.size,rfl⟩,HFHBr.out.mono (fun b h=>by rw [h];exact HO6.out),fun b h=>.inl h⟩
 case done =>
  clear hdi;rintro m Wd ⟨a1,a2,a3,a4,rfl⟩ hfr hD;have HXD:=Lib.hid hD;have HX4_2:=Lib.hid a1;have HB:=Lib.hid a3;have HX6_5:=Lib.hid (show Wd.heap[bk6]? =some (.cells #[.bool (overT n fr tp).neg,.string (encS (overT n fr tp).num),.string (encS (overT n fr tp).den)] 29 (0,0)) from a2);have c1:=fun w=>MoFits_any (rawR (overT n fr tp)) (rawR_sz ((HPZ.out _ (Nat.le_refl _)).1.mono (show _≤10000000 by decide))).1 (rawR_sz ((HPZ.out _ (Nat.le_refl _)).1.mono (show _≤10000000 by decide))).2 w
  rw [fitsR_raw HSO.out] at c1;obtain ⟨F,hF⟩:∃b,fitT (overT n fr tp)=b:=⟨_,rfl⟩;rw [hF] at c1 HOV;have HLD:Hid (bk6<W8.heap.size):=Lib.hid HO6.out.1;have HGD:Hid (n0≤W8.heap.size):=Lib.hid (by rw [HN0.out];exact HWQ.out);obtain ⟨S,hS⟩:∃s,overT n fr tp=s:=⟨_,rfl⟩;rw [hS] at c1 HOV HX6_5;have C3:Hid (∀w,Gv 69 #[rtV S] w (.bool F)):=Lib.hid c1;clear c1 hF hS a1 a2 a3 a4 hfr hD;obtain ⟨k14a,k14b,k14c⟩:=c3 HX6_5;go_wp2_with fail;clear k14a k14b k14c;refine (C3.out _).mono ?_;rintro e w13 ⟨rfl,hb⟩;have HX4_2:=uH hb HX4_2;have HX6_5:=uH hb HX6_5;have HXD:=uH hb HXD;have HB:=mH HB hb;clear hb;cases F
  case false =>
   have hV:V=(zrow,false):=HOV.out;subst hV;obtain ⟨W14,hW14,HX4_2,HB,ho,f15a,f15b,f15c,k15a,k15b,k15c⟩:=putZ HX4_2 HB HN0 HG4_2;have HX6_5:=ho _ _ (ne1 HL6_5) HX6_5;have HXD:=ho _ _ (ne2 HL6_5 HLD) HXD;clear ho;go_wp2_with fail;clear f15a f15b f15c k15a k15b k15c hW14;refine ⟨by simp,.inl ⟨_,_,rfl,run_takeDeferred HXD.out,?_⟩⟩;refine ⟨_,rCl2 rfl _ _ bk4 29 _ (0,0) _ rfl (by rw [heap_put_other (by have:=HL64.out;have:=HLD.out;omega)];exact HX4_2.out) Tryz.underlying29 rfl (by kernel_rfl),?_⟩;exact ⟨rfl,by rw [HN0.out];exact HB.out.trans (belowK_b (w:=wq) (Nat.le_refl _) _ _ _ _ HWQ.out HXD.out rfl rfl)⟩
  case true =>
   have hV:V=(rawR S,true):=HOV.out;subst hV;obtain ⟨k16a,k16b,k16c⟩:=c3 HX6_5;obtain ⟨W15,hW15,HX4_2,HB,ho,f17a,f17b,f17c,k17a,k17b,k17c⟩:=putR HX4_2 HB HN0 HG4_2 S;have HX6_5:=ho _ _ (ne1 HL6_5) HX6_5;have HXD:=ho _ _ (ne2 HL6_5 HLD) HXD;clear ho;go_wp2_with fail;clear k16a k16b k16c f17a f17b f17c k17a k17b k17c hW15;refine ⟨by simp,.inl ⟨_,_,rfl,run_takeDeferred HXD.out,?_⟩⟩;refine ⟨_,rCl2 rfl _ _ bk4 29 _ (0,0) _ rfl (by rw [heap_put_other (by have:=HL64.out;have:=HLD.out;omega)];exact HX4_2.out) Tryz.underlying29 rfl (by kernel_rfl),?_⟩;exact ⟨rfl,by rw [HN0.out];exact HB.out.trans (belowK_b (w:=wq) (Nat.le_refl _) _ _ _ _ HWQ.out HXD.out rfl rfl)⟩
theorem Over_any (v:Value) (l:List Dk) (fr tp:Int) (hz:SzD l 1100000) (wq:World) (hl:LstD wq v l):Gv 38 #[v,.agg #[.int .i64 fr,.int .i64 tp]] wq (.tuple #[.agg #[.bool (overV l fr tp).1.neg,.string (overV l fr tp).1.n,.string (overV l fr tp).1.d],.bool (overV l fr tp).2]):=by
 unfold Gv;rcases Bool.eq_false_or_eq_true (spanB fr tp) with h|h
 ·exact Over_yes v l fr tp hz h wq hl
 ·exact Over_no v l fr tp h wq
end Go.Proofs.YtblgfmjlajhipaaGreatDoor
