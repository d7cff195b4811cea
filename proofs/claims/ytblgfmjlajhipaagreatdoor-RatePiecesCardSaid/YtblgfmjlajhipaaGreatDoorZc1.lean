/- Contracts that the proofs of this seat share. Each theorem names its conditions. -/

import Derived.Test.YtblgfmjlajhipaaGreatDoorZc0
import Derived.Test.YtblgfmjlajhipaaGreatDoorZa6
import Derived.Test.YtblgfmjlajhipaaGreatDoorZb9
import Derived.Test.YtblgfmjlajhipaaGreatDoorZb5
set_option maxHeartbeats 16000000
set_option linter.unusedVariables false
namespace Go.Proofs.YtblgfmjlajhipaaGreatDoor
open Go.RowKit Go.Shelf
open Dgt
def fitV (y:Rt):Rw × Int:=if fitT y=true then (rawR y,0) else (zrow,3)
theorem falls_vals (l:List Bk):l.any (fun b=>decide (sgnR b.rt.val<0))=fallsT (valsB l):=by unfold fallsT valsB;rw [List.any_map];rfl
theorem adm_of {m:List BT} {y:Rt} (hS:Sch m) (hy:y.Ok) (hf:fitT y=true):admV (m.map rawB) (rawR y)=0:=by
 unfold admV;rw [if_pos (ck_of hS),if_pos (rawR_right hy),if_pos (by rw [fitsR_raw hy];exact hf)]
theorem Sch.szk {m:List BT} (h:Sch m) (k:Nat) (hk:50≤k):SzK (m.map rawB) k:=by
 intro b hb;obtain ⟨x,hx,rfl⟩:=List.mem_map.1 hb;have h1:=h.fit x hx;have a:=rawR_sz (fitT_sz h1.1);have b:=rawR_sz (fitT_sz h1.2);exact ⟨⟨Nat.le_trans a.1 hk,Nat.le_trans a.2 hk⟩,Nat.le_trans b.1 hk,Nat.le_trans b.2 hk⟩
theorem atV_of {m:List BT} {y:Rt} (hS:Sch m) (hy:y.Ok) (hf:fitT y=true):atV (m.map rawB) (rawR y)=fitV (valT m y m.length):=by
 rw [atV_adm,if_pos (adm_of hS hy hf),valsB_raw hS,rawR_val hy,List.length_map];rfl
theorem margV_of {m:List BT} {y:Rt} (hS:Sch m) (hy:y.Ok) (hf:fitT y=true):margV (m.map rawB) (rawR y)=(rawR (margT m y),0):=by
 unfold margV;rw [if_pos (adm_of hS hy hf),valsB_raw hS,rawR_val hy]
set_option maxRecDepth 100000 in
theorem fitting_any (y:Rt) (hy:y.Ok) (hz:Rz y 10000) (wq:World) :
  Gv 59 #[.agg #[.bool y.neg,.string (encS y.num),.string (encS y.den)]] wq (.tuple #[.agg #[.bool (fitV y).1.neg,.string (fitV y).1.n,.string (fitV y).1.d],.int .i64 (fitV y).2]):=by
 unfold Gv;have c1:=fun w=>MoFits_any (rawR y) (Nat.le_trans (rawR_sz hz).1 (by decide)) (Nat.le_trans (rawR_sz hz).2 (by decide)) w
 rw [fitsR_raw hy] at c1;have HV:=hD (show fitV y=if fitT y=true then (rawR y,0) else (zrow,3) from rfl);obtain ⟨F,hF⟩:∃b,fitT y=b:=⟨_,rfl⟩;rw [hF] at c1 HV;obtain ⟨V,hV⟩:∃v,fitV y=v:=⟨_,rfl⟩;rw [hV] at HV ⊢;have C1:Hid (∀w,Gv 69 #[rtV y] w (.bool F)):=hD c1;clear c1 hF hV hy hz;have HB:=hD (Below.refl wq.heap.size wq);obtain ⟨n0,hn0⟩:∃n,n=wq.heap.size:=⟨_,rfl⟩;rw [←hn0];have HN0:=hD hn0;clear hn0;go_enter Tryz.func59,Tryz.ntmps59;obtain ⟨W1,bk1,hW1,hbk1,HX1_1,HB,HG1_1,hup⟩:=boxR HB HN0 y;clear hup;obtain ⟨W2,bk2,hW2,hbk2,HX2_2,HB,HG2_2,hup⟩:=boxZ HB HN0;have HL2_2:=(hup _ _ HX1_1).2;have HX1_1:=(hup _ _ HX1_1).1;clear hup;obtain ⟨k3a,k3b,k3c⟩:=c3 HX1_1;go_wp2_with fail;clear hW1 hbk1 hW2 hbk2 k3a k3b k3c;refine (C1.out _).mono ?_;rintro e w3 ⟨rfl,hb⟩;have HX1_1:=uH hb HX1_1;have HX2_2:=uH hb HX2_2;have HB:=mH HB hb;clear hb;cases F
 case false =>
  have hV:V=(zrow,3):=HV.out;subst hV;obtain ⟨W4,hW4,HX2_2,HB,ho,f4a,f4b,f4c,k4a,k4b,k4c⟩:=putZ HX2_2 HB HN0 HG2_2;have HX1_1:=ho _ _ (en1 HL2_2) HX1_1;clear ho;go_wp2_with fail;clear f4a f4b f4c k4a k4b k4c hW4;refine bodyPost_ret (rC2 HX2_2.out) rfl ?_;exact ⟨rfl,by rw [HN0.out];exact HB.out⟩
 case true =>
  have hV:V=(rawR y,0):=HV.out;subst hV;obtain ⟨k5a,k5b,k5c⟩:=c3 HX1_1;obtain ⟨W5,hW5,HX2_2,HB,ho,f6a,f6b,f6c,k6a,k6b,k6c⟩:=putR HX2_2 HB HN0 HG2_2 y;have HX1_1:=ho _ _ (en1 HL2_2) HX1_1;clear ho;go_wp2_with fail;clear k5a k5b k5c f6a f6b f6c k6a k6b k6c hW5;refine bodyPost_ret (rC2 HX2_2.out) rfl ?_;exact ⟨rfl,by rw [HN0.out];exact HB.out⟩
set_option maxRecDepth 100000 in
theorem falls_any (nm:ByteArray) (um ud:Int) (v:Value) (l:List Bk) (hz:SzK l 1100000) (wq:World) (hl:LstK wq v l) :
  Gv 70 #[.agg #[.string nm,.int .i64 um,.int .i64 ud,v]] wq (.bool (fallsT (valsB l))):=by
 unfold Gv;have HC:=hD (fun w (h:Below wq.heap.size wq w)=>contains_any _ Fn.enters107 (fun b=>decide (sgnR b.rt.val<0)) l v w (hl.up h) (fun b hb w=>sinks_any b (hz b hb) w));rw [falls_vals] at HC;obtain ⟨F,hF⟩:∃b,fallsT (valsB l)=b:=⟨_,rfl⟩;rw [hF] at HC ⊢;clear hF hz;have HB:=hD (Below.refl wq.heap.size wq);obtain ⟨n0,hn0⟩:∃n,n=wq.heap.size:=⟨_,rfl⟩;rw [←hn0];have HN0:=hD hn0;clear hn0;go_enter Tryz.func70,Tryz.ntmps70;obtain ⟨W1,bk1,hW1,hbk1,HX1_1,HB,HG1_1,hup⟩:=boxn HB HN0 (.cells #[.string nm,.int .i64 um,.int .i64 ud,v] 26);clear hup;have k2:W1.cell? ⟨bk1,3,none⟩=some (v):=by rw [Lib.cell_of_heap HX1_1.out];rfl
 go_wp2_with fail;clear hW1 hbk1 k2;refine (HC.out _ HB.out).mono ?_;rintro e w2 ⟨rfl,hb⟩;have HB:=mH HB hb;clear hb;go_wp2_with fail;go_ret;exact ⟨rfl,by rw [HN0.out];exact HB.out⟩
set_option maxRecDepth 100000 in
theorem Rising_any (nm:ByteArray) (um ud:Int) (v:Value) (l:List Bk) (hz:SzK l 1100000) (wq:World) (hl:LstK wq v l) :
  Gv 23 #[.agg #[.string nm,.int .i64 um,.int .i64 ud,v]] wq (.bool (riseV l)):=by
 unfold Gv;have HL:=hD hl;have HZ:=hD hz;clear hl hz;have HV:=hD (show riseV l=(decide (ckB l=0)&& !fallsT (valsB l)) from rfl);have c1:=fun w h=>Check_any nm um ud v l HZ.out w (HL.out.up h);have c2:=fun w h=>falls_any nm um ud v l HZ.out w (HL.out.up h)
 obtain ⟨C,hC⟩:∃c,ckB l=c:=⟨_,rfl⟩;obtain ⟨F,hF⟩:∃b,fallsT (valsB l)=b:=⟨_,rfl⟩;rw [hC] at c1 HV;rw [hF] at c2 HV;obtain ⟨V,hV⟩:∃v,riseV l=v:=⟨_,rfl⟩;rw [hV] at HV ⊢;have C1:Hid (∀w,Below wq.heap.size wq w→Gv 22 #[.agg #[.string nm,.int .i64 um,.int .i64 ud,v]] w (.int .i64 C)):=hD fun w hp0=>c1 w hp0
 have C2:Hid (∀w,Below wq.heap.size wq w→Gv 70 #[.agg #[.string nm,.int .i64 um,.int .i64 ud,v]] w (.bool F)):=hD fun w hp0=>c2 w hp0
 clear c1 c2 hC hF hV;have HB:=hD (Below.refl wq.heap.size wq);obtain ⟨n0,hn0⟩:∃n,n=wq.heap.size:=⟨_,rfl⟩;rw [←hn0];have HN0:=hD hn0;clear hn0;go_enter Tryz.func23,Tryz.ntmps23;obtain ⟨W1,bk1,hW1,hbk1,HX1_1,HB,HG1_1,hup⟩:=boxn HB HN0 (.cells #[.string nm,.int .i64 um,.int .i64 ud,v] 26);clear hup;have k2:W1.cell? ⟨bk1,0,none⟩=some (.string nm):=by rw [Lib.cell_of_heap HX1_1.out];rfl
 have k3:W1.cell? ⟨bk1,1,none⟩=some (.int .i64 um):=by rw [Lib.cell_of_heap HX1_1.out];rfl
 have k4:W1.cell? ⟨bk1,2,none⟩=some (.int .i64 ud):=by rw [Lib.cell_of_heap HX1_1.out];rfl
 have k5:W1.cell? ⟨bk1,3,none⟩=some (v):=by rw [Lib.cell_of_heap HX1_1.out];rfl
 go_wp2_with fail;clear hW1 hbk1 k2 k3 k4 k5;refine (C1.out _ HB.out).mono ?_;rintro e w2 ⟨rfl,hb⟩;have HX1_1:=uH hb HX1_1;have HB:=mH HB hb;clear hb
 by_cases hc0:C=0
 ·subst hc0;have k6:w2.cell? ⟨bk1,0,none⟩=some (.string nm):=by rw [Lib.cell_of_heap HX1_1.out];rfl
  have k7:w2.cell? ⟨bk1,1,none⟩=some (.int .i64 um):=by rw [Lib.cell_of_heap HX1_1.out];rfl
  have k8:w2.cell? ⟨bk1,2,none⟩=some (.int .i64 ud):=by rw [Lib.cell_of_heap HX1_1.out];rfl
  have k9:w2.cell? ⟨bk1,3,none⟩=some (v):=by rw [Lib.cell_of_heap HX1_1.out];rfl
  go_wp2_with fail;clear k6 k7 k8 k9;refine (C2.out _ HB.out).mono ?_;rintro e w3 ⟨rfl,hb⟩;have HX1_1:=uH hb HX1_1;have HB:=mH HB hb;clear hb;cases F
  case false =>
   have hV:V=true:=HV.out;subst hV;go_wp2_with fail;go_ret;exact ⟨rfl,by rw [HN0.out];exact HB.out⟩
  case true =>
   have hV:V=false:=HV.out;subst hV;go_wp2_with fail;go_ret;exact ⟨rfl,by rw [HN0.out];exact HB.out⟩
 ·have hV:V=false:=by rw [HV.out,decide_eq_false hc0,Bool.false_and]
  subst hV;have hne:(C==0)=false:=by simpa using hc0
  clear HV hc0;go_wp2_with fail;go_ret;exact ⟨rfl,by rw [HN0.out];exact HB.out⟩
set_option maxRecDepth 100000 in
theorem At_no (nm:ByteArray) (um ud:Int) (v:Value) (l:List Bk) (x:Rw) (hz:SzK l 1100000) (hx:x.n.size≤1100000∧x.d.size≤1100000) (h0:admV l x≠0) (wq:World) (hl:LstK wq v l) :
  Gv 21 #[.agg #[.string nm,.int .i64 um,.int .i64 ud,v],.agg #[.bool x.neg,.string x.n,.string x.d]] wq (.tuple #[.agg #[.bool false,.string ⟨#[]⟩,.string ⟨#[]⟩],.int .i64 (admV l x)]):=by
 unfold Gv;have HL:=hD hl;have HZ:=hD hz;clear hl hz;have c1:=fun w h=>admit_any nm um ud v l x HZ.out hx w (HL.out.up h)
 obtain ⟨C,hC⟩:∃c,admV l x=c:=⟨_,rfl⟩;rw [hC] at c1 h0 ⊢;clear hC hx;have hne:(C != 0)=true:=by simpa using h0
 have C1:Hid (∀w,Below wq.heap.size wq w→Gv 56 #[.agg #[.string nm,.int .i64 um,.int .i64 ud,v],.agg #[.bool x.neg,.string x.n,.string x.d]] w (.int .i64 C)):=hD fun w hp0=>c1 w hp0
 clear c1 h0;have HB:=hD (Below.refl wq.heap.size wq);obtain ⟨n0,hn0⟩:∃n,n=wq.heap.size:=⟨_,rfl⟩;rw [←hn0];have HN0:=hD hn0;clear hn0;go_enter Tryz.func21,Tryz.ntmps21;obtain ⟨W1,bk2,hW1,hbk2,HX2_1,HB,HG2_1,hup⟩:=boxn HB HN0 (.cells #[.string nm,.int .i64 um,.int .i64 ud,v] 26);clear hup;obtain ⟨W2,bk3,hW2,hbk3,HX3_2,HB,HG3_2,hup⟩:=boxn HB HN0 (.cells #[.bool x.neg,.string x.n,.string x.d] 29);have HL3_2:=(hup _ _ HX2_1).2;have HX2_1:=(hup _ _ HX2_1).1;clear hup;obtain ⟨W3,bk4,hW3,hbk4,HX4_3,HB,HG4_3,hup⟩:=boxZ HB HN0;have HL4_3:=(hup _ _ HX3_2).2;have HX2_1:=(hup _ _ HX2_1).1;have HX3_2:=(hup _ _ HX3_2).1;clear hup;have k4:W3.cell? ⟨bk2,0,none⟩=some (.string nm):=by rw [Lib.cell_of_heap HX2_1.out];rfl
 have k5:W3.cell? ⟨bk2,1,none⟩=some (.int .i64 um):=by rw [Lib.cell_of_heap HX2_1.out];rfl
 have k6:W3.cell? ⟨bk2,2,none⟩=some (.int .i64 ud):=by rw [Lib.cell_of_heap HX2_1.out];rfl
 have k7:W3.cell? ⟨bk2,3,none⟩=some (v):=by rw [Lib.cell_of_heap HX2_1.out];rfl
 obtain ⟨k8a,k8b,k8c⟩:=c3 HX3_2;go_wp2_with fail;clear hW1 hbk2 hW2 hbk3 hW3 hbk4 k4 k5 k6 k7 k8a k8b k8c;refine (C1.out _ HB.out).mono ?_;rintro e w4 ⟨rfl,hb⟩;have HX2_1:=uH hb HX2_1;have HX3_2:=uH hb HX3_2;have HX4_3:=uH hb HX4_3;have HB:=mH HB hb;clear hb;obtain ⟨W5,hW5,HX4_3,HB,ho,f9a,f9b,f9c,k9a,k9b,k9c⟩:=putZ HX4_3 HB HN0 HG4_3;have HX2_1:=ho _ _ (en2 HL3_2 HL4_3) HX2_1;have HX3_2:=ho _ _ (en1 HL4_3) HX3_2;clear ho;go_wp2_with fail;clear f9a f9b f9c k9a k9b k9c hW5;refine bodyPost_ret (rC2 HX4_3.out) rfl ?_;exact ⟨rfl,by rw [HN0.out];exact HB.out⟩
set_option maxRecDepth 100000 in
theorem Marginal_no (nm:ByteArray) (um ud:Int) (v:Value) (l:List Bk) (x:Rw) (hz:SzK l 1100000) (hx:x.n.size≤1100000∧x.d.size≤1100000) (h0:admV l x≠0) (wq:World) (hl:LstK wq v l) :
  Gv 25 #[.agg #[.string nm,.int .i64 um,.int .i64 ud,v],.agg #[.bool x.neg,.string x.n,.string x.d]] wq (.tuple #[.agg #[.bool false,.string ⟨#[]⟩,.string ⟨#[]⟩],.int .i64 (admV l x)]):=by
 unfold Gv;have HL:=hD hl;have HZ:=hD hz;clear hl hz;have c1:=fun w h=>admit_any nm um ud v l x HZ.out hx w (HL.out.up h)
 obtain ⟨C,hC⟩:∃c,admV l x=c:=⟨_,rfl⟩;rw [hC] at c1 h0 ⊢;clear hC hx;have hne:(C != 0)=true:=by simpa using h0
 have C1:Hid (∀w,Below wq.heap.size wq w→Gv 56 #[.agg #[.string nm,.int .i64 um,.int .i64 ud,v],.agg #[.bool x.neg,.string x.n,.string x.d]] w (.int .i64 C)):=hD fun w hp0=>c1 w hp0
 clear c1 h0;have HB:=hD (Below.refl wq.heap.size wq);obtain ⟨n0,hn0⟩:∃n,n=wq.heap.size:=⟨_,rfl⟩;rw [←hn0];have HN0:=hD hn0;clear hn0;go_enter Tryz.func25,Tryz.ntmps25;obtain ⟨W1,bk2,hW1,hbk2,HX2_1,HB,HG2_1,hup⟩:=boxn HB HN0 (.cells #[.string nm,.int .i64 um,.int .i64 ud,v] 26);clear hup;obtain ⟨W2,bk3,hW2,hbk3,HX3_2,HB,HG3_2,hup⟩:=boxn HB HN0 (.cells #[.bool x.neg,.string x.n,.string x.d] 29);have HL3_2:=(hup _ _ HX2_1).2;have HX2_1:=(hup _ _ HX2_1).1;clear hup;obtain ⟨W3,bk4,hW3,hbk4,HX4_3,HB,HG4_3,hup⟩:=boxZ HB HN0;have HL4_3:=(hup _ _ HX3_2).2;have HX2_1:=(hup _ _ HX2_1).1;have HX3_2:=(hup _ _ HX3_2).1;clear hup;have k4:W3.cell? ⟨bk2,0,none⟩=some (.string nm):=by rw [Lib.cell_of_heap HX2_1.out];rfl
 have k5:W3.cell? ⟨bk2,1,none⟩=some (.int .i64 um):=by rw [Lib.cell_of_heap HX2_1.out];rfl
 have k6:W3.cell? ⟨bk2,2,none⟩=some (.int .i64 ud):=by rw [Lib.cell_of_heap HX2_1.out];rfl
 have k7:W3.cell? ⟨bk2,3,none⟩=some (v):=by rw [Lib.cell_of_heap HX2_1.out];rfl
 obtain ⟨k8a,k8b,k8c⟩:=c3 HX3_2;go_wp2_with fail;clear hW1 hbk2 hW2 hbk3 hW3 hbk4 k4 k5 k6 k7 k8a k8b k8c;refine (C1.out _ HB.out).mono ?_;rintro e w4 ⟨rfl,hb⟩;have HX2_1:=uH hb HX2_1;have HX3_2:=uH hb HX3_2;have HX4_3:=uH hb HX4_3;have HB:=mH HB hb;clear hb;obtain ⟨W5,hW5,HX4_3,HB,ho,f9a,f9b,f9c,k9a,k9b,k9c⟩:=putZ HX4_3 HB HN0 HG4_3;have HX2_1:=ho _ _ (en2 HL3_2 HL4_3) HX2_1;have HX3_2:=ho _ _ (en1 HL4_3) HX3_2;clear ho;go_wp2_with fail;clear f9a f9b f9c k9a k9b k9c hW5;refine bodyPost_ret (rC2 HX4_3.out) rfl ?_;exact ⟨rfl,by rw [HN0.out];exact HB.out⟩
def EAt_ok_8_1 (nm:ByteArray) (um:Int) (ud:Int) (ca:Nat) (m:List BT) (gl:Nat) (off:Nat) (j:Nat) (y:Rt) (fr:Rt) (rt:Rt) (df:Rt) (pr:Rt) (bs:Rt) (z:Rt) (r:Rw) (c:Int) (bk8:Nat):Nat→Value
 | 0=>.agg #[.string nm,.int .i64 um,.int .i64 ud,.slice (some ⟨gl,off,none⟩) m.length ca]
 | 2=>.int .i64 (j:Int)
 | 4=>.agg #[.bool bs.neg,.string (encS bs.num),.string (encS bs.den)]
 | 5=>.pointer (some ⟨bk8,3,none⟩)
 | 6=>.agg #[.bool rt.neg,.string (encS rt.num),.string (encS rt.den)]
 | 7=>.agg #[.bool y.neg,.string (encS y.num),.string (encS y.den)]
 | 8=>.pointer (some ⟨bk8,0,none⟩)
 | 9=>.agg #[.bool fr.neg,.string (encS fr.num),.string (encS fr.den)]
 | 10=>.agg #[.bool df.neg,.string (encS df.num),.string (encS df.den)]
 | 11=>.agg #[.bool pr.neg,.string (encS pr.num),.string (encS pr.den)]
 | 12=>.agg #[.bool z.neg,.string (encS z.num),.string (encS z.den)]
 | 13=>.tuple #[.agg #[.bool r.neg,.string r.n,.string r.d],.int .i64 c]
 | 14=>.agg #[.bool r.neg,.string r.n,.string r.d]
 | 15=>.int .i64 c
 | _=>undef
def SAt_ok_8_1 (nm:ByteArray) (um:Int) (ud:Int) (ca:Nat) (m:List BT) (gl:Nat) (off:Nat) (j:Nat) (y:Rt) (fr:Rt) (rt:Rt) (df:Rt) (pr:Rt) (bs:Rt) (z:Rt) (r:Rw) (c:Int) (bk8:Nat) (ix:Nat) (v:Value) (w:World):Prop :=
 match ix with
 | 1=>LstR w v (begs m m.length)
 | 3=>∃g o,v=.pointer (some ⟨g,o,none⟩)∧∀W,Below w.heap.size w W→W.cell? ⟨g,o,none⟩=some (.bool bs.neg)∧W.cell? ⟨g,o+1,none⟩=some (.string (encS bs.num))∧W.cell? ⟨g,o+2,none⟩=some (.string (encS bs.den))
 | ix=>v=EAt_ok_8_1 nm um ud ca m gl off j y fr rt df pr bs z r c bk8 ix
theorem SAt_ok_8_1_up (nm:ByteArray) (um:Int) (ud:Int) (ca:Nat) (m:List BT) (gl:Nat) (off:Nat) (j:Nat) (y:Rt) (fr:Rt) (rt:Rt) (df:Rt) (pr:Rt) (bs:Rt) (z:Rt) (r:Rw) (c:Int) (bk8:Nat) (ix:Nat) (v:Value) (w w' :World) (hb:Below w.heap.size w w') (h:SAt_ok_8_1 nm um ud ca m gl off j y fr rt df pr bs z r c bk8 ix v w):SAt_ok_8_1 nm um ud ca m gl off j y fr rt df pr bs z r c bk8 ix v w' :=by
 unfold SAt_ok_8_1 at h ⊢
 split at h
 ·exact h.up hb
 ·exact by obtain ⟨g,o,e1,e2⟩:=h;exact ⟨g,o,e1,fun W hW=>e2 W (hb.trans (hW.mono hb.size))⟩
 ·exact h
set_option maxRecDepth 100000 in
theorem At_ok (nm:ByteArray) (um ud:Int) (v:Value) (m:List BT) (y:Rt) (hS:Sch m) (hy:y.Ok) (hf:fitT y=true) (wq:World) (hl:LstK wq v (m.map rawB)) :
  Gv 21 #[.agg #[.string nm,.int .i64 um,.int .i64 ud,v],.agg #[.bool y.neg,.string (encS y.num),.string (encS y.den)]] wq (.tuple #[.agg #[.bool (fitV (valT m y m.length)).1.neg,.string (fitV (valT m y m.length)).1.n,.string (fitV (valT m y m.length)).1.d],.int .i64 (fitV (valT m y m.length)).2]):=by
 unfold Gv;have HLK:=hD hl;obtain ⟨gl,off,ca,hv,hca2,hla,hca⟩:=hl.openS hS.pos;have HAT:=hD hca;have HLA:=hD hla;have HSC:=hD hS;have HY:=hD (And.intro hy hf);have HYZ:=hD (fitT_sz hf);have HXS:=hD (rawR_sz ((fitT_sz hf).mono (show 50≤1100000 by decide)));have c1:=fun w h=>admit_any nm um ud v (m.map rawB) (rawR y) (hS.szk 1100000 (by decide)) HXS.out w (HLK.out.up h)
 rw [adm_of hS hy hf] at c1;have c2:=fun w h=>bracket_any nm um ud v (m.map rawB) (rawR y) (hS.szk 1100000 (by decide)) (ck_of hS) HXS.out w (HLK.out.up h)
 rw [valsB_raw hS,rawR_val hy] at c2;have c3:=fun w h=>sums_any nm um ud v m hS w (HLK.out.up h)
 have c4:=fun w=>RatOf_any 0 w (by decide) (by decide)
 rw [←at_eq hS hy];have HCN:=hD (show atT m y=if cntT m y=0 then ofR 0 else addR (begT m (cntT m y-1)) (mulR (rtT m (cntT m y-1)) (subR y (frT m (cntT m y-1)))) from rfl);have HCL:Hid (cntT m y≤m.length∧m.length≤8):=hD ⟨cnt_leT,hS.le⟩;have HOK:=hD (at_ok hS hy);obtain ⟨r,h7⟩:∃a,(fitV (atT m y)).1=a:=⟨_,rfl⟩;obtain ⟨c,h8⟩:∃a,(fitV (atT m y)).2=a:=⟨_,rfl⟩;rw [h7,h8];have HRC:=hD (And.intro h7 h8);clear h7 h8;subst hv;clear hca hla hl hca2 hS hy hf;obtain ⟨cn,hcn⟩:∃c,cntT m y=c:=⟨_,rfl⟩;rw [hcn] at c2 HCN HCL;clear hcn;have C1:Hid (∀w,Below wq.heap.size wq w→Gv 56 #[.agg #[.string nm,.int .i64 um,.int .i64 ud,.slice (some ⟨gl,off,none⟩) m.length ca],rtV y] w (.int .i64 0)):=hD fun w hp0=>c1 w hp0
 have C2:Hid (∀w,Below wq.heap.size wq w→Gv 57 #[.agg #[.string nm,.int .i64 um,.int .i64 ud,.slice (some ⟨gl,off,none⟩) m.length ca],rtV y] w (.int .i64 (cn:Int))):=hD fun w hp0=>c2 w hp0
 have CS:=hD c3;clear c1 c2 c3;have HB:=hD (Below.refl wq.heap.size wq);obtain ⟨n0,hn0⟩:∃n,n=wq.heap.size:=⟨_,rfl⟩;rw [←hn0];have HN0:=hD hn0;clear hn0;go_enter Tryz.func21,Tryz.ntmps21;obtain ⟨W1,bk2,hW1,hbk2,HX2_1,HB,HG2_1,hup⟩:=boxn HB HN0 (.cells #[.string nm,.int .i64 um,.int .i64 ud,.slice (some ⟨gl,off,none⟩) m.length ca] 26);clear hup;obtain ⟨W2,bk3,hW2,hbk3,HX3_2,HB,HG3_2,hup⟩:=boxR HB HN0 y;have HL3_2:=(hup _ _ HX2_1).2;have HX2_1:=(hup _ _ HX2_1).1;clear hup;obtain ⟨W3,bk4,hW3,hbk4,HX4_3,HB,HG4_3,hup⟩:=boxZ HB HN0;have HL4_3:=(hup _ _ HX3_2).2;have HX2_1:=(hup _ _ HX2_1).1;have HX3_2:=(hup _ _ HX3_2).1;clear hup;have k4:W3.cell? ⟨bk2,0,none⟩=some (.string nm):=by rw [Lib.cell_of_heap HX2_1.out];rfl
 have k5:W3.cell? ⟨bk2,1,none⟩=some (.int .i64 um):=by rw [Lib.cell_of_heap HX2_1.out];rfl
 have k6:W3.cell? ⟨bk2,2,none⟩=some (.int .i64 ud):=by rw [Lib.cell_of_heap HX2_1.out];rfl
 have k7:W3.cell? ⟨bk2,3,none⟩=some (.slice (some ⟨gl,off,none⟩) m.length ca):=by rw [Lib.cell_of_heap HX2_1.out];rfl
 obtain ⟨k8a,k8b,k8c⟩:=c3 HX3_2;go_wp2_with fail;clear hW1 hbk2 hW2 hbk3 hW3 hbk4 k4 k5 k6 k7 k8a k8b k8c;refine (C1.out _ HB.out).mono ?_;rintro e w4 ⟨rfl,hb⟩;have HX2_1:=uH hb HX2_1;have HX3_2:=uH hb HX3_2;have HX4_3:=uH hb HX4_3;have HB:=mH HB hb;clear hb;have k9:w4.cell? ⟨bk2,0,none⟩=some (.string nm):=by rw [Lib.cell_of_heap HX2_1.out];rfl
 have k10:w4.cell? ⟨bk2,1,none⟩=some (.int .i64 um):=by rw [Lib.cell_of_heap HX2_1.out];rfl
 have k11:w4.cell? ⟨bk2,2,none⟩=some (.int .i64 ud):=by rw [Lib.cell_of_heap HX2_1.out];rfl
 have k12:w4.cell? ⟨bk2,3,none⟩=some (.slice (some ⟨gl,off,none⟩) m.length ca):=by rw [Lib.cell_of_heap HX2_1.out];rfl
 obtain ⟨k13a,k13b,k13c⟩:=c3 HX3_2;go_wp2_with fail;clear k9 k10 k11 k12 k13a k13b k13c;refine (C2.out _ HB.out).mono ?_;rintro e w5 ⟨rfl,hb⟩;have HX2_1:=uH hb HX2_1;have HX3_2:=uH hb HX3_2;have HX4_3:=uH hb HX4_3;have HB:=mH HB hb;clear hb
 by_cases hc0:cn=0
 ·subst hc0;have hA:atT m y=ofR 0:=by rw [HCN.out,if_pos rfl]
  have hfv:fitV (ofR 0)=(rawR (ofR 0),0):=by unfold fitV;rw [if_pos (by rw [of_zero];exact fit_zero)]
  obtain ⟨h7,h8⟩:=HRC.out;rw [hA,hfv] at h7 h8;clear HRC hA hfv HCN HOK;obtain ⟨z,hz⟩:∃z,ofR 0=z:=⟨_,rfl⟩;rw [hz] at c4 h7;subst h7;subst h8;have C3:Hid (∀w,Gv 58 #[.int .i64 0] w (.agg #[.bool z.neg,.string (encS z.num),.string (encS z.den)])):=hD c4;clear c4 hz;go_wp2_with fail;refine (C3.out _).mono ?_;rintro e w6 ⟨rfl,hb⟩;have HX2_1:=uH hb HX2_1;have HX3_2:=uH hb HX3_2;have HX4_3:=uH hb HX4_3;have HB:=mH HB hb;clear hb;obtain ⟨W7,hW7,HX4_3,HB,ho,f14a,f14b,f14c,k14a,k14b,k14c⟩:=putR HX4_3 HB HN0 HG4_3 z;have HX2_1:=ho _ _ (en2 HL3_2 HL4_3) HX2_1;have HX3_2:=ho _ _ (en1 HL4_3) HX3_2;clear ho;go_wp2_with fail;clear f14a f14b f14c k14a k14b k14c hW7;refine bodyPost_ret (rC2 HX4_3.out) rfl ?_;exact ⟨rfl,by rw [HN0.out];exact HB.out⟩
 ·obtain ⟨j,hj⟩:=Nat.exists_eq_succ_of_ne_zero hc0;have HJ:Hid (IntKind.i64.wrap ((cn:Int)-1)=(j:Int)∧(j:Int)<(m.length:Int)∧¬(j:Int)<0∧j<m.length):=hD ⟨by rw [IntWalk.i64_in _ (by have:=HCL.out;omega)];omega,by have:=HCL.out;omega,by omega,by have:=HCL.out;omega⟩;have hA:atT m y=addR (begT m j) (mulR (rtT m j) (subR y (frT m j))):=by rw [HCN.out,if_neg hc0,show cn-1=j by omega]
  have HE:=hD (HAT.out j HJ.out.2.2.2);have hs:=HSC.out;have hy:=HY.out.1;have hyz:=HYZ.out;have d1:=fun w=>RatSub_r (IsR.of hy hyz) (IsR.of (hs.frOk j) (hs.frSz j)) (by decide) (by decide) w
  have d2:=fun w=>RatMul_r (IsR.of (hs.rtOk j) ((hs.rtSz j).mono (show 50≤101 by decide))) (IsR.of (subR_ok hy (hs.frOk j)) (subR_sz hyz (hs.frSz j))) (by decide) (by decide) w
  have hj8:j≤8:=by have:=HCL.out;omega
  have hmo:=mulR_ok (hs.rtOk j) (subR_ok hy (hs.frOk j));have hmz:=mulR_sz (hs.rtSz j) (subR_sz hyz (hs.frSz j));have hbz:=(beg_sz hs j).mono (show 8+152*j≤5000 by omega);have d3:=fun w=>RatAdd_r (IsR.of (beg_ok hs j) hbz) (IsR.of hmo (hmz.mono (show _≤5000 by decide))) (by decide) (by decide) w
  have d4:=fun w=>fitting_any (atT m y) HOK.out (by rw [hA];exact (addR_sz hbz hmz).mono (by decide)) w
  have h7:=HRC.out.1;have h8:=HRC.out.2;rw [hA] at d4 h7 h8;obtain ⟨fr,h1⟩:∃a,frT m j=a:=⟨_,rfl⟩;obtain ⟨rt,h2⟩:∃a,rtT m j=a:=⟨_,rfl⟩;rw [h1] at d1;rw [h1,h2] at d2 d3 d4 HE h7 h8;obtain ⟨df,h3⟩:∃a,subR y fr=a:=⟨_,rfl⟩;rw [h3] at d1 d2 d3 d4 h7 h8;obtain ⟨pr,h4⟩:∃a,mulR rt df=a:=⟨_,rfl⟩;rw [h4] at d2 d3 d4 h7 h8;obtain ⟨bs,h5⟩:∃a,begT m j=a:=⟨_,rfl⟩;rw [h5] at d3 d4 h7 h8;have HBS:=hD h5;obtain ⟨z,h6⟩:∃a,addR bs pr=a:=⟨_,rfl⟩;rw [h6] at d3 d4 h7 h8;rw [h7,h8] at d4;have C3:Hid (∀w,Gv 63 #[rtV y,rtV fr] w (.agg #[.bool df.neg,.string (encS df.num),.string (encS df.den)])):=hD d1;have C4:Hid (∀w,Gv 62 #[rtV rt,rtV df] w (.agg #[.bool pr.neg,.string (encS pr.num),.string (encS pr.den)])):=hD d2;have C5:Hid (∀w,Gv 60 #[rtV bs,rtV pr] w (.agg #[.bool z.neg,.string (encS z.num),.string (encS z.den)])):=hD d3
  have C6:Hid (∀w,Gv 59 #[rtV z] w (.tuple #[.agg #[.bool r.neg,.string r.n,.string r.d],.int .i64 c])):=hD d4;clear d1 d2 d3 d4 hs hy hyz hj8 hmo hmz hbz h1 h2 h3 h4 h5 h6 h7 h8 hA hc0 hj c4 HRC;have hj1:=HJ.out.1;have hj3:=HJ.out.2.2.1;have hj2:=HJ.out.2.1;have k15:w5.cell? ⟨bk2,3,none⟩=some (.slice (some ⟨gl,off,none⟩) m.length ca):=by rw [Lib.cell_of_heap HX2_1.out];rfl
  obtain ⟨k16e0,k16e1,k16e2,k16e3,k16e4,k16e5⟩:=HE.out _ HB.out;obtain ⟨W8,bk8,hW8,hbk8,HX8_17,HB,HG8_17,hup⟩:=boxn HB HN0 (.cells #[.bool false,.string ⟨#[]⟩,.string ⟨#[]⟩,.bool false,.string ⟨#[]⟩,.string ⟨#[]⟩] 42);have HL8_17:=(hup _ _ HX4_3).2;have HX2_1:=(hup _ _ HX2_1).1;have HX3_2:=(hup _ _ HX3_2).1;have HX4_3:=(hup _ _ HX4_3).1;clear hup;have f18:W8.frozen? ⟨bk8,0,none⟩=false:=frz0 HX8_17.out 0;have f19:W8.frozen? ⟨bk8,1,none⟩=false:=frz0 HX8_17.out 1;have f20:W8.frozen? ⟨bk8,2,none⟩=false:=frz0 HX8_17.out 2;have f21:W8.frozen? ⟨bk8,3,none⟩=false:=frz0 HX8_17.out 3;have f22:W8.frozen? ⟨bk8,4,none⟩=false:=frz0 HX8_17.out 4;have f23:W8.frozen? ⟨bk8,5,none⟩=false:=frz0 HX8_17.out 5;have k24:W8.cell? ⟨bk8,0,none⟩=some (.bool false):=by rw [Lib.cell_of_heap HX8_17.out];rfl
  have k25:W8.cell? ⟨bk8,1,none⟩=some (.string ⟨#[]⟩):=by rw [Lib.cell_of_heap HX8_17.out];rfl
  have k26:W8.cell? ⟨bk8,2,none⟩=some (.string ⟨#[]⟩):=by rw [Lib.cell_of_heap HX8_17.out];rfl
  have k27:W8.cell? ⟨bk8,3,none⟩=some (.bool false):=by rw [Lib.cell_of_heap HX8_17.out];rfl
  have k28:W8.cell? ⟨bk8,4,none⟩=some (.string ⟨#[]⟩):=by rw [Lib.cell_of_heap HX8_17.out];rfl
  have k29:W8.cell? ⟨bk8,5,none⟩=some (.string ⟨#[]⟩):=by rw [Lib.cell_of_heap HX8_17.out];rfl
  have hB:=((((((HB.out.setCell (p:=⟨bk8,0,none⟩) (by rw [←HN0.out];exact HG8_17.out) (.bool fr.neg)).setCell (p:=⟨bk8,1,none⟩) (by rw [←HN0.out];exact HG8_17.out) (.string (encS fr.num))).setCell (p:=⟨bk8,2,none⟩) (by rw [←HN0.out];exact HG8_17.out) (.string (encS fr.den))).setCell (p:=⟨bk8,3,none⟩) (by rw [←HN0.out];exact HG8_17.out) (.bool rt.neg)).setCell (p:=⟨bk8,4,none⟩) (by rw [←HN0.out];exact HG8_17.out) (.string (encS rt.num))).setCell (p:=⟨bk8,5,none⟩) (by rw [←HN0.out];exact HG8_17.out) (.string (encS rt.den)))
  have hN:((((((W8.setCell ⟨bk8,0,none⟩ (.bool fr.neg)).setCell ⟨bk8,1,none⟩ (.string (encS fr.num))).setCell ⟨bk8,2,none⟩ (.string (encS fr.den))).setCell ⟨bk8,3,none⟩ (.bool rt.neg)).setCell ⟨bk8,4,none⟩ (.string (encS rt.num))).setCell ⟨bk8,5,none⟩ (.string (encS rt.den))).heap[bk8]? =some (.cells #[.bool fr.neg,.string (encS fr.num),.string (encS fr.den),.bool rt.neg,.string (encS rt.num),.string (encS rt.den)] 42 (0,0)):=by simp [World.setCell,Array.getElem?_modify,HX8_17.out]
  have hx2_1:((((((W8.setCell ⟨bk8,0,none⟩ (.bool fr.neg)).setCell ⟨bk8,1,none⟩ (.string (encS fr.num))).setCell ⟨bk8,2,none⟩ (.string (encS fr.den))).setCell ⟨bk8,3,none⟩ (.bool rt.neg)).setCell ⟨bk8,4,none⟩ (.string (encS rt.num))).setCell ⟨bk8,5,none⟩ (.string (encS rt.den))).heap[bk2]? =_:=(row_else (row_else (row_else (row_else (row_else (row_else HX2_1.out (en3 HL3_2 HL4_3 HL8_17) _) (en3 HL3_2 HL4_3 HL8_17) _) (en3 HL3_2 HL4_3 HL8_17) _) (en3 HL3_2 HL4_3 HL8_17) _) (en3 HL3_2 HL4_3 HL8_17) _) (en3 HL3_2 HL4_3 HL8_17) _);have HX2_1:=hD hx2_1;clear hx2_1
  have hx3_2:((((((W8.setCell ⟨bk8,0,none⟩ (.bool fr.neg)).setCell ⟨bk8,1,none⟩ (.string (encS fr.num))).setCell ⟨bk8,2,none⟩ (.string (encS fr.den))).setCell ⟨bk8,3,none⟩ (.bool rt.neg)).setCell ⟨bk8,4,none⟩ (.string (encS rt.num))).setCell ⟨bk8,5,none⟩ (.string (encS rt.den))).heap[bk3]? =_:=(row_else (row_else (row_else (row_else (row_else (row_else HX3_2.out (en2 HL4_3 HL8_17) _) (en2 HL4_3 HL8_17) _) (en2 HL4_3 HL8_17) _) (en2 HL4_3 HL8_17) _) (en2 HL4_3 HL8_17) _) (en2 HL4_3 HL8_17) _);have HX3_2:=hD hx3_2;clear hx3_2
  have hx4_3:((((((W8.setCell ⟨bk8,0,none⟩ (.bool fr.neg)).setCell ⟨bk8,1,none⟩ (.string (encS fr.num))).setCell ⟨bk8,2,none⟩ (.string (encS fr.den))).setCell ⟨bk8,3,none⟩ (.bool rt.neg)).setCell ⟨bk8,4,none⟩ (.string (encS rt.num))).setCell ⟨bk8,5,none⟩ (.string (encS rt.den))).heap[bk4]? =_:=(row_else (row_else (row_else (row_else (row_else (row_else HX4_3.out (en1 HL8_17) _) (en1 HL8_17) _) (en1 HL8_17) _) (en1 HL8_17) _) (en1 HL8_17) _) (en1 HL8_17) _);have HX4_3:=hD hx4_3;clear hx4_3;obtain ⟨W9,hW9⟩:∃W,((((((W8.setCell ⟨bk8,0,none⟩ (.bool fr.neg)).setCell ⟨bk8,1,none⟩ (.string (encS fr.num))).setCell ⟨bk8,2,none⟩ (.string (encS fr.den))).setCell ⟨bk8,3,none⟩ (.bool rt.neg)).setCell ⟨bk8,4,none⟩ (.string (encS rt.num))).setCell ⟨bk8,5,none⟩ (.string (encS rt.den)))=W:=⟨_,rfl⟩;rw [hW9] at hN hB HX2_1 HX3_2 HX4_3;have HX8_17:=hD hN;have HB:=hD hB;clear hN hB;go_wp2_with fail
  clear hj1 hj3 hj2 k15 k16e0 k16e1 k16e2 k16e3 k16e4 k16e5 hW8 hbk8 f18 f19 f20 f21 f22 f23 k24 k25 k26 k27 k28 k29 hW9;refine wpTl (w:=W9) (by kernel_rfl) (SAt_ok_8_1 nm um ud ca m gl off j y fr rt df pr bs z r c bk8) 16 (fun t=>(decide (28≤t)&&decide (t<44))) (by decide) (by kernel_rfl) (by kernel_rfl) (by kernel_rfl) (by kernel_rfl) (by kernel_rfl) (SAt_ok_8_1_up nm um ud ca m gl off j y fr rt df pr bs z r c bk8) ?_ ?_
  ·intro i hi ov_ listed av_ w hR K hK;have ho:=hR.at_;have hi:i<16:=hi;have hii:i=0∨i=1∨i=2∨i=3∨i=4∨i=5∨i=6∨i=7∨i=8∨i=9∨i=10∨i=11∨i=12∨i=13∨i=14∨i=15:=by omega
   rcases hii with rfl|rfl|rfl|rfl|rfl|rfl|rfl|rfl|rfl|rfl|rfl|rfl|rfl|rfl|rfl|rfl<;>(simp at ho;subst ho)
   ·have b2:av_.tmps.getD 2 undef=.pointer (some ⟨bk2,0,none⟩):=hR.b 2;have cx0:w.cell? ⟨bk2,0,none⟩=some (.string nm):=by rw [Lib.cell_of_heap (hpU hR.below HX2_1.out)];rfl
    have cx1:w.cell? ⟨bk2,1,none⟩=some (.int .i64 um):=by rw [Lib.cell_of_heap (hpU hR.below HX2_1.out)];rfl
    have cx2:w.cell? ⟨bk2,2,none⟩=some (.int .i64 ud):=by rw [Lib.cell_of_heap (hpU hR.below HX2_1.out)];rfl
    have cx3:w.cell? ⟨bk2,3,none⟩=some (.slice (some ⟨gl,off,none⟩) m.length ca):=by rw [Lib.cell_of_heap (hpU hR.below HX2_1.out)];rfl
    refine pSq ?_;go_simp;exact hK _ _ rfl rB
   ·have e0:av_.tmps.getD 28 undef=.agg #[.string nm,.int .i64 um,.int .i64 ud,.slice (some ⟨gl,off,none⟩) m.length ca]:=hR.t 0;refine pSq ?_;go_simp;refine (CS.out w (HB.out.trans (hR.below.mono HB.out.size))).mono ?_;rintro e w' ⟨v',rfl,hlr,hb⟩;exact hK _ _ (hlr) hb
   ·have b7:av_.tmps.getD 7 undef=.int .i64 (j:Int):=hR.b 7;refine pSq ?_;go_simp;exact hK _ _ rfl rB
   ·have e1:=hR.t 1;have e2:av_.tmps.getD 30 undef=.int .i64 (j:Int):=hR.t 2;obtain ⟨g3,o3,c3_,e1p,hat3⟩:=begs_at (show LstR w (av_.tmps.getD 29 undef) (begs m m.length) from e1) HJ.out.2.2.2;rw [HBS.out] at hat3;have hj2:=HJ.out.2.1;refine pSq ?_;go_simp;exact hK _ _ (⟨g3,_,rfl,hat3⟩) rB
   ·have e3:=hR.t 3;obtain ⟨g3,o3,e3p,hat3⟩:∃g o,av_.tmps.getD 31 undef=.pointer (some ⟨g,o,none⟩)∧∀W,Below w.heap.size w W→W.cell? ⟨g,o,none⟩=some (.bool bs.neg)∧W.cell? ⟨g,o+1,none⟩=some (.string (encS bs.num))∧W.cell? ⟨g,o+2,none⟩=some (.string (encS bs.den)):=e3;obtain ⟨cx0,cx1,cx2⟩:=hat3 w rB;refine pSq ?_;go_simp;exact hK _ _ rfl rB
   ·have b8:av_.tmps.getD 8 undef=.pointer (some ⟨bk8,0,none⟩):=hR.b 8;refine pSq ?_;go_simp;exact hK _ _ rfl rB
   ·have e5:av_.tmps.getD 33 undef=.pointer (some ⟨bk8,3,none⟩):=hR.t 5;have cx0:w.cell? ⟨bk8,3,none⟩=some (.bool rt.neg):=by rw [Lib.cell_of_heap (hpU hR.below HX8_17.out)];rfl
    have cx1:w.cell? ⟨bk8,4,none⟩=some (.string (encS rt.num)):=by rw [Lib.cell_of_heap (hpU hR.below HX8_17.out)];rfl
    have cx2:w.cell? ⟨bk8,5,none⟩=some (.string (encS rt.den)):=by rw [Lib.cell_of_heap (hpU hR.below HX8_17.out)];rfl
    refine pSq ?_;go_simp;exact hK _ _ rfl rB
   ·have b3:av_.tmps.getD 3 undef=.pointer (some ⟨bk3,0,none⟩):=hR.b 3;obtain ⟨cx0,cx1,cx2⟩:=c3 (uH hR.below HX3_2);refine pSq ?_;go_simp;exact hK _ _ rfl rB
   ·have b8:av_.tmps.getD 8 undef=.pointer (some ⟨bk8,0,none⟩):=hR.b 8;refine pSq ?_;go_simp;exact hK _ _ rfl rB
   ·have e8:av_.tmps.getD 36 undef=.pointer (some ⟨bk8,0,none⟩):=hR.t 8;have cx0:w.cell? ⟨bk8,0,none⟩=some (.bool fr.neg):=by rw [Lib.cell_of_heap (hpU hR.below HX8_17.out)];rfl
    have cx1:w.cell? ⟨bk8,1,none⟩=some (.string (encS fr.num)):=by rw [Lib.cell_of_heap (hpU hR.below HX8_17.out)];rfl
    have cx2:w.cell? ⟨bk8,2,none⟩=some (.string (encS fr.den)):=by rw [Lib.cell_of_heap (hpU hR.below HX8_17.out)];rfl
    refine pSq ?_;go_simp;exact hK _ _ rfl rB
   ·have e7:av_.tmps.getD 35 undef=.agg #[.bool y.neg,.string (encS y.num),.string (encS y.den)]:=hR.t 7;have e9:av_.tmps.getD 37 undef=.agg #[.bool fr.neg,.string (encS fr.num),.string (encS fr.den)]:=hR.t 9;refine pSq ?_;go_simp;refine (C3.out w).mono ?_;rintro e w' ⟨rfl,hb⟩;exact hK _ _ (rfl) hb
   ·have e6:av_.tmps.getD 34 undef=.agg #[.bool rt.neg,.string (encS rt.num),.string (encS rt.den)]:=hR.t 6;have e10:av_.tmps.getD 38 undef=.agg #[.bool df.neg,.string (encS df.num),.string (encS df.den)]:=hR.t 10;refine pSq ?_;go_simp;refine (C4.out w).mono ?_;rintro e w' ⟨rfl,hb⟩;exact hK _ _ (rfl) hb
   ·have e4:av_.tmps.getD 32 undef=.agg #[.bool bs.neg,.string (encS bs.num),.string (encS bs.den)]:=hR.t 4;have e11:av_.tmps.getD 39 undef=.agg #[.bool pr.neg,.string (encS pr.num),.string (encS pr.den)]:=hR.t 11;refine pSq ?_;go_simp;refine (C5.out w).mono ?_;rintro e w' ⟨rfl,hb⟩;exact hK _ _ (rfl) hb
   ·have e12:av_.tmps.getD 40 undef=.agg #[.bool z.neg,.string (encS z.num),.string (encS z.den)]:=hR.t 12;refine pSq ?_;go_simp;refine (C6.out w).mono ?_;rintro e w' ⟨rfl,hb⟩;exact hK _ _ (rfl) hb
   ·have e13:av_.tmps.getD 41 undef=.tuple #[.agg #[.bool r.neg,.string r.n,.string r.d],.int .i64 c]:=hR.t 13;refine pSq ?_;go_simp;exact hK _ _ rfl rB
   ·have e13:av_.tmps.getD 41 undef=.tuple #[.agg #[.bool r.neg,.string r.n,.string r.d],.int .i64 c]:=hR.t 13;refine pSq ?_;go_simp;exact hK _ _ rfl rB
  ·intro sv_ w hS hb;have e14:sv_ 42=.agg #[.bool r.neg,.string r.n,.string r.d]:=hS 14 (by decide);have e15:sv_ 43=.int .i64 c:=hS 15 (by decide);simp only [over,ovL,Nat.reduceAdd,Nat.reduceLeDiff,Nat.reduceLT];have HX2_1:=uH hb HX2_1;have HX3_2:=uH hb HX3_2;have HX4_3:=uH hb HX4_3;have HX8_17:=uH hb HX8_17;have HB:=mH HB hb;obtain ⟨w10,hw⟩:∃w8,w8=w:=⟨_,rfl⟩;subst hw;rw [e14,e15];clear hS hb e14 e15;obtain ⟨W11,hW11,HX4_3,HB,ho,f30a,f30b,f30c,k30a,k30b,k30c⟩:=put3 HX4_3 HB HN0 HG4_3 (.bool r.neg) (.string r.n) (.string r.d);have HX2_1:=ho _ _ (en2 HL3_2 HL4_3) HX2_1;have HX3_2:=ho _ _ (en1 HL4_3) HX3_2;have HX8_17:=ho _ _ (ne1 HL8_17) HX8_17;clear ho;refine tail_step (n:=1) rfl rfl ?_;go_simp
   try rw [hW11]
   clear f30a f30b f30c k30a k30b k30c hW11;refine tail_step (n:=0) rfl rfl ?_;go_simp;simp only [wpTail];go_wp2_with fail;refine bodyPost_ret (rC2 HX4_3.out) rfl ?_;exact ⟨rfl,by rw [HN0.out];exact HB.out⟩
end Go.Proofs.YtblgfmjlajhipaaGreatDoor
