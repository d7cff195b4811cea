/- Contracts that the proofs of this seat share. Each theorem names its conditions. -/

import Derived.Test.YtblgfmjlajhipaaGreatDoorZc3
import Derived.Test.YtblgfmjlajhipaaGreatDoorZb5
set_option maxHeartbeats 16000000
set_option linter.unusedVariables false
namespace Go.Proofs.YtblgfmjlajhipaaGreatDoor
open Go.RowKit Go.Shelf
open Dgt
set_option maxRecDepth 100000 in
theorem spanRight_any (fr tp:Int)  (wq:World) :
  Gv 79 #[.agg #[.int .i64 fr,.int .i64 tp]] wq (.bool (spanB fr tp)):=by
 unfold Gv;have HV:=hD (show spanB fr tp=(decide (0≤fr)&&decide (fr<tp)&&decide (tp≤3652059)) from rfl);obtain ⟨V,hV⟩:∃v,spanB fr tp=v:=⟨_,rfl⟩;rw [hV] at HV ⊢;clear hV;obtain ⟨t1,ht1⟩:∃xq,decide (0≤fr)=xq:=⟨_,rfl⟩;have Ht1:=hD ht1;clear ht1;obtain ⟨t2,ht2⟩:∃xq,decide (fr<tp)=xq:=⟨_,rfl⟩;have Ht2:=hD ht2;clear ht2;obtain ⟨t3,ht3⟩:∃xq,decide (tp≤3652059)=xq:=⟨_,rfl⟩;have Ht3:=hD ht3;clear ht3;rw [Ht1.out,Ht2.out,Ht3.out] at HV;have HB:=hD (Below.refl wq.heap.size wq);obtain ⟨n0,hn0⟩:∃n,n=wq.heap.size:=⟨_,rfl⟩;rw [←hn0];have HN0:=hD hn0;clear hn0;go_enter Tryz.func79,Tryz.ntmps79;obtain ⟨W1,bk1,hW1,hbk1,HX1_1,HB,HG1_1,hup⟩:=boxn HB HN0 (.cells #[.int .i64 fr,.int .i64 tp] 68);clear hup;cases t1
 case false =>
  cases t2
  case false =>
   cases t3
   case false =>
    have hV:V=false:=HV.out;subst hV;clear HV;have q2:=Ht1.out;have q3:=Ht2.out;have q4:=Ht3.out;have k5:W1.cell? ⟨bk1,0,none⟩=some (.int .i64 fr):=by rw [Lib.cell_of_heap HX1_1.out];rfl
    have k6:W1.cell? ⟨bk1,1,none⟩=some (.int .i64 tp):=by rw [Lib.cell_of_heap HX1_1.out];rfl
    go_wp2_with fail;clear hW1 hbk1 q2 q3 q4 k5 k6;go_ret;exact ⟨rfl,by rw [HN0.out];exact HB.out⟩
   case true =>
    have hV:V=false:=HV.out;subst hV;clear HV;have q7:=Ht1.out;have q8:=Ht2.out;have q9:=Ht3.out;have k10:W1.cell? ⟨bk1,0,none⟩=some (.int .i64 fr):=by rw [Lib.cell_of_heap HX1_1.out];rfl
    have k11:W1.cell? ⟨bk1,1,none⟩=some (.int .i64 tp):=by rw [Lib.cell_of_heap HX1_1.out];rfl
    go_wp2_with fail;clear hW1 hbk1 q7 q8 q9 k10 k11;go_ret;exact ⟨rfl,by rw [HN0.out];exact HB.out⟩
  case true =>
   cases t3
   case false =>
    have hV:V=false:=HV.out;subst hV;clear HV;have q12:=Ht1.out;have q13:=Ht2.out;have q14:=Ht3.out;have k15:W1.cell? ⟨bk1,0,none⟩=some (.int .i64 fr):=by rw [Lib.cell_of_heap HX1_1.out];rfl
    have k16:W1.cell? ⟨bk1,1,none⟩=some (.int .i64 tp):=by rw [Lib.cell_of_heap HX1_1.out];rfl
    go_wp2_with fail;clear hW1 hbk1 q12 q13 q14 k15 k16;go_ret;exact ⟨rfl,by rw [HN0.out];exact HB.out⟩
   case true =>
    have hV:V=false:=HV.out;subst hV;clear HV;have q17:=Ht1.out;have q18:=Ht2.out;have q19:=Ht3.out;have k20:W1.cell? ⟨bk1,0,none⟩=some (.int .i64 fr):=by rw [Lib.cell_of_heap HX1_1.out];rfl
    have k21:W1.cell? ⟨bk1,1,none⟩=some (.int .i64 tp):=by rw [Lib.cell_of_heap HX1_1.out];rfl
    go_wp2_with fail;clear hW1 hbk1 q17 q18 q19 k20 k21;go_ret;exact ⟨rfl,by rw [HN0.out];exact HB.out⟩
 case true =>
  cases t2
  case false =>
   cases t3
   case false =>
    have hV:V=false:=HV.out;subst hV;clear HV;have q22:=Ht1.out;have q23:=Ht2.out;have q24:=Ht3.out;have k25:W1.cell? ⟨bk1,0,none⟩=some (.int .i64 fr):=by rw [Lib.cell_of_heap HX1_1.out];rfl
    have k26:W1.cell? ⟨bk1,1,none⟩=some (.int .i64 tp):=by rw [Lib.cell_of_heap HX1_1.out];rfl
    go_wp2_with fail;clear hW1 hbk1 q22 q23 q24 k25 k26;go_ret;exact ⟨rfl,by rw [HN0.out];exact HB.out⟩
   case true =>
    have hV:V=false:=HV.out;subst hV;clear HV;have q27:=Ht1.out;have q28:=Ht2.out;have q29:=Ht3.out;have k30:W1.cell? ⟨bk1,0,none⟩=some (.int .i64 fr):=by rw [Lib.cell_of_heap HX1_1.out];rfl
    have k31:W1.cell? ⟨bk1,1,none⟩=some (.int .i64 tp):=by rw [Lib.cell_of_heap HX1_1.out];rfl
    go_wp2_with fail;clear hW1 hbk1 q27 q28 q29 k30 k31;go_ret;exact ⟨rfl,by rw [HN0.out];exact HB.out⟩
  case true =>
   cases t3
   case false =>
    have hV:V=false:=HV.out;subst hV;clear HV;have q32:=Ht1.out;have q33:=Ht2.out;have q34:=Ht3.out;have k35:W1.cell? ⟨bk1,0,none⟩=some (.int .i64 fr):=by rw [Lib.cell_of_heap HX1_1.out];rfl
    have k36:W1.cell? ⟨bk1,1,none⟩=some (.int .i64 tp):=by rw [Lib.cell_of_heap HX1_1.out];rfl
    go_wp2_with fail;clear hW1 hbk1 q32 q33 q34 k35 k36;go_ret;exact ⟨rfl,by rw [HN0.out];exact HB.out⟩
   case true =>
    have hV:V=true:=HV.out;subst hV;clear HV;have q37:=Ht1.out;have q38:=Ht2.out;have q39:=Ht3.out;have k40:W1.cell? ⟨bk1,0,none⟩=some (.int .i64 fr):=by rw [Lib.cell_of_heap HX1_1.out];rfl
    have k41:W1.cell? ⟨bk1,1,none⟩=some (.int .i64 tp):=by rw [Lib.cell_of_heap HX1_1.out];rfl
    go_wp2_with fail;clear hW1 hbk1 q37 q38 q39 k40 k41;go_ret;exact ⟨rfl,by rw [HN0.out];exact HB.out⟩
set_option maxRecDepth 100000 in
theorem right_any (d:Dk) (hz:d.rt.n.size≤1100000∧d.rt.d.size≤1100000) (wq:World) :
  Gv 74 #[.agg #[.int .i64 d.day,.bool d.rt.neg,.string d.rt.n,.string d.rt.d]] wq (.bool (goodD d)):=by
 unfold Gv;have HV:=hD (show goodD d=(decide (0≤d.day)&&decide (d.day≤3652058)&&fitsR d.rt) from rfl);have c1:=fun w=>MoFits_any d.rt (by omega) (by omega) w
 obtain ⟨V,hV⟩:∃v,goodD d=v:=⟨_,rfl⟩;rw [hV] at HV ⊢;clear hV;obtain ⟨t1,ht1⟩:∃xq,decide (0≤d.day)=xq:=⟨_,rfl⟩;have Ht1:=hD ht1;clear ht1;obtain ⟨t2,ht2⟩:∃xq,decide (d.day≤3652058)=xq:=⟨_,rfl⟩;have Ht2:=hD ht2;clear ht2;obtain ⟨Q,hQ⟩:∃xq,fitsR d.rt=xq:=⟨_,rfl⟩;have HQ:=hD hQ;clear hQ;rw [Ht1.out,Ht2.out,HQ.out] at HV;rw [HQ.out] at c1;have C1:Hid (∀w,Gv 69 #[.agg #[.bool d.rt.neg,.string d.rt.n,.string d.rt.d]] w (.bool Q)):=hD c1;clear c1 hz;have HB:=hD (Below.refl wq.heap.size wq);obtain ⟨n0,hn0⟩:∃n,n=wq.heap.size:=⟨_,rfl⟩;rw [←hn0];have HN0:=hD hn0;clear hn0;go_enter Tryz.func74,Tryz.ntmps74;obtain ⟨W1,bk1,hW1,hbk1,HX1_1,HB,HG1_1,hup⟩:=boxn HB HN0 (.cells #[.int .i64 d.day,.bool d.rt.neg,.string d.rt.n,.string d.rt.d] 64);clear hup;cases t1
 case false =>
  have hV:V=false:=HV.out;subst hV;clear HV;have q2:=Ht1.out;have q3:=Ht2.out;have k4:W1.cell? ⟨bk1,0,none⟩=some (.int .i64 d.day):=by rw [Lib.cell_of_heap HX1_1.out];rfl
  go_wp2_with fail;clear hW1 hbk1 q2 q3 k4;go_ret;exact ⟨rfl,by rw [HN0.out];exact HB.out⟩
 case true =>
  cases t2
  case false =>
   have hV:V=false:=HV.out;subst hV;clear HV;have q5:=Ht1.out;have q6:=Ht2.out;have k7:W1.cell? ⟨bk1,0,none⟩=some (.int .i64 d.day):=by rw [Lib.cell_of_heap HX1_1.out];rfl
   go_wp2_with fail;clear hW1 hbk1 q5 q6 k7;go_ret;exact ⟨rfl,by rw [HN0.out];exact HB.out⟩
  case true =>
   have q8:=Ht1.out;have q9:=Ht2.out;have k10:W1.cell? ⟨bk1,0,none⟩=some (.int .i64 d.day):=by rw [Lib.cell_of_heap HX1_1.out];rfl
   have k11:W1.cell? ⟨bk1,1,none⟩=some (.bool d.rt.neg):=by rw [Lib.cell_of_heap HX1_1.out];rfl
   have k12:W1.cell? ⟨bk1,2,none⟩=some (.string d.rt.n):=by rw [Lib.cell_of_heap HX1_1.out];rfl
   have k13:W1.cell? ⟨bk1,3,none⟩=some (.string d.rt.d):=by rw [Lib.cell_of_heap HX1_1.out];rfl
   go_wp2_with fail;clear hW1 hbk1 q8 q9 k10 k11 k12 k13;refine (C1.out _).mono ?_;rintro e w2 ⟨rfl,hb⟩;have HX1_1:=uH hb HX1_1;have HB:=mH HB hb;clear hb;cases Q
   case false =>
    have hV:V=false:=HV.out;subst hV;clear HV;go_wp2_with fail;go_ret;exact ⟨rfl,by rw [HN0.out];exact HB.out⟩
   case true =>
    have hV:V=true:=HV.out;subst hV;clear HV;go_wp2_with fail;go_ret;exact ⟨rfl,by rw [HN0.out];exact HB.out⟩
theorem drs_take {l:List Dk} {k:Nat} (h:k<l.length):drs (l.take (k+1))=if goodD l[k]=true then drs (l.take k)++[(l[k].day,l[k].rt.val)] else drs (l.take k):=by
 unfold drs;rw [List.take_succ_eq_append_getElem h,List.filter_append,List.map_append]
 by_cases hg:goodD l[k]=true
 ·rw [if_pos hg,List.filter_cons_of_pos hg];rfl
 ·rw [if_neg hg,List.filter_cons_of_neg hg];simp
theorem good_right {d:Dk} (h:goodD d=true):d.rt=rawR d.rt.val∧fitT d.rt.val=true:=by
 unfold goodD at h;simp only [Bool.and_eq_true,decide_eq_true_eq] at h;exact ⟨(val_raw (fits_right h.2)).symm,fits_val h.2⟩
def AtE (A:World) (g o:Nat) (d:Int) (u:Rt):Prop:=∀W,Below A.heap.size A W→W.cell? ⟨g,o,none⟩=some (.int .i64 d)∧W.cell? ⟨g,o+1,none⟩=some (.bool u.neg)∧W.cell? ⟨g,o+2,none⟩=some (.string (encS u.num))∧W.cell? ⟨g,o+3,none⟩=some (.string (encS u.den))
end Go.Proofs.YtblgfmjlajhipaaGreatDoor
