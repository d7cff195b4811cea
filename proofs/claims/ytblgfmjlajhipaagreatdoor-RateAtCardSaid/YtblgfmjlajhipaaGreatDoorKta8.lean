/- RateAt: contracts and the law's walk. Each theorem names its conditions. -/
import Derived.WalkKit
import Derived.Deep.LoopGhost
import Derived.Deep.QuietTactic
import Derived.BigQuiet
import Derived.Test.YtblgfmjlajhipaaGreatDoorProg
import Derived.WalkSpells
import Derived.WalkLawsBesides
import Derived.IntWalk
import Derived.Lib.Hide
import Derived.Laws.BitsAllLaws
import Derived.StillTailTactics
import Derived.Deep.OwnRows
import Derived.Lib.ConvBytes
import Derived.Below
import Derived.Shelf.Strings.Trim
import Derived.Shelf.Small.Utf8
import Derived.Shelf.Small.Bits
import Derived.Shelf.Small.Strs
import Derived.Shelf.Strconv.Itoa0
import Derived.Shelf.Strings.Search1
import Derived.Shelf.Strings.Runes
import Derived.Shelf.Strings.AsciiSet
import Derived.Shelf.Unicode.DecodeSlow
import Derived.Shelf.Unicode.DecodeAny
import Derived.Ground.SlgmProg
import Derived.Shelf.SortM.Plain
import Derived.Shelf.SortM.SortNone
import Derived.Test.YtblgfmjlajhipaaGreatDoorKta7
import Derived.Test.YtblgfmjlajhipaaGreatDoorZb5
import Derived.Test.YtblgfmjlajhipaaGreatDoorZa7
import Derived.Test.YtblgfmjlajhipaaGreatDoorZa6
import Derived.Test.YtblgfmjlajhipaaGreatDoorZa5
import Derived.Test.YtblgfmjlajhipaaGreatDoorZa4
import Derived.Test.YtblgfmjlajhipaaGreatDoorZa3
import Derived.Test.YtblgfmjlajhipaaGreatDoorZa0
import Derived.Test.YtblgfmjlajhipaaGreatDoorZa1
import Derived.Test.YtblgfmjlajhipaaGreatDoorKta0
import Derived.Test.YtblgfmjlajhipaaGreatDoorZa2
import Derived.Test.YtblgfmjlajhipaaGreatDoorKta2
import Derived.Test.YtblgfmjlajhipaaGreatDoorZc4
set_option maxHeartbeats 16000000
set_option linter.unusedVariables false
namespace Go.Proofs.YtblgfmjlajhipaaGreatDoor
open Go.RowKit Go.Shelf
open Dgt
set_option maxRecDepth 100000 in
theorem rInverse_any (nm:ByteArray) (um ud:Int) (v:Value) (l:List Bk) (x:Rw) (hz:SzK l 1100000) (hx:x.n.size≤1100000∧x.d.size≤1100000) (wq:World) (hl:LstK wq v l) :
  Gv 44 #[.agg #[.string nm,.int .i64 um,.int .i64 ud,v],.agg #[.bool x.neg,.string x.n,.string x.d]] wq (.tuple #[.agg #[.bool (invV l x).1.neg,.string (invV l x).1.n,.string (invV l x).1.d],.int .i64 (invV l x).2]):=by
 unfold Gv;have HL:=hD hl;have HZ:=hD hz;clear hl hz;have HV:=hD (invV_of (l:=l) (x:=x));have c1:=fun w h=>rCheck_any nm um ud v l HZ.out w (HL.out.up h);have c2:=fun w h=>below_any nm um ud v l HZ.out w (HL.out.up h)
 have c3:=fun w=>rRatRight_any x.neg x.n x.d w (by omega) (by omega);have c4:=fun w=>rFits_any x (by omega) (by omega) w;have c5:=fun w=>rRatSign_r (isR_raw hx) (by decide) w
 have HCK:=hD (ck_right (l:=l));have HFX:=hD (fun h:fitsR x=true=>fitT_sz (fits_val h));have HRX:=hD (val_raw (r:=x));have HFR:=hD (fits_right (r:=x));obtain ⟨C,hC⟩:∃c,ckB l=c:=⟨_,rfl⟩;obtain ⟨F,hF⟩:∃b,fallsT (valsB l)=b:=⟨_,rfl⟩;obtain ⟨P,hP⟩:∃b,x.right=b:=⟨_,rfl⟩;obtain ⟨Q,hQ⟩:∃b,fitsR x=b:=⟨_,rfl⟩;obtain ⟨sg,hs⟩:∃b,sgnR x.val=b:=⟨_,rfl⟩;rw [hC] at c1 HV HCK;rw [hF] at c2 HV;rw [show rightR x.neg x.n x.d=P from hP] at c3;rw [hP] at HV HRX HFR;rw [hQ] at c4 HV HFX HFR;rw [hs] at c5 HV;have HSG:=hD hs;have HFF:=hD hF;have HFQ:=hD hQ;obtain ⟨V,hV⟩:∃v,invV l x=v:=⟨_,rfl⟩;rw [hV] at HV ⊢;have C1:Hid (∀w,Below wq.heap.size wq w→Gv 45 #[.agg #[.string nm,.int .i64 um,.int .i64 ud,v]] w (.int .i64 C)):=hD fun w hp0=>c1 w hp0
 have C2:Hid (∀w,Below wq.heap.size wq w→Gv 86 #[.agg #[.string nm,.int .i64 um,.int .i64 ud,v]] w (.bool F)):=hD fun w hp0=>c2 w hp0
 have C3:Hid (∀w,Gv 85 #[.agg #[.bool x.neg,.string x.n,.string x.d]] w (.bool P)):=hD c3;have C4:Hid (∀w,Gv 82 #[.agg #[.bool x.neg,.string x.n,.string x.d]] w (.bool Q)):=hD c4;have C5:Hid (∀w,Gv 26 #[.agg #[.bool x.neg,.string x.n,.string x.d]] w (.int .i64 sg)):=hD c5;clear c1 c2 c3 c4 c5 hC hF hP hQ hs hV hx;have HB:=hD (Below.refl wq.heap.size wq);obtain ⟨n0,hn0⟩:∃n,n=wq.heap.size:=⟨_,rfl⟩;rw [←hn0];have HN0:=hD hn0;clear hn0;go_enter Tryz.func44,Tryz.ntmps44;obtain ⟨W1,bk2,hW1,hbk2,HX2_1,HB,HG2_1,hup⟩:=boxn HB HN0 (.cells #[.string nm,.int .i64 um,.int .i64 ud,v] 26);clear hup;obtain ⟨W2,bk3,hW2,hbk3,HX3_2,HB,HG3_2,hup⟩:=boxn HB HN0 (.cells #[.bool x.neg,.string x.n,.string x.d] 29);have HL3_2:=(hup _ _ HX2_1).2;have HX2_1:=(hup _ _ HX2_1).1;clear hup;obtain ⟨W3,bk4,hW3,hbk4,HX4_3,HB,HG4_3,hup⟩:=boxZ HB HN0;have HL4_3:=(hup _ _ HX3_2).2;have HX2_1:=(hup _ _ HX2_1).1
 have HX3_2:=(hup _ _ HX3_2).1;clear hup;have k4:W3.cell? ⟨bk2,0,none⟩=some (.string nm):=by rw [Lib.cell_of_heap HX2_1.out];rfl
 have k5:W3.cell? ⟨bk2,1,none⟩=some (.int .i64 um):=by rw [Lib.cell_of_heap HX2_1.out];rfl
 have k6:W3.cell? ⟨bk2,2,none⟩=some (.int .i64 ud):=by rw [Lib.cell_of_heap HX2_1.out];rfl
 have k7:W3.cell? ⟨bk2,3,none⟩=some (v):=by rw [Lib.cell_of_heap HX2_1.out];rfl
 go_wp2_with fail;clear hW1 hbk2 hW2 hbk3 hW3 hbk4 k4 k5 k6 k7;refine (C1.out _ HB.out).mono ?_;rintro e w4 ⟨rfl,hb⟩;have HX2_1:=uH hb HX2_1;have HX3_2:=uH hb HX3_2;have HX4_3:=uH hb HX4_3;have HB:=mH HB hb;clear hb
 by_cases hc0:C=0
 ·subst hc0;obtain ⟨k8a,k8b,k8c⟩:=c3 HX3_2;go_wp2_with fail;clear k8a k8b k8c;refine (C3.out _).mono ?_;rintro e w5 ⟨rfl,hb⟩;have HX2_1:=uH hb HX2_1;have HX3_2:=uH hb HX3_2;have HX4_3:=uH hb HX4_3;have HB:=mH HB hb;clear hb;have k9:w5.cell? ⟨bk2,0,none⟩=some (.string nm):=by rw [Lib.cell_of_heap HX2_1.out];rfl
  have k10:w5.cell? ⟨bk2,1,none⟩=some (.int .i64 um):=by rw [Lib.cell_of_heap HX2_1.out];rfl
  have k11:w5.cell? ⟨bk2,2,none⟩=some (.int .i64 ud):=by rw [Lib.cell_of_heap HX2_1.out];rfl
  have k12:w5.cell? ⟨bk2,3,none⟩=some (v):=by rw [Lib.cell_of_heap HX2_1.out];rfl
  go_wp2_with fail;clear k9 k10 k11 k12;refine (C2.out _ HB.out).mono ?_;rintro e w6 ⟨rfl,hb⟩;have HX2_1:=uH hb HX2_1;have HX3_2:=uH hb HX3_2;have HX4_3:=uH hb HX4_3;have HB:=mH HB hb;clear hb;cases F
  case false =>
   cases P
   case false =>
    have hV:V=(zrow,1):=HV.out;subst hV;obtain ⟨W7,hW7,HX4_3,HB,ho,f13a,f13b,f13c,k13a,k13b,k13c⟩:=putZ HX4_3 HB HN0 HG4_3;have HX2_1:=ho _ _ (en2 HL3_2 HL4_3) HX2_1;have HX3_2:=ho _ _ (en1 HL4_3) HX3_2;clear ho;go_wp2_with fail;clear f13a f13b f13c k13a k13b k13c hW7;refine bodyPost_ret (rC2 HX4_3.out) rfl ?_;exact ⟨rfl,by rw [HN0.out];exact HB.out⟩
   case true =>
    obtain ⟨k14a,k14b,k14c⟩:=c3 HX3_2;go_wp2_with fail;clear k14a k14b k14c;refine (C4.out _).mono ?_;rintro e w8 ⟨rfl,hb⟩;have HX2_1:=uH hb HX2_1;have HX3_2:=uH hb HX3_2;have HX4_3:=uH hb HX4_3;have HB:=mH HB hb;clear hb;cases Q
    case false =>
     have hV:V=(zrow,3):=HV.out;subst hV;obtain ⟨W9,hW9,HX4_3,HB,ho,f15a,f15b,f15c,k15a,k15b,k15c⟩:=putZ HX4_3 HB HN0 HG4_3;have HX2_1:=ho _ _ (en2 HL3_2 HL4_3) HX2_1;have HX3_2:=ho _ _ (en1 HL4_3) HX3_2;clear ho;go_wp2_with fail;clear f15a f15b f15c k15a k15b k15c hW9;refine bodyPost_ret (rC2 HX4_3.out) rfl ?_;exact ⟨rfl,by rw [HN0.out];exact HB.out⟩
    case true =>
     obtain ⟨k16a,k16b,k16c⟩:=c3 HX3_2;go_wp2_with fail;clear k16a k16b k16c;refine (C5.out _).mono ?_;rintro e w10 ⟨rfl,hb⟩;have HX2_1:=uH hb HX2_1;have HX3_2:=uH hb HX3_2;have HX4_3:=uH hb HX4_3;have HB:=mH HB hb;clear hb;obtain ⟨tn,htn⟩:∃xq,decide (sg<0)=xq:=⟨_,rfl⟩;have Htn:=hD htn;clear htn;cases tn
     case false =>
      have q17:=Htn.out;have hnn:¬sg<0:=by have:=Htn.out;simpa using this
      obtain ⟨hS,hm⟩:=HCK.out (by trivial);obtain ⟨m,hmm⟩:∃m,valsB l=m:=⟨_,rfl⟩;rw [hmm] at hS hm HV HFF;have hV:V=if sg=0 then (x,0) else if (rtT m (kT m x.val-1)).num=0 then (zrow,15) else fitV (invT m x.val):=by rw [HV.out];simp [hnn]
      obtain ⟨y,hy⟩:∃y,x.val=y:=⟨_,rfl⟩;rw [hy] at hV HSG HFX HRX;have hyo:y.Ok:=by rw [←hy];exact x.val_ok
      have hfy:fitT y=true:=by rw [←hy];exact fits_val (HFQ.out)
      have hyz:=fitT_sz hfy;have hxr:rawR y=x:=HRX.out (by trivial);have hl:=HL.out;rw [hm] at hl;have c6:=fun w (h:Below wq.heap.size wq w)=>least_any nm um ud v m y hS HFF.out hyo hyz (by rw [HSG.out];exact hnn) w (hl.up h)
      have HLV:=hD (show leastV m y=if sgnR y=0 then (rawR y,true) else if (rtT m (kT m y-1)).num=0 then (zrow,false) else (rawR (invT m y),true) from rfl);rw [HSG.out] at HLV;have HVV:Hid (((leastV m y).2=false∧V=(zrow,15))∨((leastV m y).2=true∧∃z:Rt,z.Ok∧Rz z 10000∧leastV m y=(rawR z,true)∧V=fitV z)):=hD (by
       rw [HLV.out,hV]
       by_cases h0:sg=0
       ·rw [if_pos h0,if_pos h0];exact .inr ⟨rfl,y,hyo,hyz.mono (by decide),rfl,by rw [←hxr];unfold fitV;rw [if_pos hfy]⟩
       ·rw [if_neg h0,if_neg h0]
        by_cases hn:(rtT m (kT m y-1)).num=0
        ·rw [if_pos hn,if_pos hn];exact .inl ⟨rfl,rfl⟩
        ·rw [if_neg hn,if_neg hn];have hK:=kth hS HFF.out hyo (sgn_posq hyo (by rw [HSG.out];exact hnn) (by rw [HSG.out];exact h0));have hj8:kT m y-1≤8:=by have:=hK.lt;have:=hS.le;omega
         exact .inr ⟨rfl,invT m y,inv_ok hS hyo hn,(addR_sz (hS.frSz _) (quoR_sz (subR_sz hyz ((beg_sz hS (kT m y-1)).mono (show 8+152*(kT m y-1)≤2000 by omega))) (hS.rtSz _))).mono (by decide),rfl,rfl⟩)
      obtain ⟨LV,hLV⟩:∃p,leastV m y=p:=⟨_,rfl⟩;rw [hLV] at HVV;simp only [hLV] at c6;have HXR:=hD hxr;clear hV hS hm hyo hyz hfy hl hnn hy HCK HFX HRX HFR HSG Htn hmm HLV hLV HV hxr;have CL:Hid (∀w,Below wq.heap.size wq w→Gv 87 #[.agg #[.string nm,.int .i64 um,.int .i64 ud,v],.agg #[.bool x.neg,.string x.n,.string x.d]] w (.tuple #[.agg #[.bool LV.1.neg,.string LV.1.n,.string LV.1.d],.bool LV.2])):=hD fun w h=>by
       rw [←HXR.out];exact c6 w h
      clear c6 HXR;rcases HVV.out with ⟨h2,hV⟩|⟨h2,z,hzo,hzz,hLV,hV⟩
      ·subst hV;obtain ⟨l1,l2⟩:=LV;simp only at h2;subst h2;clear HVV;have k18:w10.cell? ⟨bk2,0,none⟩=some (.string nm):=by rw [Lib.cell_of_heap HX2_1.out];rfl
       have k19:w10.cell? ⟨bk2,1,none⟩=some (.int .i64 um):=by rw [Lib.cell_of_heap HX2_1.out];rfl
       have k20:w10.cell? ⟨bk2,2,none⟩=some (.int .i64 ud):=by rw [Lib.cell_of_heap HX2_1.out];rfl
       have k21:w10.cell? ⟨bk2,3,none⟩=some (v):=by rw [Lib.cell_of_heap HX2_1.out];rfl
       obtain ⟨k22a,k22b,k22c⟩:=c3 HX3_2;go_wp2_with fail;clear q17 k18 k19 k20 k21 k22a k22b k22c;refine (CL.out _ HB.out).mono ?_;rintro e w11 ⟨rfl,hb⟩;have HX2_1:=uH hb HX2_1;have HX3_2:=uH hb HX3_2;have HX4_3:=uH hb HX4_3;have HB:=mH HB hb;clear hb;obtain ⟨W12,bk9,hW12,hbk9,HX9_23,HB,HG9_23,hup⟩:=boxZ HB HN0;have HL9_23:=(hup _ _ HX4_3).2;have HX2_1:=(hup _ _ HX2_1).1;have HX3_2:=(hup _ _ HX3_2).1;have HX4_3:=(hup _ _ HX4_3).1;clear hup;obtain ⟨W13,hW13,HX9_23,HB,ho,f24a,f24b,f24c,k24a,k24b,k24c⟩:=put3 HX9_23 HB HN0 HG9_23 (.bool l1.neg) (.string l1.n) (.string l1.d);have HX2_1:=ho _ _ (en3 HL3_2 HL4_3 HL9_23) HX2_1;have HX3_2:=ho _ _ (en2 HL4_3 HL9_23) HX3_2;have HX4_3:=ho _ _ (en1 HL9_23) HX4_3;clear ho;obtain ⟨W14,hW14,HX4_3,HB,ho,f25a,f25b,f25c,k25a,k25b,k25c⟩:=putZ HX4_3 HB HN0 HG4_3;have HX2_1:=ho _ _ (en2 HL3_2 HL4_3) HX2_1;have HX3_2:=ho _ _ (en1 HL4_3) HX3_2
       have HX9_23:=ho _ _ (ne1 HL9_23) HX9_23;clear ho;go_wp2_with fail;clear hW12 hbk9 f24a f24b f24c k24a k24b k24c hW13 f25a f25b f25c k25a k25b k25c hW14;refine bodyPost_ret (rC2 HX4_3.out) rfl ?_;exact ⟨rfl,by rw [HN0.out];exact HB.out⟩
      ·subst hLV;clear HVV h2;have c7:=fun w=>rFits_any (rawR z) (Nat.le_trans (rawR_sz hzz).1 (by decide)) (Nat.le_trans (rawR_sz hzz).2 (by decide)) w
       rw [fitsR_raw hzo] at c7;have HW:=hD (show fitV z=if fitT z=true then (rawR z,0) else (zrow,3) from rfl);rw [←hV] at HW;obtain ⟨G,hG⟩:∃b,fitT z=b:=⟨_,rfl⟩;rw [hG] at c7 HW;have C6:Hid (∀w,Gv 82 #[rtV z] w (.bool G)):=hD c7;clear c7 hG hV hzo hzz;have CL2:Hid (∀w,Below wq.heap.size wq w→Gv 87 #[.agg #[.string nm,.int .i64 um,.int .i64 ud,v],.agg #[.bool x.neg,.string x.n,.string x.d]] w (.tuple #[.agg #[.bool z.neg,.string (encS z.num),.string (encS z.den)],.bool true])):=CL;have k26:w10.cell? ⟨bk2,0,none⟩=some (.string nm):=by rw [Lib.cell_of_heap HX2_1.out];rfl
       have k27:w10.cell? ⟨bk2,1,none⟩=some (.int .i64 um):=by rw [Lib.cell_of_heap HX2_1.out];rfl
       have k28:w10.cell? ⟨bk2,2,none⟩=some (.int .i64 ud):=by rw [Lib.cell_of_heap HX2_1.out];rfl
       have k29:w10.cell? ⟨bk2,3,none⟩=some (v):=by rw [Lib.cell_of_heap HX2_1.out];rfl
       obtain ⟨k30a,k30b,k30c⟩:=c3 HX3_2;go_wp2_with fail;clear q17 k26 k27 k28 k29 k30a k30b k30c;refine (CL2.out _ HB.out).mono ?_;rintro e w15 ⟨rfl,hb⟩;have HX2_1:=uH hb HX2_1;have HX3_2:=uH hb HX3_2;have HX4_3:=uH hb HX4_3;have HB:=mH HB hb;clear hb;obtain ⟨W16,bk9,hW16,hbk9,HX9_31,HB,HG9_31,hup⟩:=boxZ HB HN0;have HL9_31:=(hup _ _ HX4_3).2;have HX2_1:=(hup _ _ HX2_1).1;have HX3_2:=(hup _ _ HX3_2).1;have HX4_3:=(hup _ _ HX4_3).1;clear hup;obtain ⟨W17,hW17,HX9_31,HB,ho,f32a,f32b,f32c,k32a,k32b,k32c⟩:=putR HX9_31 HB HN0 HG9_31 z;have HX2_1:=ho _ _ (en3 HL3_2 HL4_3 HL9_31) HX2_1;have HX3_2:=ho _ _ (en2 HL4_3 HL9_31) HX3_2;have HX4_3:=ho _ _ (en1 HL9_31) HX4_3;clear ho;obtain ⟨k33a,k33b,k33c⟩:=c3 HX9_31;go_wp2_with fail;clear hW16 hbk9 f32a f32b f32c k32a k32b k32c hW17 k33a k33b k33c;refine (C6.out _).mono ?_;rintro e w18 ⟨rfl,hb⟩;have HX2_1:=uH hb HX2_1;have HX3_2:=uH hb HX3_2
       have HX4_3:=uH hb HX4_3;have HX9_31:=uH hb HX9_31;have HB:=mH HB hb;clear hb;cases G
       case false =>
        have hV:V=(zrow,3):=HW.out;subst hV;obtain ⟨W19,hW19,HX4_3,HB,ho,f34a,f34b,f34c,k34a,k34b,k34c⟩:=putZ HX4_3 HB HN0 HG4_3;have HX2_1:=ho _ _ (en2 HL3_2 HL4_3) HX2_1;have HX3_2:=ho _ _ (en1 HL4_3) HX3_2;have HX9_31:=ho _ _ (ne1 HL9_31) HX9_31;clear ho;go_wp2_with fail;clear f34a f34b f34c k34a k34b k34c hW19;refine bodyPost_ret (rC2 HX4_3.out) rfl ?_;exact ⟨rfl,by rw [HN0.out];exact HB.out⟩
       case true =>
        have hV:V=(rawR z,0):=HW.out;subst hV;obtain ⟨k35a,k35b,k35c⟩:=c3 HX9_31;obtain ⟨W20,hW20,HX4_3,HB,ho,f36a,f36b,f36c,k36a,k36b,k36c⟩:=putR HX4_3 HB HN0 HG4_3 z;have HX2_1:=ho _ _ (en2 HL3_2 HL4_3) HX2_1;have HX3_2:=ho _ _ (en1 HL4_3) HX3_2;have HX9_31:=ho _ _ (ne1 HL9_31) HX9_31;clear ho;go_wp2_with fail;clear k35a k35b k35c f36a f36b f36c k36a k36b k36c hW20;refine bodyPost_ret (rC2 HX4_3.out) rfl ?_;exact ⟨rfl,by rw [HN0.out];exact HB.out⟩
     case true =>
      have q37:=Htn.out;have hV:V=(zrow,15):=by rw [HV.out];simp [show sg<0 from by have:=Htn.out;simpa using this]
      subst hV;obtain ⟨W21,hW21,HX4_3,HB,ho,f38a,f38b,f38c,k38a,k38b,k38c⟩:=putZ HX4_3 HB HN0 HG4_3;have HX2_1:=ho _ _ (en2 HL3_2 HL4_3) HX2_1;have HX3_2:=ho _ _ (en1 HL4_3) HX3_2;clear ho;go_wp2_with fail;clear q37 f38a f38b f38c k38a k38b k38c hW21;refine bodyPost_ret (rC2 HX4_3.out) rfl ?_;exact ⟨rfl,by rw [HN0.out];exact HB.out⟩
  case true =>
   have hV:V=(zrow,1):=HV.out;subst hV;obtain ⟨W22,hW22,HX4_3,HB,ho,f39a,f39b,f39c,k39a,k39b,k39c⟩:=putZ HX4_3 HB HN0 HG4_3;have HX2_1:=ho _ _ (en2 HL3_2 HL4_3) HX2_1;have HX3_2:=ho _ _ (en1 HL4_3) HX3_2;clear ho;go_wp2_with fail;clear f39a f39b f39c k39a k39b k39c hW22;refine bodyPost_ret (rC2 HX4_3.out) rfl ?_;exact ⟨rfl,by rw [HN0.out];exact HB.out⟩
 ·have hV:V=(zrow,C):=by rw [HV.out,if_neg hc0]
  subst hV;have hne:(C != 0)=true:=by simpa using hc0
  clear HV hc0;obtain ⟨W23,hW23,HX4_3,HB,ho,f40a,f40b,f40c,k40a,k40b,k40c⟩:=putZ HX4_3 HB HN0 HG4_3;have HX2_1:=ho _ _ (en2 HL3_2 HL4_3) HX2_1;have HX3_2:=ho _ _ (en1 HL4_3) HX3_2;clear ho;go_wp2_with fail;clear f40a f40b f40c k40a k40b k40c hW23;refine bodyPost_ret (rC2 HX4_3.out) rfl ?_;exact ⟨rfl,by rw [HN0.out];exact HB.out⟩
end Go.Proofs.YtblgfmjlajhipaaGreatDoor
