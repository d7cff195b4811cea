/- Contracts that the proofs of this seat share. Each theorem names its conditions. -/

import Derived.Test.YtabfjecegpaoaaaGreatDoorZc0
import Derived.Test.YtabfjecegpaoaaaGreatDoorZb1
import Derived.Test.YtabfjecegpaoaaaGreatDoorZb6
set_option maxHeartbeats 16000000
set_option linter.unusedVariables false
namespace Go.Proofs.YtabfjecegpaoaaaGreatDoor
open Go.RowKit Go.Shelf
open Dgt
theorem neqS {m n:Nat}:(¬(encS m).toList=(encS n).toList)↔decide (m≠n)=true:=by
 rw [decide_eq_true_eq];exact not_congr encL_iff
def centsV (a:Rt):Value:=.tuple #[.int .i64 (centsI a),.bool (centsOk a)]
theorem min_of:ofR (-9223372036854775808)=⟨true,9223372036854775808,1⟩:=by decide
theorem cents_no {a:Rt} (h:centsOk a=false):centsI a=0:=by unfold centsI;rw [h];rfl
theorem cents_c0 {a:Rt} (h:(centN a).den≠1):centsV a=.tuple #[.int .i64 0,.bool false]:=by
 have h1:centsOk a=false:=by unfold centsOk;simp [h]
 unfold centsV;rw [cents_no h1,h1]
theorem cents_c1 {a:Rt} (h:(centN a).den=1) (h1:intOk (centN a).num=true) (h2:(centN a).neg=true):centsV a=.tuple #[.int .i64 (-(intV (centN a).num:Int)),.bool true]:=by
 have h3:(centN a).num<9223372036854775808:=by simpa [intOk] using h1
 have h4:centsOk a=true:=by unfold centsOk;simp [h,h3]
 unfold centsV centsI;rw [h4,if_pos rfl,h2,(int_yes h3).2];rfl
theorem cents_c2 {a:Rt} (h:centN a=ofR (-9223372036854775808)):centsV a=.tuple #[.int .i64 (-9223372036854775808),.bool true]:=by
 have h4:centsOk a=true:=by unfold centsOk;rw [h,min_of];rfl
 unfold centsV centsI;rw [h4,if_pos rfl,h,min_of];rfl
theorem cents_c3 {a:Rt} (ha:a.Ok) (h:(centN a).den=1) (h1:¬(intOk (centN a).num=true∧(centN a).neg=true)) (h2:centN a≠ofR (-9223372036854775808)):centsV a=.tuple #[.int .i64 (intV (centN a).num:Int),.bool (intOk (centN a).num)]:=by
 by_cases h3:(centN a).num<9223372036854775808
 ·have hy:=int_yes h3;have hn:(centN a).neg=false:=by cases hn:(centN a).neg;rfl;exact absurd ⟨hy.1,hn⟩ h1
  have h4:centsOk a=true:=by unfold centsOk;simp [h,h3]
  unfold centsV centsI;rw [h4,if_pos rfl,hn,hy.1,hy.2];rfl
 ·have hy:=int_no (show 9223372036854775808≤(centN a).num by omega);have h4:centsOk a=false:=by
   unfold centsOk;have:((centN a).neg&&decide ((centN a).num=9223372036854775808))=false:=by
    cases hn:(centN a).neg
    ·rfl
    ·have:(centN a).num≠9223372036854775808:=fun e=>h2 (by rw [min_of];exact Rt.ext' hn e h)
     simp [this]
   rw [this];simp [h3]
  unfold centsV;rw [cents_no h4,h4,hy.1,hy.2];rfl
def EMoCents_r_3_1 (a:Rt) (m:Rt) (t:Rt):Nat→Value
 | 0=>.agg #[.bool a.neg,.string (encS a.num),.string (encS a.den)]
 | 1=>.agg #[.bool t.neg,.string (encS t.num),.string (encS t.den)]
 | 2=>.agg #[.bool m.neg,.string (encS m.num),.string (encS m.den)]
 | 3=>undef
 | 4=>undef
 | _=>undef
def EMoCents_r_4_2 (m:Rt) (Q:Bool) (bk4:Nat):Nat→Value
 | 0=>.pointer (some ⟨bk4,2,none⟩)
 | 1=>.string (encS m.den)
 | 2=>.string (encS 1)
 | 3=>.bool Q
 | _=>undef
def EMoCents_r_9_3 (m:Rt) (u:Rt) (E:Bool):Nat→Value
 | 0=>.agg #[.bool m.neg,.string (encS m.num),.string (encS m.den)]
 | 1=>.agg #[.bool u.neg,.string (encS u.num),.string (encS u.den)]
 | 2=>.bool E
 | 3=>.bool E
 | _=>undef
def EMoCents_r_9_4 (m:Rt) (u:Rt) (E:Bool):Nat→Value
 | 0=>.agg #[.bool m.neg,.string (encS m.num),.string (encS m.den)]
 | 1=>.agg #[.bool u.neg,.string (encS u.num),.string (encS u.den)]
 | 2=>.bool E
 | 3=>.bool E
 | _=>undef
set_option maxRecDepth 100000 in
theorem MoCents_r {a:Rt} (ha:a.Ok) (za:Rz a 90000) (wq:World) :
  Gv 29 #[.agg #[.bool a.neg,.string (encS a.num),.string (encS a.den)]] wq (centsV a):=by
 unfold Gv;have z2:Rz (ofR 100) 90000:=(ofR_sz (by decide) (by decide)).mono (by decide);have hok:=centN_ok ha;have zm:Rz (centN a) (90000+90000):=by unfold centN;exact mulR_sz za z2
 have c1:=fun w=>RatRight_any a.neg (encS a.num) (encS a.den) w (Nat.le_trans (encS_size_lt za.1) (by decide)) (Nat.le_trans (encS_size_lt za.2) (by decide))
 rw [rightR_of ha] at c1;have c2:=fun w=>RatOf_any 100 w (by decide) (by decide)
 have c3:=fun w=>RatMul_r (IsR.of ha za) (IsR.of hun_ok z2) (by decide) (by decide) w
 rw [show mulR a (ofR 100)=centN a from rfl] at c3;have c4:=fun w=>Of_any 1 w (by decide)
 have c5:=fun w=>Int_any (encS (centN a).num) w (Nat.le_trans (encS_size_lt zm.1) (by decide))
 rw [numS_encS] at c5;have c6:=fun w=>RatOf_any (-9223372036854775808) w (by decide) (by decide)
 have K0:=hD (cents_c0 (a:=a));have K1:=hD (cents_c1 (a:=a));have K2:=hD (cents_c2 (a:=a));have K3:=hD (cents_c3 (a:=a) ha);obtain ⟨R,h0⟩:∃R,centsV a=R:=⟨_,rfl⟩;rw [h0] at K0 K1 K2 K3 ⊢;obtain ⟨m,h1⟩:∃m,centN a=m:=⟨_,rfl⟩;rw [h1] at c3 c5 K0 K1 K2 K3;obtain ⟨t,h2⟩:∃t,ofR 100=t:=⟨_,rfl⟩;rw [h2] at c2 c3;obtain ⟨u,h3⟩:∃t,ofR (-9223372036854775808)=t:=⟨_,rfl⟩;rw [h3] at c6 K2 K3;obtain ⟨Q,h4⟩:∃Q,decide (m.den≠1)=Q:=⟨_,rfl⟩;have HQ:=hD h4;obtain ⟨k,h5⟩:∃k,intOk m.num=k:=⟨_,rfl⟩;rw [h5] at c5 K1 K3;have HK:=hD h5;obtain ⟨n,h6⟩:∃k,((intV m.num:Nat):Int)=k:=⟨_,rfl⟩;rw [h6] at c5 K1 K3;obtain ⟨nn,h7⟩:∃k,m.neg=k:=⟨_,rfl⟩;have HNN:=hD h7;obtain ⟨E,h8⟩:∃k,eqR m u=k:=⟨_,rfl⟩;have HE:=hD h8;have hw:IntKind.i64.wrap (-n)= -n:=by
  refine IntWalk.i64_in _ ?_;have:intV m.num<9223372036854775808:=by unfold intV;split;rename_i h;simpa [intOk] using h;decide
  omega
 have HW:=hD hw;have C1:Hid (∀w,Gv 58 #[rtV a] w (.bool true)):=hD c1;have C2:Hid (∀w,Gv 59 #[.int .i64 100] w (.agg #[.bool t.neg,.string (encS t.num),.string (encS t.den)])):=hD c2;have C3:Hid (∀w,Gv 61 #[rtV a,rtV t] w (.agg #[.bool m.neg,.string (encS m.num),.string (encS m.den)])):=hD c3;have C4:Hid (∀w,Gv 72 #[.int .i64 1] w (.string (encS 1))):=hD c4;have C5:Hid (∀w,Gv 73 #[.string (encS m.num)] w (.tuple #[.int .i64 n,.bool k])):=hD c5;have C6:Hid (∀w,Gv 59 #[.int .i64 (-9223372036854775808)] w (.agg #[.bool u.neg,.string (encS u.num),.string (encS u.den)])):=hD c6;clear c1 c2 c3 c4 c5 c6 h0 h1 h2 h3 h4 h5 h6 h7 h8 hw z2 hok zm ha za;have HB:=hD (Below.refl wq.heap.size wq);obtain ⟨n0,hn0⟩:∃n,n=wq.heap.size:=⟨_,rfl⟩;rw [←hn0];have HN0:=hD hn0;clear hn0;go_enter Tryz.func29,Tryz.ntmps29;obtain ⟨W1,bk1,hW1,hbk1,HX1_1,HB,HG1_1,hup⟩:=boxR HB HN0 a;clear hup
 obtain ⟨k2a,k2b,k2c⟩:=c3 HX1_1;go_wp2_with fail;clear hW1 hbk1 k2a k2b k2c;refine (C1.out _).mono ?_;rintro e w2 ⟨rfl,hb⟩;have HX1_1:=uH hb HX1_1;have HB:=mH HB hb;clear hb;go_wp2_with fail;refine wp_region_box (w0:=w2) (by kernel_rfl) (fun ix v _=>v=EMoCents_r_3_1 a m t ix) 3 4 (.cells #[.bool false,.string ⟨#[]⟩,.string ⟨#[]⟩] 26 (0,0)) (.cells #[.bool m.neg,.string (encS m.num),.string (encS m.den)] 26 (0,0)) (fun t=>(decide (4≤t)&&decide (t<5))||(decide (10≤t)&&decide (t<13))) (by kernel_rfl) (by kernel_rfl) (by kernel_rfl) (by decide) (by decide) (by kernel_rfl) rfl (fun _ _ _ _ _ h=>h) ?_ ?_ ?_ ?_
 ·intro i hi hia his ov_ listed av_ w hR K hK;have ho:=hR.at_;have hi:i<5:=hi;have hii:i=0∨i=1∨i=2:=by omega
  rcases hii with rfl|rfl|rfl
  ·simp at ho;subst ho;have b1:av_.tmps.getD 1 undef=.pointer (some ⟨bk1,0,none⟩):=hR.b 1;obtain ⟨cx0,cx1,cx2⟩:=c3 (uH hR.below HX1_1);refine pSq ?_;go_simp;exact hK _ _ rfl rB
  ·simp at ho;subst ho;refine pSq ?_;go_simp;refine (C2.out w).mono ?_;rintro e w' ⟨rfl,hb⟩;exact hK _ _ (rfl) hb
  ·simp at ho;subst ho;have e0:av_.tmps.getD 10 undef=.agg #[.bool a.neg,.string (encS a.num),.string (encS a.den)]:=hR.dep ⟨0,.data⟩ (by simp) rfl (by decide) (by decide);have e1:av_.tmps.getD 11 undef=.agg #[.bool t.neg,.string (encS t.num),.string (encS t.den)]:=hR.dep ⟨1,.data⟩ (by simp) rfl (by decide) (by decide);refine pSq ?_;go_simp;refine (C3.out w).mono ?_;rintro e w' ⟨rfl,hb⟩;exact hK _ _ (rfl) hb
 ·intro ov_ av_ w ho K hK;simp at ho;subst ho;refine pSq ?_;go_simp;exact hK _ _ _ rfl (Nat.le_refl _) (heap_alloc_new _ _) (rB.alloc (Nat.le_refl _) _)
 ·intro ov_ listed av_ w g hR hv hg hz K hK;have ho:=hR.at_;simp at ho;subst ho;have e3:av_.tmps.getD 4 undef=.pointer (some ⟨g,0,none⟩):=hv;have e2:av_.tmps.getD 12 undef=.agg #[.bool m.neg,.string (encS m.num),.string (encS m.den)]:=hR.dep ⟨2,.data⟩ (by simp) rfl (by decide) (by decide);have cz0:w.cell? ⟨g,0,none⟩=some (.bool false):=by rw [Lib.cell_of_heap hz];rfl
  have fz0:w.frozen? ⟨g,0,none⟩=false:=frz0 hz 0;have cz1:w.cell? ⟨g,1,none⟩=some (.string ⟨#[]⟩):=by rw [Lib.cell_of_heap hz];rfl
  have fz1:w.frozen? ⟨g,1,none⟩=false:=frz0 hz 1;have cz2:w.cell? ⟨g,2,none⟩=some (.string ⟨#[]⟩):=by rw [Lib.cell_of_heap hz];rfl
  have fz2:w.frozen? ⟨g,2,none⟩=false:=frz0 hz 2;refine pSq ?_;go_simp;exact hK _ (by simp [World.setCell,Array.getElem?_modify,hz]) (((rB.setCell (p:=⟨g,0,none⟩) hg (.bool m.neg)).setCell (p:=⟨g,1,none⟩) hg (.string (encS m.num))).setCell (p:=⟨g,2,none⟩) hg (.string (encS m.den)))
 ·intro sv_ w g hS hg0 hge hN hb;have e3:sv_ 4=.pointer (some ⟨g,0,none⟩):=hg0;simp only [over,ovL,Nat.reduceAdd,Nat.reduceLeDiff,Nat.reduceLT];obtain ⟨bk4,hg1⟩:∃b,g=b:=⟨_,rfl⟩;rw [hg1] at e3 hge hN;clear hg1;have HG4_3:Hid (n0≤bk4):=hD (by rw [HN0.out];exact Nat.le_trans HB.out.size hge);have HL4_3:=hD (Nat.lt_of_lt_of_le (Array.getElem?_eq_some_iff.1 HX1_1.out).1 hge);have HX4_3:=hD hN;clear hN hge hg0;have HX1_1:=uH hb HX1_1;have HB:=mH HB hb;obtain ⟨w3,hw⟩:∃w8,w8=w:=⟨_,rfl⟩;subst hw;rw [e3];clear hS hb e3;go_wp2_with fail;refine wpVl (w:=w3) (by kernel_rfl) (fun ix v _=>v=EMoCents_r_4_2 m Q bk4 ix) (fun t=>(decide (13≤t)&&decide (t<17))) (by kernel_rfl) (by kernel_rfl) (by kernel_rfl) (fun _ _ _ _ _ h=>h) ?_ ?_
  ·intro i hi ov_ listed av_ w hR K hK;have ho:=hR.at_;have hi:i<4:=hi;have hii:i=0∨i=1∨i=2∨i=3:=by omega
   rcases hii with rfl|rfl|rfl|rfl<;>(simp at ho;subst ho)
   ·have b4:av_.tmps.getD 4 undef=.pointer (some ⟨bk4,0,none⟩):=hR.b 4;refine pSq ?_;go_simp;exact hK _ _ rfl rB
   ·have e0:av_.tmps.getD 13 undef=.pointer (some ⟨bk4,2,none⟩):=hR.d 0;have cx0:w.cell? ⟨bk4,2,none⟩=some (.string (encS m.den)):=by rw [Lib.cell_of_heap (hpU hR.below HX4_3.out)];rfl
    refine pSq ?_;go_simp;exact hK _ _ rfl rB
   ·refine pSq ?_;go_simp;refine (C4.out w).mono ?_;rintro e w' ⟨rfl,hb⟩;exact hK _ _ (rfl) hb
   ·have e1:av_.tmps.getD 14 undef=.string (encS m.den):=hR.d 1;have e2:av_.tmps.getD 15 undef=.string (encS 1):=hR.d 2;refine pSq ?_;go_simp;exact hK _ _ (by show Value.bool _=Value.bool Q;congr 1;rw [Bool.eq_iff_iff];simp [neqS,HQ.out]) rB
  ·intro sv_ w hS hb;have e3:sv_ 16=.bool Q:=hS 3 (by decide);simp only [over,ovL,Nat.reduceAdd,Nat.reduceLeDiff,Nat.reduceLT];have HB:=mH HB hb;have HX1_1:=uH hb HX1_1;have HX4_3:=uH hb HX4_3;obtain ⟨w4,hw⟩:∃w8,w8=w:=⟨_,rfl⟩;subst hw;rw [e3];clear hS hb e3;cases Q
   case false =>
    have k4:w4.cell? ⟨bk4,1,none⟩=some (.string (encS m.num)):=by rw [Lib.cell_of_heap HX4_3.out];rfl
    go_wp2_with fail;clear k4;refine (C5.out _).mono ?_;rintro e w5 ⟨rfl,hb⟩;have HX1_1:=uH hb HX1_1;have HX4_3:=uH hb HX4_3;have HB:=mH HB hb;clear hb;cases k
    case false =>
     go_wp2_with fail;refine wpVl (w:=w5) (by kernel_rfl) (fun ix v _=>v=EMoCents_r_9_3 m u E ix) (fun t=>(decide (31≤t)&&decide (t<35))) (by kernel_rfl) (by kernel_rfl) (by kernel_rfl) (fun _ _ _ _ _ h=>h) ?_ ?_
     ·intro i hi ov_ listed av_ w hR K hK;have ho:=hR.at_;have hi:i<4:=hi;have hii:i=0∨i=1∨i=2∨i=3:=by omega
      rcases hii with rfl|rfl|rfl|rfl<;>(simp at ho;subst ho)
      ·have b4:av_.tmps.getD 4 undef=.pointer (some ⟨bk4,0,none⟩):=hR.b 4;obtain ⟨cx0,cx1,cx2⟩:=c3 (uH hR.below HX4_3);refine pSq ?_;go_simp;exact hK _ _ rfl rB
      ·refine pSq ?_;go_simp;refine (C6.out w).mono ?_;rintro e w' ⟨rfl,hb⟩;exact hK _ _ (rfl) hb
      ·have e0:av_.tmps.getD 32 undef=.agg #[.bool m.neg,.string (encS m.num),.string (encS m.den)]:=hR.d 0;have e1:av_.tmps.getD 33 undef=.agg #[.bool u.neg,.string (encS u.num),.string (encS u.den)]:=hR.d 1;have hrun:=fun w=>run_eqlR HE.out w
       refine pSq ?_;go_simp;exact hK _ _ rfl rB
      ·have e2:av_.tmps.getD 34 undef=.bool E:=hR.d 2;refine pSq ?_;go_simp;exact hK _ _ rfl rB
     ·intro sv_ w hS hb;have e3:sv_ 31=.bool E:=hS 3 (by decide);simp only [over,ovL,Nat.reduceAdd,Nat.reduceLeDiff,Nat.reduceLT];have HB:=mH HB hb;have HX1_1:=uH hb HX1_1;have HX4_3:=uH hb HX4_3;obtain ⟨w6,hw⟩:∃w8,w8=w:=⟨_,rfl⟩;subst hw;rw [e3];clear hS hb e3;cases E
      case false =>
       go_wp2_with fail;go_ret2;have h:=K3.out (by have:=HQ.out;simpa using this) (by first|(intro h;exact absurd h.1 (by decide))|(intro h;have h2:=h.2;rw [HNN.out] at h2;exact absurd h2 (by decide))) (eqR_false.1 HE.out);subst h;exact ⟨rfl,by rw [HN0.out];exact HB.out⟩
      case true =>
       go_wp2_with fail;go_ret2;have h:=K2.out (eqR_iff.1 HE.out);subst h;exact ⟨rfl,by rw [HN0.out];exact HB.out⟩
    case true =>
     have k5:w5.cell? ⟨bk4,0,none⟩=some (.bool m.neg):=by rw [Lib.cell_of_heap HX4_3.out];rfl
     rw [HNN.out] at k5;cases nn
     case false =>
      go_wp2_with fail;clear k5;refine wpVl (w:=w5) (by kernel_rfl) (fun ix v _=>v=EMoCents_r_9_4 m u E ix) (fun t=>(decide (31≤t)&&decide (t<35))) (by kernel_rfl) (by kernel_rfl) (by kernel_rfl) (fun _ _ _ _ _ h=>h) ?_ ?_
      ·intro i hi ov_ listed av_ w hR K hK;have ho:=hR.at_;have hi:i<4:=hi;have hii:i=0∨i=1∨i=2∨i=3:=by omega
       rcases hii with rfl|rfl|rfl|rfl<;>(simp at ho;subst ho)
       ·have b4:av_.tmps.getD 4 undef=.pointer (some ⟨bk4,0,none⟩):=hR.b 4;obtain ⟨cx0,cx1,cx2⟩:=c3 (uH hR.below HX4_3);refine pSq ?_;go_simp;exact hK _ _ rfl rB
       ·refine pSq ?_;go_simp;refine (C6.out w).mono ?_;rintro e w' ⟨rfl,hb⟩;exact hK _ _ (rfl) hb
       ·have e0:av_.tmps.getD 32 undef=.agg #[.bool m.neg,.string (encS m.num),.string (encS m.den)]:=hR.d 0;have e1:av_.tmps.getD 33 undef=.agg #[.bool u.neg,.string (encS u.num),.string (encS u.den)]:=hR.d 1;have hrun:=fun w=>run_eqlR HE.out w
        refine pSq ?_;go_simp;exact hK _ _ rfl rB
       ·have e2:av_.tmps.getD 34 undef=.bool E:=hR.d 2;refine pSq ?_;go_simp;exact hK _ _ rfl rB
      ·intro sv_ w hS hb;have e3:sv_ 31=.bool E:=hS 3 (by decide);simp only [over,ovL,Nat.reduceAdd,Nat.reduceLeDiff,Nat.reduceLT];have HB:=mH HB hb;have HX1_1:=uH hb HX1_1;have HX4_3:=uH hb HX4_3;obtain ⟨w7,hw⟩:∃w8,w8=w:=⟨_,rfl⟩;subst hw;rw [e3];clear hS hb e3;cases E
       case false =>
        go_wp2_with fail;go_ret2;have h:=K3.out (by have:=HQ.out;simpa using this) (by first|(intro h;exact absurd h.1 (by decide))|(intro h;have h2:=h.2;rw [HNN.out] at h2;exact absurd h2 (by decide))) (eqR_false.1 HE.out);subst h;exact ⟨rfl,by rw [HN0.out];exact HB.out⟩
       case true =>
        go_wp2_with fail;go_ret2;have h:=K2.out (eqR_iff.1 HE.out);subst h;exact ⟨rfl,by rw [HN0.out];exact HB.out⟩
     case true =>
      have q6:=HW.out;go_wp2_with fail;clear k5 q6;go_ret2;have h:=K1.out (by have:=HQ.out;simpa using this) trivial HNN.out;subst h;exact ⟨rfl,by rw [HN0.out];exact HB.out⟩
   case true =>
    go_wp2_with fail;go_ret2;have h:=K0.out (by have:=HQ.out;simpa using this);subst h;exact ⟨rfl,by rw [HN0.out];exact HB.out⟩
end Go.Proofs.YtabfjecegpaoaaaGreatDoor
