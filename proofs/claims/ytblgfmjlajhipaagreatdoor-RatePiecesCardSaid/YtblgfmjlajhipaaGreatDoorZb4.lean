/- Contracts that the proofs of this seat share. Each theorem names its conditions. -/

import Derived.Test.YtblgfmjlajhipaaGreatDoorZb0
import Derived.Test.YtblgfmjlajhipaaGreatDoorZb3
import Derived.Test.YtblgfmjlajhipaaGreatDoorZa6
set_option maxHeartbeats 16000000
set_option linter.unusedVariables false
namespace Go.Proofs.YtblgfmjlajhipaaGreatDoor
open Go.RowKit Go.Shelf
open Dgt
theorem below_zrow (w:World) {w1:World} (h:Below (w.alloc (.cells #[.bool false,.string ⟨#[]⟩,.string ⟨#[]⟩] 29)).heap.size (w.alloc (.cells #[.bool false,.string ⟨#[]⟩,.string ⟨#[]⟩] 29)) w1):Below w.heap.size w w1 :=
 ((Below.refl w.heap.size w).alloc (Nat.le_refl _) _).trans (h.mono (by simp))
theorem sz_one:Sz 1 1:=by unfold Sz;decide
set_option maxRecDepth 100000 in
theorem rRatOf_any (n:Int) (wq:World) (h1: -9223372036854775808≤n) (h2:n≤9223372036854775807) :
  Gv 14 #[.int .i64 n] wq (rtV (ofR n)):=by
 unfold Gv;have HO1:=hD (fun w=>rOf_any 1 w (by decide));have HXZ:=hD (zeroR_row wq);have HB0:=hD (below_zrow wq rB)
 by_cases hn:n<0
 ·obtain ⟨m,hm⟩:∃m:Nat,-(n+1)=(m:Int):=⟨(-(n+1)).toNat,by omega⟩;have q5:wrap64 (-(n+1))=(m:Int):=by unfold wrap64;omega
  have HO:=hD (fun w=>rOf_any (m:Int) w (by omega));simp only [Int.toNat_natCast] at HO;have hmz:Sz m 8:=Nat.lt_of_lt_of_le (show m<9223372036854775808 by omega) (by decide);have HA:=hD (fun w=>rAdd_any (encS m) (encS 1) w (Nat.le_trans (encS_size_lt hmz) (by decide)) (Nat.le_trans (encS_size_lt sz_one) (by decide)));simp only [numS_encS] at HA;have HE:Hid (ofR n=⟨true,m+1,1⟩):=hD (by unfold ofR;simp [hn];omega);rw [HE.out];have q3:¬(0:Int)≤n:=by omega
  have q6:IntKind.i64.wrap (n+1)=n+1:=IntWalk.i64_in _ (by omega);clear hm hmz h1 h2;go_enter Tryz.func14,Tryz.ntmps14;go_wp2_with fail;refine (HO.out _).mono ?_;rintro e w1 ⟨rfl,hb⟩;have HXZ:=uH hb HXZ;have HB0:=hD (HB0.out.trans (hb.mono HB0.out.size));clear hb;go_wp2_with fail;refine (HO1.out _).mono ?_;rintro e w2 ⟨rfl,hb⟩;rw [show (1:Int).toNat=1 from rfl];have HXZ:=uH hb HXZ;have HB0:=hD (HB0.out.trans (hb.mono HB0.out.size));clear hb;go_wp2_with fail;refine (HA.out _).mono ?_;rintro e w3 ⟨rfl,hb⟩;have HXZ:=uH hb HXZ;have HB0:=hD (HB0.out.trans (hb.mono HB0.out.size));clear hb;go_wp2_with fail;refine (HO1.out _).mono ?_;rintro e w4 ⟨rfl,hb⟩;rw [show (1:Int).toNat=1 from rfl];have HXZ:=uH hb HXZ;have HB0:=hD (HB0.out.trans (hb.mono HB0.out.size));clear hb;obtain ⟨⟨c0,c1,c2⟩,hf⟩:=rwC HXZ.out;have hf0:=hf 0;have hf1:=hf 1;have hf2:=hf 2;clear hf;go_wp2_with fail
  refine bodyPost_ret (results_cell_row rfl _ _ wq.heap.size 29 _ (0,0) _ rfl (row_set HXZ.out _ _ _) Tryz.underlying29 rfl (by kernel_rfl)) rfl ?_;exact ⟨rfl,below_row HB0.out (Nat.le_refl _) _ _ _⟩
 ·obtain ⟨m,rfl⟩:∃m:Nat,n=(m:Int):=⟨n.toNat,by omega⟩;have HO:=hD (fun w=>rOf_any (m:Int) w (by omega));simp only [Int.toNat_natCast] at HO;have HE:Hid (ofR (m:Int)=⟨false,m,1⟩):=hD (by unfold ofR;simp);rw [HE.out];have q3:(0:Int)≤(m:Int):=by omega
  clear h1 h2;go_enter Tryz.func14,Tryz.ntmps14;go_wp2_with fail;refine (HO.out _).mono ?_;rintro e w1 ⟨rfl,hb⟩;have HXZ:=uH hb HXZ;have HB0:=hD (HB0.out.trans (hb.mono HB0.out.size));clear hb;go_wp2_with fail;refine (HO1.out _).mono ?_;rintro e w2 ⟨rfl,hb⟩;rw [show (1:Int).toNat=1 from rfl];have HXZ:=uH hb HXZ;have HB0:=hD (HB0.out.trans (hb.mono HB0.out.size));clear hb;obtain ⟨⟨c0,c1,c2⟩,hf⟩:=rwC HXZ.out;have hf0:=hf 0;have hf1:=hf 1;have hf2:=hf 2;clear hf;go_wp2_with fail;refine bodyPost_ret (results_cell_row rfl _ _ wq.heap.size 29 _ (0,0) _ rfl (row_set HXZ.out _ _ _) Tryz.underlying29 rfl (by kernel_rfl)) rfl ?_;exact ⟨rfl,below_row HB0.out (Nat.le_refl _) _ _ _⟩
theorem enc_nil {m:Nat} (h:m=0):(encS m).toList=[]:=List.isEmpty_iff.1 (by rw [enc_empty];simp [h])
theorem enc_not_nil {m:Nat} (h:m≠0):¬(encS m).toList=[]:=fun e=>by
 have:=enc_some h;rw [e] at this;cases this
set_option maxRecDepth 100000 in
theorem rlowest_n (neg:Bool) (n d:Nat) (wq:World) (d0:0<d) (sn:Sz n 9000000) (sd:Sz d 9000000) :
  Gv 53 #[.bool neg,.string (encS n),.string (encS d)] wq (rtV (low neg n d)):=by
 unfold Gv;have HXZ:=hD (zeroR_row wq);have HB0:=hD (below_zrow wq rB)
 by_cases hn:n=0
 ·subst hn;have HO1:=hD (fun w=>rOf_any 1 w (by decide));rw [low_zero neg d0];have q:=enc_nil (m:=0) rfl;have q2:=encS_zero;clear d0 sn sd;go_enter Tryz.func53,Tryz.ntmps53;go_wp2_with fail;refine (HO1.out _).mono ?_;rintro e w1 ⟨rfl,hb⟩;rw [show (1:Int).toNat=1 from rfl];have HXZ:=uH hb HXZ;have HB0:=hD (HB0.out.trans (hb.mono HB0.out.size));clear hb;obtain ⟨⟨c0,c1,c2⟩,hf⟩:=rwC HXZ.out;have hf0:=hf 0;have hf1:=hf 1;have hf2:=hf 2;clear hf;go_wp2_with fail;refine bodyPost_ret (results_cell_row rfl _ _ wq.heap.size 29 _ (0,0) _ rfl (row_set HXZ.out _ _ _) Tryz.underlying29 rfl (by kernel_rfl)) rfl ?_;refine ⟨?_,below_row HB0.out (Nat.le_refl _) _ _ _⟩;simp [rtV,zeroR,encS_zero]
 ·obtain ⟨g,hg⟩:∃g,Nat.gcd n d=g:=⟨_,rfl⟩;have hgd:g≤d:=by rw [←hg];exact Nat.gcd_le_right _ d0
  have hg0:0<g:=by rw [←hg];exact Nat.gcd_pos_of_pos_right n d0
  have HG:=hD (fun w=>rGcd_any (encS n) (encS d) w (encS_size_lt sn) (encS_size_lt sd));have HQ:=hD (fun w=>rQuo_any (encS n) (encS g) w (encS_size_lt sn) (encS_size_lt (sd.le hgd)));have HQ2:=hD (fun w=>rQuo_any (encS d) (encS g) w (encS_size_lt sd) (encS_size_lt (sd.le hgd)));simp only [numS_encS,hg] at HG HQ HQ2;have HL:Hid (low neg n d=⟨neg,n/g,d/g⟩):=hD (by
   have h1:=low_num_pos (neg:=neg) (d:=d) (Nat.pos_of_ne_zero hn);unfold low;rw [hg] at h1 ⊢;rw [decide_eq_true h1,Bool.and_true])
  rw [HL.out];have q:=enc_not_nil hn;have q2:=enc_some hn;clear hg hgd hg0 d0 sn sd hn;go_enter Tryz.func53,Tryz.ntmps53;go_wp2_with fail;refine (HG.out _).mono ?_;rintro e w1 ⟨rfl,hb⟩;have HXZ:=uH hb HXZ;have HB0:=hD (HB0.out.trans (hb.mono HB0.out.size));clear hb;go_wp2_with fail;refine (HQ.out _).mono ?_;rintro e w2 ⟨rfl,hb⟩;have HXZ:=uH hb HXZ;have HB0:=hD (HB0.out.trans (hb.mono HB0.out.size));clear hb;go_wp2_with fail;refine (HQ2.out _).mono ?_;rintro e w3 ⟨rfl,hb⟩;have HXZ:=uH hb HXZ;have HB0:=hD (HB0.out.trans (hb.mono HB0.out.size));clear hb;obtain ⟨⟨c0,c1,c2⟩,hf⟩:=rwC HXZ.out;have hf0:=hf 0;have hf1:=hf 1;have hf2:=hf 2;clear hf;go_wp2_with fail;refine bodyPost_ret (results_cell_row rfl _ _ wq.heap.size 29 _ (0,0) _ rfl (row_set HXZ.out _ _ _) Tryz.underlying29 rfl (by kernel_rfl)) rfl ?_;exact ⟨rfl,below_row HB0.out (Nat.le_refl _) _ _ _⟩
def ERY (ba:Nat) (neg:Bool) (b:Nat) (c:Int) (Q:Bool):Nat→Value
 | 0=>.pointer (some ⟨ba,0,none⟩)
 | 1=>.bool neg
 | 2=>.bool (!neg)
 | 3=>.bool (!neg)
 | 4=>(bif neg then undef else .pointer (some ⟨ba,2,none⟩))
 | 5=>(bif neg then undef else .string (encS b))
 | 6=>(bif neg then undef else .string (encS 1))
 | 7=>(bif neg then undef else .int .i64 c)
 | 8=>(bif neg then undef else .bool Q)
 | 9=>.bool (!neg&&Q)
 | 10=>.bool (!neg&&Q)
 | _=>undef
theorem rightR_enc (neg:Bool) (a b:Nat):rightR neg (encS a) (encS b)=(decide (0<b)&&decide (Nat.gcd a b=1)&&(!neg||decide (0<a))):=by
 unfold rightR;rw [right_enc,right_enc,numS_encS,numS_encS];simp
set_option maxRecDepth 100000 in
theorem rRatRight_any (neg:Bool) (n d:ByteArray) (wq:World) (sn:n.size≤9000000) (sd:d.size≤9000000) :
  Gv 85 #[.agg #[.bool neg,.string n,.string d]] wq (.bool (rightR neg n d)):=by
 unfold Gv;have H1:=hD (fun w=>rRight_any n w (by omega));have H2:=hD (fun w=>rRight_any d w (by omega));have hxa:=heap_alloc_new wq (.cells #[.bool neg,.string n,.string d] 29);have hb0:=(Below.refl wq.heap.size wq).alloc (Nat.le_refl _) (.cells #[.bool neg,.string n,.string d] 29);obtain ⟨W1,hW1⟩:∃W1,wq.alloc (.cells #[.bool neg,.string n,.string d] 29)=W1:=⟨_,rfl⟩;rw [hW1] at hxa hb0;obtain ⟨⟨ca0,ca1,ca2⟩,-⟩:=rwC hxa;have HB0:=hD hb0;have sn2:=hD sn;have sd2:=hD sd;clear hb0 sn sd
 by_cases r1:rightN n=true
 ·by_cases r2:rightN d=true
  ·obtain ⟨a,ha⟩:∃a,numS n=a:=⟨_,rfl⟩;obtain ⟨b,hb⟩:∃b,numS d=b:=⟨_,rfl⟩;have hn:=rightN_eq r1;have hd:=rightN_eq r2;rw [ha] at hn;rw [hb] at hd;subst hn;subst hd;rw [rightR_enc];simp only [right_enc] at H1 H2;clear r1 r2 ha hb
   by_cases b0:b=0
   ·have q:=enc_nil b0;have qe:(encS b).toList.isEmpty=true:=by rw [q];rfl
    have HE:Hid ((decide (0<b)&&decide (Nat.gcd a b=1)&&(!neg||decide (0<a)))=false):=hD (by simp [b0]);rw [HE.out];clear b0;go_enter Tryz.func85,Tryz.ntmps85;go_wp2_with fail;refine (H1.out _).mono ?_;rintro e w1 ⟨rfl,rfl⟩;go_wp2_with fail;refine (H2.out _).mono ?_;rintro e w1 ⟨rfl,rfl⟩;go_wp2_with fail;go_ret;exact ⟨rfl,HB0.out⟩
   ·have q:=enc_not_nil b0;have qe:=enc_some b0
    by_cases a0:a=0
    ·have q2:=enc_nil a0;have qe2:(encS a).toList.isEmpty=true:=by rw [q2];rfl
     have HOF:=hD (fun w=>rOf_any 1 w (by decide));simp only [show (1:Int).toNat=1 from rfl] at HOF;have HCM:=hD (fun w=>rCmp_any (encS b) (encS 1) w (Nat.le_trans sd2.out (by decide)) (Nat.le_trans (encS_size_lt sz_one) (by decide)));simp only [numS_encS] at HCM;obtain ⟨c,hc⟩:∃c,cmpI b 1=c:=⟨_,rfl⟩;rw [hc] at HCM;obtain ⟨Q,hQ⟩:∃Q,decide (b=1)=Q:=⟨_,rfl⟩;have HQ0:Hid (c=0↔Q=true):=hD (by
      rw [←hc, ←hQ,decide_eq_true_eq];unfold cmpI
      split
      ·constructor<;>intro h<;>omega
      ·split
       ·constructor<;>intro h<;>omega
       ·constructor
        ·intro _;omega
        ·intro _;rfl)
     have HE:Hid ((decide (0<b)&&decide (Nat.gcd a b=1)&&(!neg||decide (0<a)))=(!neg&&Q)):=hD (by
      subst a0;rw [←hQ]
      by_cases h1:b=1
      ·subst h1;simp
      ·simp [h1])
     rw [HE.out];clear hc hQ a0 b0;go_enter Tryz.func85,Tryz.ntmps85;go_wp2_with fail;refine (H1.out _).mono ?_;rintro e w1 ⟨rfl,rfl⟩;go_wp2_with fail;refine (H2.out _).mono ?_;rintro e w1 ⟨rfl,rfl⟩;go_wp2_with fail;obtain ⟨ba,hba⟩:∃b,wq.heap.size=b:=⟨_,rfl⟩;rw [hba] at hxa ca0 ca1 ca2 ⊢;have HXA:=hD hxa;clear hxa ca0 ca1 ca2 hW1;refine wpVl (w:=W1) (by kernel_rfl) (fun ix v _=>v=ERY ba neg b c Q ix) (fun t=>(decide (2≤t)&&decide (t<3))||(decide (25≤t)&&decide (t<35))) (by kernel_rfl) (by kernel_rfl) (by kernel_rfl) (fun _ _ _ _ _ h=>h) ?_ ?_
     ·intro i hi o listed a w hR K hK;have ho:=hR.at_;have hi:i<11:=hi;have hii:i=0∨i=1∨i=2∨i=3∨i=4∨i=5∨i=6∨i=7∨i=8∨i=9∨i=10:=by omega
      rcases hii with rfl|rfl|rfl|rfl|rfl|rfl|rfl|rfl|rfl|rfl|rfl
      ·simp at ho;subst ho;have b1:a.tmps.getD 1 undef=.pointer (some ⟨ba,0,none⟩):=hR.b 1;refine pSq ?_;go_simp;exact hK _ _ rfl rB
      ·simp at ho;subst ho;have e0:a.tmps.getD 25 undef=.pointer (some ⟨ba,0,none⟩):=hR.d 0;obtain ⟨⟨cx0,cx1,cx2⟩,-⟩:=rwC (hpU hR.below HXA.out);refine pSq ?_;go_simp;exact hK _ _ rfl rB
      ·simp at ho;subst ho;have e1:a.tmps.getD 26 undef=.bool neg:=hR.d 1;refine pSq ?_;go_simp;exact hK _ _ rfl rB
      ·simp at ho;subst ho;have e2:a.tmps.getD 27 undef=.bool (!neg):=hR.d 2;refine pSq ?_;go_simp;exact hK _ _ rfl rB
      ·simp at ho;subst ho;have e3:a.tmps.getD 28 undef=.bool (!neg):=hR.g 3;have b1:a.tmps.getD 1 undef=.pointer (some ⟨ba,0,none⟩):=hR.b 1;cases neg
       ·refine gSq (b:=true) e3 ?_;go_simp;exact hK _ _ rfl rB
       ·refine gSkp rfl rfl rfl (b:=true) e3 (by decide) ?_;exact hK _ _ rfl rB
      ·simp at ho;subst ho;have e4:a.tmps.getD 29 undef=(bif neg then undef else .pointer (some ⟨ba,2,none⟩)):=hR.d 4;have e3:a.tmps.getD 28 undef=.bool (!neg):=hR.g 3;obtain ⟨⟨cx0,cx1,cx2⟩,-⟩:=rwC (hpU hR.below HXA.out);cases neg
       ·refine gSq (b:=true) e3 ?_;go_simp;exact hK _ _ rfl rB
       ·refine gSkp rfl rfl rfl (b:=true) e3 (by decide) ?_;exact hK _ _ rfl rB
      ·simp at ho;subst ho;have e3:a.tmps.getD 28 undef=.bool (!neg):=hR.g 3;cases neg
       ·refine gSq (b:=true) e3 ?_;go_simp;refine (HOF.out w).mono ?_;rintro e w' ⟨rfl,hb⟩;exact hK _ _ (rfl) hb
       ·refine gSkp rfl rfl rfl (b:=true) e3 (by decide) ?_;exact hK _ _ rfl rB
      ·simp at ho;subst ho;have e5:a.tmps.getD 30 undef=(bif neg then undef else .string (encS b)):=hR.d 5;have e6:a.tmps.getD 31 undef=(bif neg then undef else .string (encS 1)):=hR.d 6;have e3:a.tmps.getD 28 undef=.bool (!neg):=hR.g 3;cases neg
       ·refine gSq (b:=true) e3 ?_;go_simp;refine (HCM.out w).mono ?_;rintro e w' ⟨rfl,rfl⟩;exact hK _ _ rfl rB
       ·refine gSkp rfl rfl rfl (b:=true) e3 (by decide) ?_;exact hK _ _ rfl rB
      ·simp at ho;subst ho;have e7:a.tmps.getD 32 undef=(bif neg then undef else .int .i64 c):=hR.d 7;have e3:a.tmps.getD 28 undef=.bool (!neg):=hR.g 3;cases neg
       ·refine gSq (b:=true) e3 ?_;go_simp;exact hK _ _ (by show Value.bool _=Value.bool Q;congr 1;rw [Bool.eq_iff_iff];simp [HQ0.out]) rB
       ·refine gSkp rfl rfl rfl (b:=true) e3 (by decide) ?_;exact hK _ _ rfl rB
      ·simp at ho;subst ho;have e3:a.tmps.getD 28 undef=.bool (!neg):=hR.d 3;have e8:a.tmps.getD 33 undef=(bif neg then undef else .bool Q):=hR.d 8;cases neg
       ·refine pSq ?_;go_simp;exact hK _ _ rfl rB
       ·refine pSq ?_;go_simp;exact hK _ _ rfl rB
      ·simp at ho;subst ho;have e9:a.tmps.getD 34 undef=.bool (!neg&&Q):=hR.d 9;refine pSq ?_;go_simp;exact hK _ _ rfl rB
     ·intro s w hS hb;have e10:s 2=.bool (!neg&&Q):=hS 10 (by decide);simp only [over,ovL,Nat.reduceAdd,Nat.reduceLeDiff,Nat.reduceLT];have HBX:=hD (HB0.out.trans (hb.mono HB0.out.size));rw [e10];clear hS hb e10;go_wp2_with fail;go_ret;have hbwf:=HBX.out;exact ⟨rfl,by first|exact hbwf|(rw [hba] at hbwf;exact hbwf)⟩
    ·have q2:=enc_not_nil a0;have qe2:=enc_some a0;have HG:=hD (fun w=>rGcd_any (encS a) (encS b) w sn2.out sd2.out);simp only [numS_encS] at HG;have HOF:=hD (fun w=>rOf_any 1 w (by decide));simp only [show (1:Int).toNat=1 from rfl] at HOF;obtain ⟨g,hg⟩:∃g,Nat.gcd a b=g:=⟨_,rfl⟩;have hgb:g≤b:=by rw [←hg];exact Nat.gcd_le_right _ (by omega)
     have hgs:(encS g).size≤100000000:=by
      have h1:Sz b 9000000:=by
       have:=Sz.num (encS b);rw [numS_encS] at this;exact this.mono sd2.out
      exact Nat.le_trans (encS_size_lt (h1.le hgb)) (by decide)
     have HCM:=hD (fun w=>rCmp_any (encS g) (encS 1) w hgs (Nat.le_trans (encS_size_lt sz_one) (by decide)));simp only [numS_encS] at HCM;rw [hg] at HG;have HE:Hid ((decide (0<b)&&decide (Nat.gcd a b=1)&&(!neg||decide (0<a)))=decide (g=1)):=hD (by
      simp only [hg];have h1:0<a:=by omega
      have h2:0<b:=by omega
      simp [h1,h2])
     rw [HE.out];clear hg hgb hgs a0 b0;go_enter Tryz.func85,Tryz.ntmps85;go_wp2_with fail;refine (H1.out _).mono ?_;rintro e w1 ⟨rfl,rfl⟩;go_wp2_with fail;refine (H2.out _).mono ?_;rintro e w1 ⟨rfl,rfl⟩;go_wp2_with fail;refine (HG.out _).mono ?_;rintro e w2 ⟨rfl,hb⟩;have HB2:=hD (HB0.out.trans (hb.mono HB0.out.size));clear hb ca0 ca1 ca2 hW1;go_wp2_with fail;refine (HOF.out _).mono ?_;rintro e w3 ⟨rfl,hb⟩;have HB3:=hD (HB2.out.trans (hb.mono HB2.out.size));clear hb;go_wp2_with fail;refine (HCM.out _).mono ?_;rintro e w4 ⟨rfl,rfl⟩
     by_cases hg1:g=1
     ·subst hg1;rw [cmpI_eq];go_wp2_with fail;go_ret;exact ⟨rfl,HB3.out⟩
     ·have hc0:cmpI g 1≠0:=by
       unfold cmpI
       split
       ·decide
       ·split
        ·decide
        ·omega
      obtain ⟨c,hc⟩:∃c,cmpI g 1=c:=⟨_,rfl⟩;rw [hc] at hc0 ⊢;have HD:Hid (decide (g=1)=false):=hD (by simp [hg1]);clear hg1 hc;go_wp2_with fail;go_ret;exact ⟨by rw [HD.out];simp [hc0],HB3.out⟩
  ·have hf:rightN d=false:=by simpa using r2
   have HE:Hid (rightR neg n d=false):=hD (by unfold rightR;simp [hf]);rw [HE.out];rw [hf] at H2;rw [r1] at H1;clear hf r1 r2;go_enter Tryz.func85,Tryz.ntmps85;go_wp2_with fail;refine (H1.out _).mono ?_;rintro e w1 ⟨rfl,rfl⟩;go_wp2_with fail;refine (H2.out _).mono ?_;rintro e w1 ⟨rfl,rfl⟩;go_wp2_with fail;go_ret;exact ⟨rfl,HB0.out⟩
 ·have hf:rightN n=false:=by simpa using r1
  have HE:Hid (rightR neg n d=false):=hD (by unfold rightR;simp [hf]);rw [HE.out];rw [hf] at H1;clear hf r1;go_enter Tryz.func85,Tryz.ntmps85;go_wp2_with fail;refine (H1.out _).mono ?_;rintro e w1 ⟨rfl,rfl⟩;go_wp2_with fail;refine (H2.out _).mono ?_;rintro e w1 ⟨rfl,rfl⟩;go_wp2_with fail;go_ret;exact ⟨rfl,HB0.out⟩
set_option maxRecDepth 100000 in
theorem rvalue_r {va:Value} {ra:Rt} {k:Nat} (ha:IsR va ra k) (hk:k≤9000000) (wq:World) :
  Gv 51 #[va] wq (.agg #[.bool ra.neg,.string (encS ra.num),.string (encS ra.den)]):=by
 unfold Gv;obtain ⟨neg,n,d,rfl,sn,sd,hv⟩:=ha;have HR:=hD (fun w=>rRatRight_any neg n d w (by omega) (by omega));obtain ⟨R,hR⟩:∃R,rightR neg n d=R:=⟨_,rfl⟩;rw [hR] at HR;have HRT:=hD hR;have HV:=hD hv;have HOF:=hD (fun w=>rOf_any 1 w (by decide));simp only [show (1:Int).toNat=1 from rfl] at HOF;clear hR sn sd hv hk;obtain ⟨W3,hW3,hxa,hxz,hb3⟩:=boxes2 wq (.cells #[.bool neg,.string n,.string d] 29) (.cells #[.bool false,.string ⟨#[]⟩,.string ⟨#[]⟩] 29);obtain ⟨⟨ca0,ca1,ca2⟩,-⟩:=rwC hxa;have HXA:=hD hxa;have HXZ:=hD hxz;have HB3:=hD hb3;clear hxa hxz hb3;go_enter Tryz.func51,Tryz.ntmps51;go_wp2_with fail;refine (HR.out _).mono ?_;rintro e w3 ⟨rfl,hb⟩;have HXA:=uH hb HXA;have HXZ:=uH hb HXZ;have HB3:=hD (HB3.out.trans (hb.mono HB3.out.size));clear hb ca0 ca1 ca2 hW3;obtain ⟨⟨cb0,cb1,cb2⟩,-⟩:=rwC HXA.out;obtain ⟨⟨cz0,cz1,cz2⟩,hfz⟩:=rwC HXZ.out;have fz0:=hfz 0;have fz1:=hfz 1;have fz2:=hfz 2
 clear hfz;cases R
 ·clear cb0 cb1 cb2 cz0 cz1 cz2 fz0 fz1 fz2;go_wp2_with fail;refine (HOF.out _).mono ?_;rintro e w4 ⟨rfl,hb⟩;have HXZ:=uH hb HXZ;have HB3:=hD (HB3.out.trans (hb.mono HB3.out.size));clear hb;obtain ⟨⟨cz0,cz1,cz2⟩,hfz⟩:=rwC HXZ.out;have fz0:=hfz 0;have fz1:=hfz 1;have fz2:=hfz 2;clear hfz;go_wp2_with fail;refine bodyPost_ret (results_cell_row rfl _ _ (wq.heap.size+1) 29 _ (0,0) _ rfl (row_set HXZ.out _ _ _) Tryz.underlying29 rfl (by kernel_rfl)) rfl ?_;refine ⟨?_,below_row HB3.out (by omega) _ _ _⟩;have hv:=HV.out;unfold valQ at hv;rw [if_neg (by rw [HRT.out];simp)] at hv;rw [←hv];simp [zeroR,encS_zero]
 ·go_wp2_with fail;refine bodyPost_ret (results_cell_row rfl _ _ (wq.heap.size+1) 29 _ (0,0) _ rfl (row_set HXZ.out _ _ _) Tryz.underlying29 rfl (by kernel_rfl)) rfl ?_;refine ⟨?_,below_row HB3.out (by omega) _ _ _⟩;have h:=ratV_right HRT.out;rw [HV.out] at h;unfold ratV rtV at h;rw [h]
def EWR (ba bb:Nat) (ra rb L:Rt):Nat→Value
 | 0=>.pointer (some ⟨ba,0,none⟩)
 | 1=>.bool ra.neg
 | 2=>.pointer (some ⟨bb,0,none⟩)
 | 3=>.bool rb.neg
 | 4=>.bool (ra.neg != rb.neg)
 | 5=>.pointer (some ⟨ba,1,none⟩)
 | 6=>.string (encS ra.num)
 | 7=>.pointer (some ⟨bb,2,none⟩)
 | 8=>.string (encS rb.den)
 | 9=>.string (encS (ra.num*rb.den))
 | 10=>.pointer (some ⟨ba,2,none⟩)
 | 11=>.string (encS ra.den)
 | 12=>.pointer (some ⟨bb,1,none⟩)
 | 13=>.string (encS rb.num)
 | 14=>.string (encS (ra.den*rb.num))
 | 15=>.agg #[.bool L.neg,.string (encS L.num),.string (encS L.den)]
 | _=>undef
set_option maxRecDepth 100000 in
theorem rRatQuo_r {va vb:Value} {ra rb:Rt} {k:Nat} (ha:IsR va ra k) (hb:IsR vb rb k) (hk1:1≤k) (hk:k≤4000000) (wq:World) :
  Gv 49 #[va,vb] wq (quoV ra rb):=by
 unfold Gv;have HVA:=hD (fun w=>rvalue_r ha (by omega) w);have HVB:=hD (fun w=>rvalue_r hb (by omega) w);have za:=ha.rz hk1;have zb:=hb.rz hk1;have oka:=ha.ok;have okb:=hb.ok;have HN:=hD (fun w=>rMul_any (encS ra.num) (encS rb.den) w (Nat.le_trans (encS_size_lt za.1) (by omega)) (Nat.le_trans (encS_size_lt zb.2) (by omega)));simp only [numS_encS] at HN;have HD:=hD (fun w=>rMul_any (encS ra.den) (encS rb.num) w (Nat.le_trans (encS_size_lt za.2) (by omega)) (Nat.le_trans (encS_size_lt zb.1) (by omega)));simp only [numS_encS] at HD;have HL:=hD (fun (hz:rb.num≠0) w=>rlowest_n (ra.neg != rb.neg) (ra.num*rb.den) (ra.den*rb.num) w (Nat.mul_pos oka.pos (Nat.pos_of_ne_zero hz)) ((za.1.mul zb.2).mono (by omega)) ((za.2.mul zb.1).mono (by omega)));have HE:Hid (quoR ra rb=low (ra.neg != rb.neg) (ra.num*rb.den) (ra.den*rb.num)):=hD rfl;unfold quoV;rw [HE.out]
 obtain ⟨L,hL⟩:∃L,low (ra.neg != rb.neg) (ra.num*rb.den) (ra.den*rb.num)=L:=⟨_,rfl⟩;rw [hL] at HL ⊢;clear hL;obtain ⟨na,sa,da,rfl,-⟩:=ha;obtain ⟨nb,sb,db,rfl,-⟩:=hb;clear za zb hk1 hk oka okb;obtain ⟨W3,hW3,hxa,hxb,hxz,hb3⟩:=boxes3 wq (.cells #[.bool na,.string sa,.string da] 29) (.cells #[.bool nb,.string sb,.string db] 29) (.cells #[.bool false,.string ⟨#[]⟩,.string ⟨#[]⟩] 29);obtain ⟨⟨ca0,ca1,ca2⟩,-⟩:=rwC hxa;go_enter Tryz.func49,Tryz.ntmps49;go_wp2_with fail;obtain ⟨ba,hba⟩:∃b,wq.heap.size=b:=⟨_,rfl⟩;obtain ⟨bb,hbb⟩:∃b,ba+1=b:=⟨_,rfl⟩;obtain ⟨bz,hbz⟩:∃b,bb+1=b:=⟨_,rfl⟩;rw [hba] at hxa hxb hxz ⊢;rw [hbb] at hxb hxz ⊢;rw [hbz] at hxz ⊢;have HNE:Hid (ba≠bb):=hD (by omega);have HNZA:Hid (bz≠ba):=hD (by omega);have HNZB:Hid (bz≠bb):=hD (by omega);refine (HVA.out _).mono ?_;rintro e w1 ⟨rfl,hb⟩;have hxa1:=hpU hb hxa;have hxb1:=hpU hb hxb;have hxz1:=hpU hb hxz
 have hbl1:=hb3.trans (hb.mono hb3.size);clear hb hb3 hxa hxb hxz ca0 ca1 ca2 hW3;obtain ⟨⟨ca0,ca1,ca2⟩,hfa⟩:=rwC hxa1;have fa0:=hfa 0;have fa1:=hfa 1;have fa2:=hfa 2;obtain ⟨W4,hW4⟩:∃W4,((w1.setCell ⟨ba,0,none⟩ (.bool ra.neg)).setCell ⟨ba,1,none⟩ (.string (encS ra.num))).setCell ⟨ba,2,none⟩ (.string (encS ra.den))=W4:=⟨_,rfl⟩;have hxa4:W4.heap[ba]? =some (.cells #[.bool ra.neg,.string (encS ra.num),.string (encS ra.den)] 29 (0,0)):=by rw [←hW4];exact row_set hxa1 _ _ _
 have hxb4:W4.heap[bb]? =some (.cells #[.bool nb,.string sb,.string db] 29 (0,0)):=by rw [←hW4];simpa [World.setCell,Array.getElem?_modify,HNE.out] using hxb1
 have hxz4:W4.heap[bz]? =some (.cells #[.bool false,.string ⟨#[]⟩,.string ⟨#[]⟩] 29 (0,0)):=by rw [←hW4];simpa [World.setCell,Array.getElem?_modify,Ne.symm HNZA.out] using hxz1
 have hbl4:Below wq.heap.size wq W4:=by rw [←hW4];exact below_row hbl1 (by omega) _ _ _
 obtain ⟨⟨cb0,cb1,cb2⟩,-⟩:=rwC hxb4;have HXA:=hD hxa4;have HXB:=hD hxb4;have HXZ:=hD hxz4;have HB4:=hD hbl4;clear hfa hxa1 hxb1 hxz1 hbl1 hxa4 hxb4 hxz4 hbl4;go_wp2_with fail;refine (HVB.out _).mono ?_;rintro e w2 ⟨rfl,hb⟩;have hxa1:=hpU hb HXA.out;have hxb1:=hpU hb HXB.out;have hxz1:=hpU hb HXZ.out;have hbl1:=HB4.out.trans (hb.mono HB4.out.size);clear hb cb0 cb1 cb2 ca0 ca1 ca2 fa0 fa1 fa2 hW4;obtain ⟨⟨cb0,cb1,cb2⟩,hfb⟩:=rwC hxb1;have fb0:=hfb 0;have fb1:=hfb 1;have fb2:=hfb 2;obtain ⟨W5,hW5⟩:∃W5,((w2.setCell ⟨bb,0,none⟩ (.bool rb.neg)).setCell ⟨bb,1,none⟩ (.string (encS rb.num))).setCell ⟨bb,2,none⟩ (.string (encS rb.den))=W5:=⟨_,rfl⟩;have hxb5:W5.heap[bb]? =some (.cells #[.bool rb.neg,.string (encS rb.num),.string (encS rb.den)] 29 (0,0)):=by rw [←hW5];exact row_set hxb1 _ _ _
 have hxa5:W5.heap[ba]? =some (.cells #[.bool ra.neg,.string (encS ra.num),.string (encS ra.den)] 29 (0,0)):=by rw [←hW5];simpa [World.setCell,Array.getElem?_modify,Ne.symm HNE.out] using hxa1
 have hxz5:W5.heap[bz]? =some (.cells #[.bool false,.string ⟨#[]⟩,.string ⟨#[]⟩] 29 (0,0)):=by rw [←hW5];simpa [World.setCell,Array.getElem?_modify,Ne.symm HNZB.out] using hxz1
 have HB5:Hid (Below wq.heap.size wq W5):=hD (by rw [←hW5];exact below_row hbl1 (by omega) _ _ _);have HXA:=hD hxa5;have HXB:=hD hxb5;have HXZ:=hD hxz5;clear hfb hxa1 hxb1 hxz1 hbl1 hxa5 hxz5;obtain ⟨⟨cd0,cd1,cd2⟩,-⟩:=rwC hxb5;clear hxb5
 by_cases hz:rb.num=0
 ·have hem:(encS rb.num).toList.isEmpty=true:=by rw [enc_empty];simp [hz]
  have hem2:(encS rb.num).toList=[]:=List.isEmpty_iff.1 hem;have HZ:=hD hz;obtain ⟨⟨cz0,cz1,cz2⟩,hfz⟩:=rwC HXZ.out;have fz0:=hfz 0;have fz1:=hfz 1;have fz2:=hfz 2;have HROW:=hD (row_set HXZ.out (.bool false) (.string ⟨#[]⟩) (.string ⟨#[]⟩));have HBW:=hD (below_row HB5.out (b:=bz) (by omega) (.bool false) (.string ⟨#[]⟩) (.string ⟨#[]⟩));clear hfz;rw [hz] at hem hem2 hW5 cd1 ⊢;clear hz;go_wp2_with fail;have hbwf:=HBW.out;rw [hba] at hbwf;refine bodyPost_ret (rC2 HROW.out) rfl ?_
  first|exact ⟨rfl,HBW.out⟩|exact ⟨rfl,hbwf⟩|exact ⟨by rw [if_pos HZ.out];rfl,HBW.out⟩
 ·have HNZ:=hD hz;have hem:(encS rb.num).toList.isEmpty=false:=enc_some hz;have hem2:¬(encS rb.num).toList=[]:=fun h=>by rw [h] at hem;cases hem
  clear hz;go_wp2_with fail;clear cb0 cb1 cb2 fb0 fb1 fb2 hW5 cd0 cd1 cd2 hem hem2;refine wpTl (w:=W5) (by kernel_rfl) (fun ix v _=>v=EWR ba bb ra rb L ix) 16 (fun t=>(decide (14≤t)&&decide (t<30))) (by decide) (by kernel_rfl) (by kernel_rfl) (by kernel_rfl) (by kernel_rfl) (by kernel_rfl) (fun _ _ _ _ _ h=>h) ?_ ?_
  ·intro i hi o listed a w hR K hK;have ho:=hR.at_;have hi:i<16:=hi;have hii:i=0∨i=1∨i=2∨i=3∨i=4∨i=5∨i=6∨i=7∨i=8∨i=9∨i=10∨i=11∨i=12∨i=13∨i=14∨i=15:=by omega
   rcases hii with rfl|rfl|rfl|rfl|rfl|rfl|rfl|rfl|rfl|rfl|rfl|rfl|rfl|rfl|rfl|rfl
   ·simp at ho;subst ho;have b2:a.tmps.getD 2 undef=.pointer (some ⟨ba,0,none⟩):=hR.b 2;refine pSq ?_;go_simp;exact hK _ _ rfl rB
   ·simp at ho;subst ho;have e0:a.tmps.getD 14 undef=.pointer (some ⟨ba,0,none⟩):=hR.t 0;obtain ⟨⟨cx0,cx1,cx2⟩,-⟩:=rwC (hpU hR.below HXA.out);refine pSq ?_;go_simp;exact hK _ _ rfl rB
   ·simp at ho;subst ho;have b3:a.tmps.getD 3 undef=.pointer (some ⟨bb,0,none⟩):=hR.b 3;refine pSq ?_;go_simp;exact hK _ _ rfl rB
   ·simp at ho;subst ho;have e2:a.tmps.getD 16 undef=.pointer (some ⟨bb,0,none⟩):=hR.t 2;obtain ⟨⟨cx0,cx1,cx2⟩,-⟩:=rwC (hpU hR.below HXB.out);refine pSq ?_;go_simp;exact hK _ _ rfl rB
   ·simp at ho;subst ho;have e1:a.tmps.getD 15 undef=.bool ra.neg:=hR.t 1;have e3:a.tmps.getD 17 undef=.bool rb.neg:=hR.t 3;refine pSq ?_;go_simp;exact hK _ _ rfl rB
   ·simp at ho;subst ho;have b2:a.tmps.getD 2 undef=.pointer (some ⟨ba,0,none⟩):=hR.b 2;refine pSq ?_;go_simp;exact hK _ _ rfl rB
   ·simp at ho;subst ho;have e5:a.tmps.getD 19 undef=.pointer (some ⟨ba,1,none⟩):=hR.t 5;obtain ⟨⟨cx0,cx1,cx2⟩,-⟩:=rwC (hpU hR.below HXA.out);refine pSq ?_;go_simp;exact hK _ _ rfl rB
   ·simp at ho;subst ho;have b3:a.tmps.getD 3 undef=.pointer (some ⟨bb,0,none⟩):=hR.b 3;refine pSq ?_;go_simp;exact hK _ _ rfl rB
   ·simp at ho;subst ho;have e7:a.tmps.getD 21 undef=.pointer (some ⟨bb,2,none⟩):=hR.t 7;obtain ⟨⟨cx0,cx1,cx2⟩,-⟩:=rwC (hpU hR.below HXB.out);refine pSq ?_;go_simp;exact hK _ _ rfl rB
   ·simp at ho;subst ho;have e6:a.tmps.getD 20 undef=.string (encS ra.num):=hR.t 6;have e8:a.tmps.getD 22 undef=.string (encS rb.den):=hR.t 8;refine pSq ?_;go_simp;refine (HN.out w).mono ?_;rintro e w' ⟨rfl,hb⟩;exact hK _ _ (rfl) hb
   ·simp at ho;subst ho;have b2:a.tmps.getD 2 undef=.pointer (some ⟨ba,0,none⟩):=hR.b 2;refine pSq ?_;go_simp;exact hK _ _ rfl rB
   ·simp at ho;subst ho;have e10:a.tmps.getD 24 undef=.pointer (some ⟨ba,2,none⟩):=hR.t 10;obtain ⟨⟨cx0,cx1,cx2⟩,-⟩:=rwC (hpU hR.below HXA.out);refine pSq ?_;go_simp;exact hK _ _ rfl rB
   ·simp at ho;subst ho;have b3:a.tmps.getD 3 undef=.pointer (some ⟨bb,0,none⟩):=hR.b 3;refine pSq ?_;go_simp;exact hK _ _ rfl rB
   ·simp at ho;subst ho;have e12:a.tmps.getD 26 undef=.pointer (some ⟨bb,1,none⟩):=hR.t 12;obtain ⟨⟨cx0,cx1,cx2⟩,-⟩:=rwC (hpU hR.below HXB.out);refine pSq ?_;go_simp;exact hK _ _ rfl rB
   ·simp at ho;subst ho;have e11:a.tmps.getD 25 undef=.string (encS ra.den):=hR.t 11;have e13:a.tmps.getD 27 undef=.string (encS rb.num):=hR.t 13;refine pSq ?_;go_simp;refine (HD.out w).mono ?_;rintro e w' ⟨rfl,hb⟩;exact hK _ _ (rfl) hb
   ·simp at ho;subst ho;have e4:a.tmps.getD 18 undef=.bool (ra.neg != rb.neg):=hR.t 4;have e9:a.tmps.getD 23 undef=.string (encS (ra.num*rb.den)):=hR.t 9;have e14:a.tmps.getD 28 undef=.string (encS (ra.den*rb.num)):=hR.t 14;refine pSq ?_;go_simp;refine (HL.out HNZ.out w).mono ?_;rintro e w' ⟨rfl,hb⟩;exact hK _ _ (rfl) hb
  ·intro s w hS hb;have e15:s 29=.agg #[.bool L.neg,.string (encS L.num),.string (encS L.den)]:=hS 15 (by decide);simp only [over,ovL,Nat.reduceAdd,Nat.reduceLeDiff,Nat.reduceLT];obtain ⟨⟨cz0,cz1,cz2⟩,hfz⟩:=rwC (hpU hb HXZ.out);have fz0:=hfz 0;have fz1:=hfz 1;have fz2:=hfz 2;refine tail_step (n:=1) rfl rfl ?_;go_simp;refine tail_step (n:=0) rfl rfl ?_;go_simp;simp only [wpTail];have hrow:=row_set (hpU hb HXZ.out) (.bool L.neg) (.string (encS L.num)) (.string (encS L.den));have hbw:=below_row (HB5.out.trans (hb.mono HB5.out.size)) (b:=bz) (by omega) (.bool L.neg) (.string (encS L.num)) (.string (encS L.den));have HROW:=hD hrow;have HBW:=hD hbw;clear hrow hbw hS hb cz0 cz1 cz2 hfz fz0 fz1 fz2;go_wp2_with fail;have hbwf:=HBW.out;rw [hba] at hbwf;refine bodyPost_ret (rC2 HROW.out) rfl ?_
   first|exact ⟨rfl,HBW.out⟩|exact ⟨rfl,hbwf⟩|exact ⟨by rw [if_neg HNZ.out];rfl,HBW.out⟩
theorem mod_lt (a m:Int) (x:Nat) (hx:(a%m).toNat=x) (hm:0<m):(x:Int)<m:=by
 have h4:=Int.emod_lt_of_pos a hm;have h3:=Int.emod_nonneg a (show m≠0 by omega);omega
structure Rw where
 neg:Bool
 n:ByteArray
 d:ByteArray
def Rw.val (r:Rw):Rt:=valQ r.neg r.n r.d
def Rw.right (r:Rw):Bool:=rightR r.neg r.n r.d
def rawR (a:Rt):Rw:=⟨a.neg,encS a.num,encS a.den⟩
theorem rawR_val {a:Rt} (h:a.Ok):(rawR a).val=a:=valQ_of h
theorem rawR_right {a:Rt} (h:a.Ok):(rawR a).right=true:=rightR_of h
theorem Rw.isR {r:Rw} {k:Nat} (h:r.n.size≤k∧r.d.size≤k):IsR (.agg #[.bool r.neg,.string r.n,.string r.d]) r.val k:=⟨_,_,_,rfl,h.1,h.2,rfl⟩
theorem rawR_sz {a:Rt} {k:Nat} (h:Rz a k):(rawR a).n.size≤k∧(rawR a).d.size≤k:=⟨encS_size_lt h.1,encS_size_lt h.2⟩
def LstR (W:World) (v:Value) (l:List Rw):Prop :=
 (v=.slice none 0 0∧l=[])∨∃g off cap,v=.slice (some ⟨g,off,none⟩) l.length cap∧g<W.heap.size∧l.length≤1000 ∧
  ∀i (h:i<l.length),W.cell? ⟨g,off+i*3,none⟩=some (.bool l[i].neg)∧W.cell? ⟨g,off+i*3+1,none⟩=some (.string l[i].n)∧W.cell? ⟨g,off+i*3+2,none⟩=some (.string l[i].d)
def LstN (W:World) (v:Value) (l:List Nat):Prop :=
 (v=.slice none 0 0∧l=[])∨∃g off cap,v=.slice (some ⟨g,off,none⟩) l.length cap∧g<W.heap.size∧l.length≤1000 ∧
  ∀i (h:i<l.length),W.cell? ⟨g,off+i,none⟩=some (.string (encS l[i]))
theorem LstR.up {A W:World} {v:Value} {l:List Rw} (h:LstR A v l) (hb:Below A.heap.size A W):LstR W v l:=by
 rcases h with h|⟨g,off,cap,h1,h2,h3,h4⟩
 ·exact .inl h
 ·refine .inr ⟨g,off,cap,h1,Nat.lt_of_lt_of_le h2 hb.size,h3,fun i hi=> ?_⟩;rw [clU hb h2,clU hb h2,clU hb h2];exact h4 i hi
theorem LstN.up {A W:World} {v:Value} {l:List Nat} (h:LstN A v l) (hb:Below A.heap.size A W):LstN W v l:=by
 rcases h with h|⟨g,off,cap,h1,h2,h3,h4⟩
 ·exact .inl h
 ·refine .inr ⟨g,off,cap,h1,Nat.lt_of_lt_of_le h2 hb.size,h3,fun i hi=> ?_⟩;rw [clU hb h2];exact h4 i hi
theorem LstR.open {W:World} {v:Value} {l:List Rw} (h:LstR W v l):∃p cap,v=.slice p l.length cap∧l.length≤1000∧∀i (h:i<l.length),∃g off,p=some ⟨g,off,none⟩∧g<W.heap.size ∧
  W.cell? ⟨g,off+i*3,none⟩=some (.bool l[i].neg)∧W.cell? ⟨g,off+i*3+1,none⟩=some (.string l[i].n)∧W.cell? ⟨g,off+i*3+2,none⟩=some (.string l[i].d):=by
 rcases h with ⟨rfl,rfl⟩|⟨g,off,cap,h1,h2,h3,h4⟩
 ·exact ⟨none,0,rfl,by simp,fun i h=>absurd h (by simp)⟩
 ·exact ⟨some ⟨g,off,none⟩,cap,h1,h3,fun i hi=>⟨g,off,rfl,h2,h4 i hi⟩⟩
theorem LstN.open {W:World} {v:Value} {l:List Nat} (h:LstN W v l):∃p cap,v=.slice p l.length cap∧l.length≤1000∧∀i (h:i<l.length),∃g off,p=some ⟨g,off,none⟩∧g<W.heap.size ∧
  W.cell? ⟨g,off+i,none⟩=some (.string (encS l[i])):=by
 rcases h with ⟨rfl,rfl⟩|⟨g,off,cap,h1,h2,h3,h4⟩
 ·exact ⟨none,0,rfl,by simp,fun i h=>absurd h (by simp)⟩
 ·exact ⟨some ⟨g,off,none⟩,cap,h1,h3,fun i hi=>⟨g,off,rfl,h2,h4 i hi⟩⟩
structure Bk where
 fr:Rw
 rt:Rw
def zrow:Rw:=⟨false,⟨#[]⟩,⟨#[]⟩⟩
def fitT (a:Rt):Bool:=decide (bitsN a.num≤400)&&decide (bitsN a.den≤400)
def fitsR (r:Rw):Bool:=r.right&&decide (bitsN (numS r.n)≤400)&&decide (bitsN (numS r.d)≤400)
theorem bits_lt {n k:Nat} (h:n<2^k):bitsN n≤k:=digs_len_le (by decide) h
theorem bits_szk {n k:Nat} (h:bitsN n≤8*k):Sz n k:=by
 unfold Sz;have h2:n<2^(8*k):=Nat.lt_of_lt_of_le (digs_lt (B:=2) (by decide) n) (Nat.pow_le_pow_right (by decide) h)
 rwa [Nat.pow_mul] at h2
theorem bits_sz {n:Nat} (h:bitsN n≤400):Sz n 50:=bits_szk h
theorem fitT_sz {a:Rt} (h:fitT a=true):Rz a 50:=by
 unfold fitT at h;simp only [Bool.and_eq_true,decide_eq_true_eq] at h;exact ⟨bits_sz h.1,bits_sz h.2⟩
theorem fitsR_raw {a:Rt} (h:a.Ok):fitsR (rawR a)=fitT a:=by
 unfold fitsR fitT;rw [rawR_right h];show (true&&decide (bitsN (numS (encS a.num))≤400)&&decide (bitsN (numS (encS a.den))≤400))=_;rw [numS_encS,numS_encS,Bool.true_and]
theorem val_raw {r:Rw} (h:r.right=true):rawR r.val=r:=by
 obtain ⟨n,s,d⟩:=r;have h1:rightR n s d=true:=h;have e:=(rightR_iff.1 h1);unfold rawR Rw.val valQ;simp only [h1,if_true,rightN_eq e.1,rightN_eq e.2.1]
theorem Rw.val_ok (r:Rw):r.val.Ok:=valQ_ok _ _ _
theorem fits_right {r:Rw} (h:fitsR r=true):r.right=true:=by
 unfold fitsR at h;simp only [Bool.and_eq_true] at h;exact h.1.1
theorem fits_val {r:Rw} (h:fitsR r=true):fitT r.val=true:=by
 rw [←fitsR_raw r.val_ok,val_raw (fits_right h)];exact h
def ltB:Option Bk→Bk→Bool
 | some a,b=>decide (cmpR a.fr.val b.fr.val<0)
 | none,_=>true
def okAt (l:List Bk) (k:Nat):Bool :=
 match l[k]? with
 | none=>true
 | some b=>b.fr.right&&b.rt.right&&(if k=0 then decide (sgnR b.fr.val=0) else ltB l[k-1]? b)
def formB (l:List Bk):Bool:=(List.range l.length).all (okAt l)
def rangeB (l:List Bk):Bool:=l.all fun b=>fitsR b.fr&&fitsR b.rt
def ckB (l:List Bk):Int:=if 8<l.length then 2 else if l.length=0 then 11 else if formB l=true then (if rangeB l=true then 0 else 3) else 11
theorem form_iff {l:List Bk}:formB l=true↔∀k,k<l.length→okAt l k=true:=by
 unfold formB;rw [List.all_eq_true];simp
theorem okAt_0 {l:List Bk} (h:0<l.length):okAt l 0=(l[0].fr.right&&l[0].rt.right&&decide (sgnR l[0].fr.val=0)):=by
 unfold okAt;rw [List.getElem?_eq_getElem h];rfl
theorem okAt_s {l:List Bk} {k:Nat} (h:k+1<l.length):okAt l (k+1)=(l[k+1].fr.right&&l[k+1].rt.right&&decide (cmpR l[k].fr.val l[k+1].fr.val<0)):=by
 unfold okAt;rw [List.getElem?_eq_getElem h];simp only [Nat.add_one_sub_one,List.getElem?_eq_getElem (show k<l.length by omega),Nat.add_one_ne_zero,if_false,ltB]
theorem okAt_eq {l:List Bk} {k:Nat} (h:k<l.length):okAt l k=(l[k].fr.right&&l[k].rt.right&&(if k=0 then decide (sgnR l[k].fr.val=0) else ltB l[k-1]? l[k])):=by
 unfold okAt;rw [List.getElem?_eq_getElem h]
abbrev BT:=Rt × Rt
def frT (m:List BT) (k:Nat):Rt:=match m[k]? with|some b=>b.1|none=>zeroR
def rtT (m:List BT) (k:Nat):Rt:=match m[k]? with|some b=>b.2|none=>zeroR
def rawB (b:BT):Bk:=⟨rawR b.1,rawR b.2⟩
def valsB (l:List Bk):List BT:=l.map fun b=>(b.fr.val,b.rt.val)
theorem frT_at {m:List BT} {k:Nat} (h:k<m.length):frT m k=m[k].1:=by unfold frT;rw [List.getElem?_eq_getElem h]
theorem rtT_at {m:List BT} {k:Nat} (h:k<m.length):rtT m k=m[k].2:=by unfold rtT;rw [List.getElem?_eq_getElem h]
def frQ (m:List BT) (k:Nat):Rat:=(frT m k).q
def rtQ (m:List BT) (k:Nat):Rat:=(rtT m k).q
structure Sch (m:List BT):Prop where
 pos:0<m.length
 le:m.length≤8
 ok:∀b ∈ m,b.1.Ok∧b.2.Ok
 fit:∀b ∈ m,fitT b.1=true∧fitT b.2=true
 zero:frT m 0=zeroR
 inc:Inc (frQ m) m.length
section
variable {m:List BT}
theorem Sch.frOk (h:Sch m) (k:Nat):(frT m k).Ok:=by
 unfold frT;split
 ·rename_i b hb;exact (h.ok b (List.mem_of_getElem? hb)).1
 ·exact zeroR_ok
theorem Sch.rtOk (h:Sch m) (k:Nat):(rtT m k).Ok:=by
 unfold rtT;split
 ·rename_i b hb;exact (h.ok b (List.mem_of_getElem? hb)).2
 ·exact zeroR_ok
theorem Sch.frSz (h:Sch m) (k:Nat):Rz (frT m k) 50:=by
 unfold frT;split
 ·rename_i b hb;exact fitT_sz (h.fit b (List.mem_of_getElem? hb)).1
 ·exact zeroR_sz.mono (by decide)
theorem Sch.rtSz (h:Sch m) (k:Nat):Rz (rtT m k) 50:=by
 unfold rtT;split
 ·rename_i b hb;exact fitT_sz (h.fit b (List.mem_of_getElem? hb)).2
 ·exact zeroR_sz.mono (by decide)
end
theorem ck_right {l:List Bk} (h:ckB l=0):Sch (valsB l)∧l=(valsB l).map rawB:=by
 unfold ckB at h
 split at h
 ·cases h
 split at h
 ·cases h
 split at h
 case isFalse=>cases h
 split at h
 case isFalse=>cases h
 rename_i h8 h0 hf hr
 have hf:=form_iff.1 hf;have hr:∀b ∈ l,fitsR b.fr=true∧fitsR b.rt=true:=by
  intro b hb;have:=List.all_eq_true.1 hr b hb;simpa [Bool.and_eq_true] using this
 have hlen:(valsB l).length=l.length:=by unfold valsB;rw [List.length_map]
 have hat:∀k (hk:k<l.length),frT (valsB l) k=l[k].fr.val:=fun k hk=>by
  rw [frT_at (by omega)];unfold valsB;rw [List.getElem_map]
 have hraw:(valsB l).map rawB=l:=by
  unfold valsB;rw [List.map_map]
  conv=>rhs;rw [←List.map_id l]
  refine List.map_congr_left fun b hb=> ?_
  show (⟨rawR b.fr.val,rawR b.rt.val⟩:Bk)=b;rw [val_raw (fits_right (hr b hb).1),val_raw (fits_right (hr b hb).2)]
 refine ⟨⟨by omega,by omega,?_,?_,?_,?_⟩,hraw.symm⟩
 ·intro b hb;unfold valsB at hb;obtain ⟨x,hx,rfl⟩:=List.mem_map.1 hb;exact ⟨x.fr.val_ok,x.rt.val_ok⟩
 ·intro b hb;unfold valsB at hb;obtain ⟨x,hx,rfl⟩:=List.mem_map.1 hb;exact ⟨fits_val (hr x hx).1,fits_val (hr x hx).2⟩
 ·rw [hat 0 (by omega)];have:=hf 0 (by omega);rw [okAt_0 (by omega)] at this;simp only [Bool.and_eq_true,decide_eq_true_eq] at this;have h2:=this.2;unfold sgnR at h2
  split at h2
  ·rename_i h3;exact (l[0].fr.val_ok).zero h3
  ·split at h2<;>cases h2
 ·intro k hk;rw [hlen] at hk;have:=hf (k+1) hk;rw [okAt_s hk] at this;simp only [Bool.and_eq_true,decide_eq_true_eq] at this;have h2:=this.2;rw [cmpR_q (Rw.val_ok _) (Rw.val_ok _),sgQ_lt0] at h2;unfold frQ;rw [hat k (by omega),hat (k+1) hk];grind
theorem ck_of {m:List BT} (h:Sch m):ckB (m.map rawB)=0:=by
 have hlen:(m.map rawB).length=m.length:=List.length_map _;have hp:=h.pos;have hl:=h.le;have hval:∀k (hk:k<m.length),((m.map rawB)[k]'(by omega)).fr.val=frT m k∧((m.map rawB)[k]'(by omega)).fr.right=true∧((m.map rawB)[k]'(by omega)).rt.right=true:=fun k hk=>by
  rw [List.getElem_map,frT_at hk];have:=h.ok _ (List.getElem_mem hk);exact ⟨rawR_val this.1,rawR_right this.1,rawR_right this.2⟩
 unfold ckB;rw [if_neg (by omega),if_neg (by omega),if_pos,if_pos]
 ·unfold rangeB;rw [List.all_eq_true];intro b hb;obtain ⟨x,hx,rfl⟩:=List.mem_map.1 hb;have h1:=h.ok x hx;have h2:=h.fit x hx;show (fitsR (rawR x.1)&&fitsR (rawR x.2))=true;rw [fitsR_raw h1.1,fitsR_raw h1.2,h2.1,h2.2];rfl
 ·rw [form_iff];intro k hk;rw [hlen] at hk;cases k with
  | zero =>
   rw [okAt_0 (by omega)];obtain ⟨a1,a2,a3⟩:=hval 0 hk;rw [a1,a2,a3,h.zero];rfl
  | succ k =>
   rw [okAt_s (by omega)];obtain ⟨a1,a2,a3⟩:=hval (k+1) hk;obtain ⟨b1,-,-⟩:=hval k (by omega);rw [a1,a2,a3,b1];have:=h.inc k hk;rw [decide_eq_true];rfl;rw [cmpR_q (h.frOk _) (h.frOk _),sgQ_lt0];unfold frQ at this;grind
theorem valsB_raw {m:List BT} (h:Sch m):valsB (m.map rawB)=m:=by
 unfold valsB;rw [List.map_map]
 conv=>rhs;rw [←List.map_id m]
 refine List.map_congr_left fun b hb=> ?_
 have:=h.ok b hb;show (((rawR b.1).val,(rawR b.2).val):BT)=b;rw [rawR_val this.1,rawR_val this.2]
def endT (m:List BT) (k:Nat) (x:Rt):Rt:=if k+1<m.length∧cmpR (frT m (k+1)) x<0 then frT m (k+1) else x
def partT (m:List BT) (k:Nat) (x:Rt):Rt:=if sgnR (subR (endT m k x) (frT m k))<0 then ofR 0 else subR (endT m k x) (frT m k)
def valT (m:List BT) (x:Rt):Nat→Rt
 | 0=>ofR 0
 | j+1=>addR (valT m x j) (mulR (rtT m j) (partT m j x))
def begT (m:List BT):Nat→Rt
 | 0=>ofR 0
 | j+1=>addR (begT m j) (mulR (subR (frT m (j+1)) (frT m j)) (rtT m j))
def cntT (m:List BT) (x:Rt):Nat:=cntF (frQ m) x.q m.length
def atT (m:List BT) (x:Rt):Rt:=if cntT m x=0 then ofR 0 else addR (begT m (cntT m x-1)) (mulR (rtT m (cntT m x-1)) (subR x (frT m (cntT m x-1))))
def margT (m:List BT) (x:Rt):Rt:=if cntT m x=0 then ofR 0 else rtT m (cntT m x-1)
section
variable {m:List BT} {x:Rt}
theorem end_ok (h:Sch m) (hx:x.Ok) (k:Nat):(endT m k x).Ok:=by unfold endT;split;exact h.frOk _;exact hx
theorem q_end (h:Sch m) (hx:x.Ok) (k:Nat):(endT m k x).q=endQ (frQ m) m.length k x.q:=by
 unfold endQ endT;have:(k+1<m.length∧cmpR (frT m (k+1)) x<0)↔(k+1<m.length∧frQ m (k+1)<x.q):=by
  rw [cmpR_q (h.frOk _) hx,sgQ_lt0];unfold frQ;grind
 by_cases hc:k+1<m.length∧frQ m (k+1)<x.q
 ·rw [if_pos hc,if_pos (this.2 hc)];rfl
 ·rw [if_neg hc,if_neg (fun hh=>hc (this.1 hh))]
theorem part_ok (h:Sch m) (hx:x.Ok) (k:Nat):(partT m k x).Ok:=by
 unfold partT
 split
 ·exact ofR_ok 0
 ·exact subR_ok (end_ok h hx k) (h.frOk _)
theorem q_part (h:Sch m) (hx:x.Ok) (k:Nat):(partT m k x).q=partQ (frQ m) m.length k x.q:=by
 have he:=end_ok h hx k;have hq:=q_sub he (h.frOk k);rw [q_end h hx] at hq;have hs:=sgnR_q (subR_ok he (h.frOk k));rw [hq] at hs;unfold partT partQ posQ
 by_cases hc:endQ (frQ m) m.length k x.q-frQ m k<0
 ·rw [if_pos hc,if_pos (by rw [hs,sgQ_lt0];exact hc),q_of];rfl
 ·rw [if_neg hc,if_neg (by rw [hs,sgQ_lt0];exact hc),hq];rfl
theorem val_ok (h:Sch m) (hx:x.Ok):∀j,(valT m x j).Ok
 | 0=>ofR_ok 0
 | j+1=>addR_ok (val_ok h hx j) (mulR_ok (h.rtOk j) (part_ok h hx j))
theorem q_valT (h:Sch m) (hx:x.Ok):∀j,(valT m x j).q=sumF (fun k=>rtQ m k*partQ (frQ m) m.length k x.q) j
 | 0=>by rw [sumF_0];show (ofR 0).q=0;rw [q_of];rfl
 | j+1=>by
  rw [sumF_s, ←q_valT h hx j];show (addR _ _).q=_;rw [q_add (val_ok h hx j) (mulR_ok (h.rtOk j) (part_ok h hx j)),q_mul (h.rtOk j) (part_ok h hx j),q_part h hx];rfl
theorem q_val (h:Sch m) (hx:x.Ok):(valT m x m.length).q=valF (frQ m) (rtQ m) m.length x.q:=q_valT h hx _
theorem beg_ok (h:Sch m):∀j,(begT m j).Ok
 | 0=>ofR_ok 0
 | j+1=>addR_ok (beg_ok h j) (mulR_ok (subR_ok (h.frOk _) (h.frOk _)) (h.rtOk j))
theorem q_beg (h:Sch m):∀j,(begT m j).q=begF (frQ m) (rtQ m) j
 | 0=>by show (ofR 0).q=sumF _ 0;rw [q_of,sumF_0];rfl
 | j+1=>by
  show (addR _ _).q=sumF _ (j+1);rw [sumF_s,q_add (beg_ok h j) (mulR_ok (subR_ok (h.frOk _) (h.frOk _)) (h.rtOk j)),q_mul (subR_ok (h.frOk _) (h.frOk _)) (h.rtOk j),q_sub (h.frOk _) (h.frOk _),q_beg h j];rfl
theorem cnt_leT:cntT m x≤m.length:=cnt_le
theorem at_ok (h:Sch m) (hx:x.Ok):(atT m x).Ok:=by
 unfold atT;split
 ·exact ofR_ok 0
 ·exact addR_ok (beg_ok h _) (mulR_ok (h.rtOk _) (subR_ok hx (h.frOk _)))
theorem at_eq (h:Sch m) (hx:x.Ok):atT m x=valT m x m.length:=by
 refine q_inj (at_ok h hx) (val_ok h hx _) ?_;rw [q_val h hx];unfold atT
 split
 ·rename_i h0;rw [q_of,val_cnt0 h.inc h0];rfl
 ·rename_i h0
  rw [q_add (beg_ok h _) (mulR_ok (h.rtOk _) (subR_ok hx (h.frOk _))),q_mul (h.rtOk _) (subR_ok hx (h.frOk _)),q_sub hx (h.frOk _),q_beg h];have:=val_cnt (R:=rtQ m) h.inc (x:=x.q) (by unfold cntT at h0;omega);rw [this];rfl
theorem beg_sz (h:Sch m):∀j,Rz (begT m j) (8+152*j)
 | 0=>(ofR_sz (n:=0) (by decide) (by decide)).mono (by decide)
 | j+1=>(addR_sz (beg_sz h j) (mulR_sz (subR_sz (h.frSz (j+1)) (h.frSz j)) (h.rtSz j))).mono (by omega)
end
def atV (l:List Bk) (x:Rw):Rw × Int :=
 if ckB l=0 then (if x.right=true then (if fitsR x=true then (if fitT (valT (valsB l) x.val l.length)=true then (rawR (valT (valsB l) x.val l.length),0) else (zrow,3)) else (zrow,3)) else (zrow,1)) else (zrow,ckB l)
def admV (l:List Bk) (x:Rw):Int:=if ckB l=0 then (if x.right=true then (if fitsR x=true then 0 else 3) else 1) else ckB l
def margV (l:List Bk) (x:Rw):Rw × Int:=if admV l x=0 then (rawR (margT (valsB l) x.val),0) else (zrow,admV l x)
theorem atV_adm {l:List Bk} {x:Rw}:atV l x=if admV l x=0 then (if fitT (valT (valsB l) x.val l.length)=true then (rawR (valT (valsB l) x.val l.length),0) else (zrow,3)) else (zrow,admV l x):=by
 unfold atV admV
 split
 ·split
  ·split<;>simp
  ·simp
 ·simp
theorem adm_ok {l:List Bk} {x:Rw} (h:admV l x=0):Sch (valsB l)∧l=(valsB l).map rawB∧x.val.Ok∧fitT x.val=true∧x=rawR x.val:=by
 unfold admV at h
 split at h
 ·rename_i hc
  split at h
  ·rename_i hr
   split at h
   ·rename_i hf
    obtain ⟨h1,h2⟩:=ck_right hc;exact ⟨h1,h2,x.val_ok,fits_val hf,(val_raw hr).symm⟩
   ·cases h
  ·cases h
 ·rename_i hc;exact absurd h hc
end Go.Proofs.YtblgfmjlajhipaaGreatDoor
