/- Contracts that the proofs of this seat share. Each theorem names its conditions. -/

import Derived.Test.YtabfjecegpaoaaaGreatDoorZb4
import Derived.Test.YtabfjecegpaoaaaGreatDoorZa9
set_option maxHeartbeats 16000000
set_option linter.unusedVariables false
namespace Go.Proofs.YtabfjecegpaoaaaGreatDoor
open Go.RowKit Go.Shelf
open Dgt
theorem below_zrow (w:World) {w1:World} (h:Below (w.alloc (.cells #[.bool false,.string ⟨#[]⟩,.string ⟨#[]⟩] 26)).heap.size (w.alloc (.cells #[.bool false,.string ⟨#[]⟩,.string ⟨#[]⟩] 26)) w1):Below w.heap.size w w1 :=
 ((Below.refl w.heap.size w).alloc (Nat.le_refl _) _).trans (h.mono (by simp))
theorem sz_one:Sz 1 1:=by unfold Sz;decide
set_option maxRecDepth 100000 in
theorem rRatOf_any (n:Int) (wq:World) (h1: -9223372036854775808≤n) (h2:n≤9223372036854775807) :
  Gv 17 #[.int .i64 n] wq (rtV (ofR n)):=by
 unfold Gv;have HO1:=hD (fun w=>rOf_any 1 w (by decide));have HXZ:=hD (zeroR_row wq);have HB0:=hD (below_zrow wq rB)
 by_cases hn:n<0
 ·obtain ⟨m,hm⟩:∃m:Nat,-(n+1)=(m:Int):=⟨(-(n+1)).toNat,by omega⟩;have q5:wrap64 (-(n+1))=(m:Int):=by unfold wrap64;omega
  have HO:=hD (fun w=>rOf_any (m:Int) w (by omega));simp only [Int.toNat_natCast] at HO;have hmz:Sz m 8:=Nat.lt_of_lt_of_le (show m<9223372036854775808 by omega) (by decide);have HA:=hD (fun w=>rAdd_any (encS m) (encS 1) w (Nat.le_trans (encS_size_lt hmz) (by decide)) (Nat.le_trans (encS_size_lt sz_one) (by decide)));simp only [numS_encS] at HA;have HE:Hid (ofR n=⟨true,m+1,1⟩):=hD (by unfold ofR;simp [hn];omega);rw [HE.out];have q3:¬(0:Int)≤n:=by omega
  have q6:IntKind.i64.wrap (n+1)=n+1:=IntWalk.i64_in _ (by omega);clear hm hmz h1 h2;go_enter Tryz.func17,Tryz.ntmps17;go_wp2_with fail;refine (HO.out _).mono ?_;rintro e w1 ⟨rfl,hb⟩;have HXZ:=uH hb HXZ;have HB0:=hD (HB0.out.trans (hb.mono HB0.out.size));clear hb;go_wp2_with fail;refine (HO1.out _).mono ?_;rintro e w2 ⟨rfl,hb⟩;rw [show (1:Int).toNat=1 from rfl];have HXZ:=uH hb HXZ;have HB0:=hD (HB0.out.trans (hb.mono HB0.out.size));clear hb;go_wp2_with fail;refine (HA.out _).mono ?_;rintro e w3 ⟨rfl,hb⟩;have HXZ:=uH hb HXZ;have HB0:=hD (HB0.out.trans (hb.mono HB0.out.size));clear hb;go_wp2_with fail;refine (HO1.out _).mono ?_;rintro e w4 ⟨rfl,hb⟩;rw [show (1:Int).toNat=1 from rfl];have HXZ:=uH hb HXZ;have HB0:=hD (HB0.out.trans (hb.mono HB0.out.size));clear hb;obtain ⟨⟨c0,c1,c2⟩,hf⟩:=rwC HXZ.out;have hf0:=hf 0;have hf1:=hf 1;have hf2:=hf 2;clear hf;go_wp2_with fail
  refine bodyPost_ret (results_cell_row rfl _ _ wq.heap.size 26 _ (0,0) _ rfl (row_set HXZ.out _ _ _) Tryz.underlying26 rfl (by kernel_rfl)) rfl ?_;exact ⟨rfl,below_row HB0.out (Nat.le_refl _) _ _ _⟩
 ·obtain ⟨m,rfl⟩:∃m:Nat,n=(m:Int):=⟨n.toNat,by omega⟩;have HO:=hD (fun w=>rOf_any (m:Int) w (by omega));simp only [Int.toNat_natCast] at HO;have HE:Hid (ofR (m:Int)=⟨false,m,1⟩):=hD (by unfold ofR;simp);rw [HE.out];have q3:(0:Int)≤(m:Int):=by omega
  clear h1 h2;go_enter Tryz.func17,Tryz.ntmps17;go_wp2_with fail;refine (HO.out _).mono ?_;rintro e w1 ⟨rfl,hb⟩;have HXZ:=uH hb HXZ;have HB0:=hD (HB0.out.trans (hb.mono HB0.out.size));clear hb;go_wp2_with fail;refine (HO1.out _).mono ?_;rintro e w2 ⟨rfl,hb⟩;rw [show (1:Int).toNat=1 from rfl];have HXZ:=uH hb HXZ;have HB0:=hD (HB0.out.trans (hb.mono HB0.out.size));clear hb;obtain ⟨⟨c0,c1,c2⟩,hf⟩:=rwC HXZ.out;have hf0:=hf 0;have hf1:=hf 1;have hf2:=hf 2;clear hf;go_wp2_with fail;refine bodyPost_ret (results_cell_row rfl _ _ wq.heap.size 26 _ (0,0) _ rfl (row_set HXZ.out _ _ _) Tryz.underlying26 rfl (by kernel_rfl)) rfl ?_;exact ⟨rfl,below_row HB0.out (Nat.le_refl _) _ _ _⟩
theorem enc_nil {m:Nat} (h:m=0):(encS m).toList=[]:=List.isEmpty_iff.1 (by rw [enc_empty];simp [h])
theorem enc_not_nil {m:Nat} (h:m≠0):¬(encS m).toList=[]:=fun e=>by
 have:=enc_some h;rw [e] at this;cases this
set_option maxRecDepth 100000 in
theorem rlowest_n (neg:Bool) (n d:Nat) (wq:World) (d0:0<d) (sn:Sz n 1000000) (sd:Sz d 1000000) :
  Gv 43 #[.bool neg,.string (encS n),.string (encS d)] wq (rtV (low neg n d)):=by
 unfold Gv;have HXZ:=hD (zeroR_row wq);have HB0:=hD (below_zrow wq rB)
 by_cases hn:n=0
 ·subst hn;have HO1:=hD (fun w=>rOf_any 1 w (by decide));rw [low_zero neg d0];have q:=enc_nil (m:=0) rfl;have q2:=encS_zero;clear d0 sn sd;go_enter Tryz.func43,Tryz.ntmps43;go_wp2_with fail;refine (HO1.out _).mono ?_;rintro e w1 ⟨rfl,hb⟩;rw [show (1:Int).toNat=1 from rfl];have HXZ:=uH hb HXZ;have HB0:=hD (HB0.out.trans (hb.mono HB0.out.size));clear hb;obtain ⟨⟨c0,c1,c2⟩,hf⟩:=rwC HXZ.out;have hf0:=hf 0;have hf1:=hf 1;have hf2:=hf 2;clear hf;go_wp2_with fail;refine bodyPost_ret (results_cell_row rfl _ _ wq.heap.size 26 _ (0,0) _ rfl (row_set HXZ.out _ _ _) Tryz.underlying26 rfl (by kernel_rfl)) rfl ?_;refine ⟨?_,below_row HB0.out (Nat.le_refl _) _ _ _⟩;simp [rtV,zeroR,encS_zero]
 ·obtain ⟨g,hg⟩:∃g,Nat.gcd n d=g:=⟨_,rfl⟩;have hgd:g≤d:=by rw [←hg];exact Nat.gcd_le_right _ d0
  have hg0:0<g:=by rw [←hg];exact Nat.gcd_pos_of_pos_right n d0
  have HG:=hD (fun w=>rGcd_any (encS n) (encS d) w (encS_size_lt sn) (encS_size_lt sd));have HQ:=hD (fun w=>rQuo_any (encS n) (encS g) w (encS_size_lt sn) (encS_size_lt (sd.le hgd)));have HQ2:=hD (fun w=>rQuo_any (encS d) (encS g) w (encS_size_lt sd) (encS_size_lt (sd.le hgd)));simp only [numS_encS,hg] at HG HQ HQ2;have HL:Hid (low neg n d=⟨neg,n/g,d/g⟩):=hD (by
   have h1:=low_num_pos (neg:=neg) (d:=d) (Nat.pos_of_ne_zero hn);unfold low;rw [hg] at h1 ⊢;rw [decide_eq_true h1,Bool.and_true])
  rw [HL.out];have q:=enc_not_nil hn;have q2:=enc_some hn;clear hg hgd hg0 d0 sn sd hn;go_enter Tryz.func43,Tryz.ntmps43;go_wp2_with fail;refine (HG.out _).mono ?_;rintro e w1 ⟨rfl,hb⟩;have HXZ:=uH hb HXZ;have HB0:=hD (HB0.out.trans (hb.mono HB0.out.size));clear hb;go_wp2_with fail;refine (HQ.out _).mono ?_;rintro e w2 ⟨rfl,hb⟩;have HXZ:=uH hb HXZ;have HB0:=hD (HB0.out.trans (hb.mono HB0.out.size));clear hb;go_wp2_with fail;refine (HQ2.out _).mono ?_;rintro e w3 ⟨rfl,hb⟩;have HXZ:=uH hb HXZ;have HB0:=hD (HB0.out.trans (hb.mono HB0.out.size));clear hb;obtain ⟨⟨c0,c1,c2⟩,hf⟩:=rwC HXZ.out;have hf0:=hf 0;have hf1:=hf 1;have hf2:=hf 2;clear hf;go_wp2_with fail;refine bodyPost_ret (results_cell_row rfl _ _ wq.heap.size 26 _ (0,0) _ rfl (row_set HXZ.out _ _ _) Tryz.underlying26 rfl (by kernel_rfl)) rfl ?_;exact ⟨rfl,below_row HB0.out (Nat.le_refl _) _ _ _⟩
def ERY (ba:Nat) (neg:Bool) (b:Nat) (c:Int) (Q:Bool):Nat→Value
 | 0=>.pointer (some ⟨ba,0,none⟩)
 | 1=>.bool neg
 | 2=>.bool (!neg)
 | 3=>.bool (!neg)
 | 4=>(bif neg then undef else .pointer (some ⟨ba,2,none⟩))
 | 5=>(bif neg then undef else .string (encS b))
 | 6=>(bif neg then undef else .string (encS 1))
 | 7=>(bif neg then undef else .int .i64 c)
 | 8=>(bif neg then undef else .bool Q)
 | 9=>.bool (!neg&&Q)
 | 10=>.bool (!neg&&Q)
 | _=>undef
theorem rightR_enc (neg:Bool) (a b:Nat):rightR neg (encS a) (encS b)=(decide (0<b)&&decide (Nat.gcd a b=1)&&(!neg||decide (0<a))):=by
 unfold rightR;rw [right_enc,right_enc,numS_encS,numS_encS];simp
set_option maxRecDepth 100000 in
theorem rRatRight_any (neg:Bool) (n d:ByteArray) (wq:World) (sn:n.size≤1000000) (sd:d.size≤1000000) :
  Gv 89 #[.agg #[.bool neg,.string n,.string d]] wq (.bool (rightR neg n d)):=by
 unfold Gv;have H1:=hD (fun w=>rRight_any n w (by omega));have H2:=hD (fun w=>rRight_any d w (by omega));have hxa:=heap_alloc_new wq (.cells #[.bool neg,.string n,.string d] 26);have hb0:=(Below.refl wq.heap.size wq).alloc (Nat.le_refl _) (.cells #[.bool neg,.string n,.string d] 26);obtain ⟨W1,hW1⟩:∃W1,wq.alloc (.cells #[.bool neg,.string n,.string d] 26)=W1:=⟨_,rfl⟩;rw [hW1] at hxa hb0;obtain ⟨⟨ca0,ca1,ca2⟩,-⟩:=rwC hxa;have HB0:=hD hb0;have sn2:=hD sn;have sd2:=hD sd;clear hb0 sn sd
 by_cases r1:rightN n=true
 ·by_cases r2:rightN d=true
  ·obtain ⟨a,ha⟩:∃a,numS n=a:=⟨_,rfl⟩;obtain ⟨b,hb⟩:∃b,numS d=b:=⟨_,rfl⟩;have hn:=rightN_eq r1;have hd:=rightN_eq r2;rw [ha] at hn;rw [hb] at hd;subst hn;subst hd;rw [rightR_enc];simp only [right_enc] at H1 H2;clear r1 r2 ha hb
   by_cases b0:b=0
   ·have q:=enc_nil b0;have qe:(encS b).toList.isEmpty=true:=by rw [q];rfl
    have HE:Hid ((decide (0<b)&&decide (Nat.gcd a b=1)&&(!neg||decide (0<a)))=false):=hD (by simp [b0]);rw [HE.out];clear b0;go_enter Tryz.func89,Tryz.ntmps89;go_wp2_with fail;refine (H1.out _).mono ?_;rintro e w1 ⟨rfl,rfl⟩;go_wp2_with fail;refine (H2.out _).mono ?_;rintro e w1 ⟨rfl,rfl⟩;go_wp2_with fail;go_ret;exact ⟨rfl,HB0.out⟩
   ·have q:=enc_not_nil b0;have qe:=enc_some b0
    by_cases a0:a=0
    ·have q2:=enc_nil a0;have qe2:(encS a).toList.isEmpty=true:=by rw [q2];rfl
     have HOF:=hD (fun w=>rOf_any 1 w (by decide));simp only [show (1:Int).toNat=1 from rfl] at HOF;have HCM:=hD (fun w=>rCmp_any (encS b) (encS 1) w (Nat.le_trans sd2.out (by decide)) (Nat.le_trans (encS_size_lt sz_one) (by decide)));simp only [numS_encS] at HCM;obtain ⟨c,hc⟩:∃c,cmpI b 1=c:=⟨_,rfl⟩;rw [hc] at HCM;obtain ⟨Q,hQ⟩:∃Q,decide (b=1)=Q:=⟨_,rfl⟩;have HQ0:Hid (c=0↔Q=true):=hD (by
      rw [←hc, ←hQ,decide_eq_true_eq];unfold cmpI
      split
      ·constructor<;>intro h<;>omega
      ·split
       ·constructor<;>intro h<;>omega
       ·constructor
        ·intro _;omega
        ·intro _;rfl)
     have HE:Hid ((decide (0<b)&&decide (Nat.gcd a b=1)&&(!neg||decide (0<a)))=(!neg&&Q)):=hD (by
      subst a0;rw [←hQ]
      by_cases h1:b=1
      ·subst h1;simp
      ·simp [h1])
     rw [HE.out];clear hc hQ a0 b0;go_enter Tryz.func89,Tryz.ntmps89;go_wp2_with fail;refine (H1.out _).mono ?_;rintro e w1 ⟨rfl,rfl⟩;go_wp2_with fail;refine (H2.out _).mono ?_;rintro e w1 ⟨rfl,rfl⟩;go_wp2_with fail;obtain ⟨ba,hba⟩:∃b,wq.heap.size=b:=⟨_,rfl⟩;rw [hba] at hxa ca0 ca1 ca2 ⊢;have HXA:=hD hxa;clear hxa ca0 ca1 ca2 hW1;refine wpVl (w:=W1) (by kernel_rfl) (fun ix v _=>v=ERY ba neg b c Q ix) (fun t=>(decide (2≤t)&&decide (t<3))||(decide (25≤t)&&decide (t<35))) (by kernel_rfl) (by kernel_rfl) (by kernel_rfl) (fun _ _ _ _ _ h=>h) ?_ ?_
     ·intro i hi o listed a w hR K hK;have ho:=hR.at_;have hi:i<11:=hi;have hii:i=0∨i=1∨i=2∨i=3∨i=4∨i=5∨i=6∨i=7∨i=8∨i=9∨i=10:=by omega
      rcases hii with rfl|rfl|rfl|rfl|rfl|rfl|rfl|rfl|rfl|rfl|rfl
      ·simp at ho;subst ho;have b1:a.tmps.getD 1 undef=.pointer (some ⟨ba,0,none⟩):=hR.b 1;refine pSq ?_;go_simp;exact hK _ _ rfl rB
      ·simp at ho;subst ho;have e0:a.tmps.getD 25 undef=.pointer (some ⟨ba,0,none⟩):=hR.d 0;obtain ⟨⟨cx0,cx1,cx2⟩,-⟩:=rwC (hpU hR.below HXA.out);refine pSq ?_;go_simp;exact hK _ _ rfl rB
      ·simp at ho;subst ho;have e1:a.tmps.getD 26 undef=.bool neg:=hR.d 1;refine pSq ?_;go_simp;exact hK _ _ rfl rB
      ·simp at ho;subst ho;have e2:a.tmps.getD 27 undef=.bool (!neg):=hR.d 2;refine pSq ?_;go_simp;exact hK _ _ rfl rB
      ·simp at ho;subst ho;have e3:a.tmps.getD 28 undef=.bool (!neg):=hR.g 3;have b1:a.tmps.getD 1 undef=.pointer (some ⟨ba,0,none⟩):=hR.b 1;cases neg
       ·refine gSq (b:=true) e3 ?_;go_simp;exact hK _ _ rfl rB
       ·refine gSkp rfl rfl rfl (b:=true) e3 (by decide) ?_;exact hK _ _ rfl rB
      ·simp at ho;subst ho;have e4:a.tmps.getD 29 undef=(bif neg then undef else .pointer (some ⟨ba,2,none⟩)):=hR.d 4;have e3:a.tmps.getD 28 undef=.bool (!neg):=hR.g 3;obtain ⟨⟨cx0,cx1,cx2⟩,-⟩:=rwC (hpU hR.below HXA.out);cases neg
       ·refine gSq (b:=true) e3 ?_;go_simp;exact hK _ _ rfl rB
       ·refine gSkp rfl rfl rfl (b:=true) e3 (by decide) ?_;exact hK _ _ rfl rB
      ·simp at ho;subst ho;have e3:a.tmps.getD 28 undef=.bool (!neg):=hR.g 3;cases neg
       ·refine gSq (b:=true) e3 ?_;go_simp;refine (HOF.out w).mono ?_;rintro e w' ⟨rfl,hb⟩;exact hK _ _ (rfl) hb
       ·refine gSkp rfl rfl rfl (b:=true) e3 (by decide) ?_;exact hK _ _ rfl rB
      ·simp at ho;subst ho;have e5:a.tmps.getD 30 undef=(bif neg then undef else .string (encS b)):=hR.d 5;have e6:a.tmps.getD 31 undef=(bif neg then undef else .string (encS 1)):=hR.d 6;have e3:a.tmps.getD 28 undef=.bool (!neg):=hR.g 3;cases neg
       ·refine gSq (b:=true) e3 ?_;go_simp;refine (HCM.out w).mono ?_;rintro e w' ⟨rfl,rfl⟩;exact hK _ _ rfl rB
       ·refine gSkp rfl rfl rfl (b:=true) e3 (by decide) ?_;exact hK _ _ rfl rB
      ·simp at ho;subst ho;have e7:a.tmps.getD 32 undef=(bif neg then undef else .int .i64 c):=hR.d 7;have e3:a.tmps.getD 28 undef=.bool (!neg):=hR.g 3;cases neg
       ·refine gSq (b:=true) e3 ?_;go_simp;exact hK _ _ (by show Value.bool _=Value.bool Q;congr 1;rw [Bool.eq_iff_iff];simp [HQ0.out]) rB
       ·refine gSkp rfl rfl rfl (b:=true) e3 (by decide) ?_;exact hK _ _ rfl rB
      ·simp at ho;subst ho;have e3:a.tmps.getD 28 undef=.bool (!neg):=hR.d 3;have e8:a.tmps.getD 33 undef=(bif neg then undef else .bool Q):=hR.d 8;cases neg
       ·refine pSq ?_;go_simp;exact hK _ _ rfl rB
       ·refine pSq ?_;go_simp;exact hK _ _ rfl rB
      ·simp at ho;subst ho;have e9:a.tmps.getD 34 undef=.bool (!neg&&Q):=hR.d 9;refine pSq ?_;go_simp;exact hK _ _ rfl rB
     ·intro s w hS hb;have e10:s 2=.bool (!neg&&Q):=hS 10 (by decide);simp only [over,ovL,Nat.reduceAdd,Nat.reduceLeDiff,Nat.reduceLT];have HBX:=hD (HB0.out.trans (hb.mono HB0.out.size));rw [e10];clear hS hb e10;go_wp2_with fail;go_ret;have hbwf:=HBX.out;exact ⟨rfl,by first|exact hbwf|(rw [hba] at hbwf;exact hbwf)⟩
    ·have q2:=enc_not_nil a0;have qe2:=enc_some a0;have HG:=hD (fun w=>rGcd_any (encS a) (encS b) w sn2.out sd2.out);simp only [numS_encS] at HG;have HOF:=hD (fun w=>rOf_any 1 w (by decide));simp only [show (1:Int).toNat=1 from rfl] at HOF;obtain ⟨g,hg⟩:∃g,Nat.gcd a b=g:=⟨_,rfl⟩;have hgb:g≤b:=by rw [←hg];exact Nat.gcd_le_right _ (by omega)
     have hgs:(encS g).size≤100000000:=by
      have h1:Sz b 1000000:=by
       have:=Sz.num (encS b);rw [numS_encS] at this;exact this.mono sd2.out
      exact Nat.le_trans (encS_size_lt (h1.le hgb)) (by decide)
     have HCM:=hD (fun w=>rCmp_any (encS g) (encS 1) w hgs (Nat.le_trans (encS_size_lt sz_one) (by decide)));simp only [numS_encS] at HCM;rw [hg] at HG;have HE:Hid ((decide (0<b)&&decide (Nat.gcd a b=1)&&(!neg||decide (0<a)))=decide (g=1)):=hD (by
      simp only [hg];have h1:0<a:=by omega
      have h2:0<b:=by omega
      simp [h1,h2])
     rw [HE.out];clear hg hgb hgs a0 b0;go_enter Tryz.func89,Tryz.ntmps89;go_wp2_with fail;refine (H1.out _).mono ?_;rintro e w1 ⟨rfl,rfl⟩;go_wp2_with fail;refine (H2.out _).mono ?_;rintro e w1 ⟨rfl,rfl⟩;go_wp2_with fail;refine (HG.out _).mono ?_;rintro e w2 ⟨rfl,hb⟩;have HB2:=hD (HB0.out.trans (hb.mono HB0.out.size));clear hb ca0 ca1 ca2 hW1;go_wp2_with fail;refine (HOF.out _).mono ?_;rintro e w3 ⟨rfl,hb⟩;have HB3:=hD (HB2.out.trans (hb.mono HB2.out.size));clear hb;go_wp2_with fail;refine (HCM.out _).mono ?_;rintro e w4 ⟨rfl,rfl⟩
     by_cases hg1:g=1
     ·subst hg1;rw [cmpI_eq];go_wp2_with fail;go_ret;exact ⟨rfl,HB3.out⟩
     ·have hc0:cmpI g 1≠0:=by
       unfold cmpI
       split
       ·decide
       ·split
        ·decide
        ·omega
      obtain ⟨c,hc⟩:∃c,cmpI g 1=c:=⟨_,rfl⟩;rw [hc] at hc0 ⊢;have HD:Hid (decide (g=1)=false):=hD (by simp [hg1]);clear hg1 hc;go_wp2_with fail;go_ret;exact ⟨by rw [HD.out];simp [hc0],HB3.out⟩
  ·have hf:rightN d=false:=by simpa using r2
   have HE:Hid (rightR neg n d=false):=hD (by unfold rightR;simp [hf]);rw [HE.out];rw [hf] at H2;rw [r1] at H1;clear hf r1 r2;go_enter Tryz.func89,Tryz.ntmps89;go_wp2_with fail;refine (H1.out _).mono ?_;rintro e w1 ⟨rfl,rfl⟩;go_wp2_with fail;refine (H2.out _).mono ?_;rintro e w1 ⟨rfl,rfl⟩;go_wp2_with fail;go_ret;exact ⟨rfl,HB0.out⟩
 ·have hf:rightN n=false:=by simpa using r1
  have HE:Hid (rightR neg n d=false):=hD (by unfold rightR;simp [hf]);rw [HE.out];rw [hf] at H1;clear hf r1;go_enter Tryz.func89,Tryz.ntmps89;go_wp2_with fail;refine (H1.out _).mono ?_;rintro e w1 ⟨rfl,rfl⟩;go_wp2_with fail;refine (H2.out _).mono ?_;rintro e w1 ⟨rfl,rfl⟩;go_wp2_with fail;go_ret;exact ⟨rfl,HB0.out⟩
set_option maxRecDepth 100000 in
theorem rvalue_r {va:Value} {ra:Rt} {k:Nat} (ha:IsR va ra k) (hk:k≤1000000) (wq:World) :
  Gv 52 #[va] wq (.agg #[.bool ra.neg,.string (encS ra.num),.string (encS ra.den)]):=by
 unfold Gv;obtain ⟨neg,n,d,rfl,sn,sd,hv⟩:=ha;have HR:=hD (fun w=>rRatRight_any neg n d w (by omega) (by omega));obtain ⟨R,hR⟩:∃R,rightR neg n d=R:=⟨_,rfl⟩;rw [hR] at HR;have HRT:=hD hR;have HV:=hD hv;have HOF:=hD (fun w=>rOf_any 1 w (by decide));simp only [show (1:Int).toNat=1 from rfl] at HOF;clear hR sn sd hv hk;obtain ⟨W3,hW3,hxa,hxz,hb3⟩:=boxes2 wq (.cells #[.bool neg,.string n,.string d] 26) (.cells #[.bool false,.string ⟨#[]⟩,.string ⟨#[]⟩] 26);obtain ⟨⟨ca0,ca1,ca2⟩,-⟩:=rwC hxa;have HXA:=hD hxa;have HXZ:=hD hxz;have HB3:=hD hb3;clear hxa hxz hb3;go_enter Tryz.func52,Tryz.ntmps52;go_wp2_with fail;refine (HR.out _).mono ?_;rintro e w3 ⟨rfl,hb⟩;have HXA:=uH hb HXA;have HXZ:=uH hb HXZ;have HB3:=hD (HB3.out.trans (hb.mono HB3.out.size));clear hb ca0 ca1 ca2 hW3;obtain ⟨⟨cb0,cb1,cb2⟩,-⟩:=rwC HXA.out;obtain ⟨⟨cz0,cz1,cz2⟩,hfz⟩:=rwC HXZ.out;have fz0:=hfz 0;have fz1:=hfz 1;have fz2:=hfz 2
 clear hfz;cases R
 ·clear cb0 cb1 cb2 cz0 cz1 cz2 fz0 fz1 fz2;go_wp2_with fail;refine (HOF.out _).mono ?_;rintro e w4 ⟨rfl,hb⟩;have HXZ:=uH hb HXZ;have HB3:=hD (HB3.out.trans (hb.mono HB3.out.size));clear hb;obtain ⟨⟨cz0,cz1,cz2⟩,hfz⟩:=rwC HXZ.out;have fz0:=hfz 0;have fz1:=hfz 1;have fz2:=hfz 2;clear hfz;go_wp2_with fail;refine bodyPost_ret (results_cell_row rfl _ _ (wq.heap.size+1) 26 _ (0,0) _ rfl (row_set HXZ.out _ _ _) Tryz.underlying26 rfl (by kernel_rfl)) rfl ?_;refine ⟨?_,below_row HB3.out (by omega) _ _ _⟩;have hv:=HV.out;unfold valQ at hv;rw [if_neg (by rw [HRT.out];simp)] at hv;rw [←hv];simp [zeroR,encS_zero]
 ·go_wp2_with fail;refine bodyPost_ret (results_cell_row rfl _ _ (wq.heap.size+1) 26 _ (0,0) _ rfl (row_set HXZ.out _ _ _) Tryz.underlying26 rfl (by kernel_rfl)) rfl ?_;refine ⟨?_,below_row HB3.out (by omega) _ _ _⟩;have h:=ratV_right HRT.out;rw [HV.out] at h;unfold ratV rtV at h;rw [h]
def EWR (ba bb:Nat) (ra rb L:Rt):Nat→Value
 | 0=>.pointer (some ⟨ba,0,none⟩)
 | 1=>.bool ra.neg
 | 2=>.pointer (some ⟨bb,0,none⟩)
 | 3=>.bool rb.neg
 | 4=>.bool (ra.neg != rb.neg)
 | 5=>.pointer (some ⟨ba,1,none⟩)
 | 6=>.string (encS ra.num)
 | 7=>.pointer (some ⟨bb,2,none⟩)
 | 8=>.string (encS rb.den)
 | 9=>.string (encS (ra.num*rb.den))
 | 10=>.pointer (some ⟨ba,2,none⟩)
 | 11=>.string (encS ra.den)
 | 12=>.pointer (some ⟨bb,1,none⟩)
 | 13=>.string (encS rb.num)
 | 14=>.string (encS (ra.den*rb.num))
 | 15=>.agg #[.bool L.neg,.string (encS L.num),.string (encS L.den)]
 | _=>undef
set_option maxRecDepth 100000 in
theorem rRatQuo_r {va vb:Value} {ra rb:Rt} {k:Nat} (ha:IsR va ra k) (hb:IsR vb rb k) (hk1:1≤k) (hk:k≤400000) (wq:World) :
  Gv 26 #[va,vb] wq (quoV ra rb):=by
 unfold Gv;have HVA:=hD (fun w=>rvalue_r ha (by omega) w);have HVB:=hD (fun w=>rvalue_r hb (by omega) w);have za:=ha.rz hk1;have zb:=hb.rz hk1;have oka:=ha.ok;have okb:=hb.ok;have HN:=hD (fun w=>rMul_any (encS ra.num) (encS rb.den) w (Nat.le_trans (encS_size_lt za.1) (by omega)) (Nat.le_trans (encS_size_lt zb.2) (by omega)));simp only [numS_encS] at HN;have HD:=hD (fun w=>rMul_any (encS ra.den) (encS rb.num) w (Nat.le_trans (encS_size_lt za.2) (by omega)) (Nat.le_trans (encS_size_lt zb.1) (by omega)));simp only [numS_encS] at HD;have HL:=hD (fun (hz:rb.num≠0) w=>rlowest_n (ra.neg != rb.neg) (ra.num*rb.den) (ra.den*rb.num) w (Nat.mul_pos oka.pos (Nat.pos_of_ne_zero hz)) ((za.1.mul zb.2).mono (by omega)) ((za.2.mul zb.1).mono (by omega)));have HE:Hid (quoR ra rb=low (ra.neg != rb.neg) (ra.num*rb.den) (ra.den*rb.num)):=hD rfl;unfold quoV;rw [HE.out]
 obtain ⟨L,hL⟩:∃L,low (ra.neg != rb.neg) (ra.num*rb.den) (ra.den*rb.num)=L:=⟨_,rfl⟩;rw [hL] at HL ⊢;clear hL;obtain ⟨na,sa,da,rfl,-⟩:=ha;obtain ⟨nb,sb,db,rfl,-⟩:=hb;clear za zb hk1 hk oka okb;obtain ⟨W3,hW3,hxa,hxb,hxz,hb3⟩:=boxes3 wq (.cells #[.bool na,.string sa,.string da] 26) (.cells #[.bool nb,.string sb,.string db] 26) (.cells #[.bool false,.string ⟨#[]⟩,.string ⟨#[]⟩] 26);obtain ⟨⟨ca0,ca1,ca2⟩,-⟩:=rwC hxa;go_enter Tryz.func26,Tryz.ntmps26;go_wp2_with fail;obtain ⟨ba,hba⟩:∃b,wq.heap.size=b:=⟨_,rfl⟩;obtain ⟨bb,hbb⟩:∃b,ba+1=b:=⟨_,rfl⟩;obtain ⟨bz,hbz⟩:∃b,bb+1=b:=⟨_,rfl⟩;rw [hba] at hxa hxb hxz ⊢;rw [hbb] at hxb hxz ⊢;rw [hbz] at hxz ⊢;have HNE:Hid (ba≠bb):=hD (by omega);have HNZA:Hid (bz≠ba):=hD (by omega);have HNZB:Hid (bz≠bb):=hD (by omega);refine (HVA.out _).mono ?_;rintro e w1 ⟨rfl,hb⟩;have hxa1:=hpU hb hxa;have hxb1:=hpU hb hxb;have hxz1:=hpU hb hxz
 have hbl1:=hb3.trans (hb.mono hb3.size);clear hb hb3 hxa hxb hxz ca0 ca1 ca2 hW3;obtain ⟨⟨ca0,ca1,ca2⟩,hfa⟩:=rwC hxa1;have fa0:=hfa 0;have fa1:=hfa 1;have fa2:=hfa 2;obtain ⟨W4,hW4⟩:∃W4,((w1.setCell ⟨ba,0,none⟩ (.bool ra.neg)).setCell ⟨ba,1,none⟩ (.string (encS ra.num))).setCell ⟨ba,2,none⟩ (.string (encS ra.den))=W4:=⟨_,rfl⟩;have hxa4:W4.heap[ba]? =some (.cells #[.bool ra.neg,.string (encS ra.num),.string (encS ra.den)] 26 (0,0)):=by rw [←hW4];exact row_set hxa1 _ _ _
 have hxb4:W4.heap[bb]? =some (.cells #[.bool nb,.string sb,.string db] 26 (0,0)):=by rw [←hW4];simpa [World.setCell,Array.getElem?_modify,HNE.out] using hxb1
 have hxz4:W4.heap[bz]? =some (.cells #[.bool false,.string ⟨#[]⟩,.string ⟨#[]⟩] 26 (0,0)):=by rw [←hW4];simpa [World.setCell,Array.getElem?_modify,Ne.symm HNZA.out] using hxz1
 have hbl4:Below wq.heap.size wq W4:=by rw [←hW4];exact below_row hbl1 (by omega) _ _ _
 obtain ⟨⟨cb0,cb1,cb2⟩,-⟩:=rwC hxb4;have HXA:=hD hxa4;have HXB:=hD hxb4;have HXZ:=hD hxz4;have HB4:=hD hbl4;clear hfa hxa1 hxb1 hxz1 hbl1 hxa4 hxb4 hxz4 hbl4;go_wp2_with fail;refine (HVB.out _).mono ?_;rintro e w2 ⟨rfl,hb⟩;have hxa1:=hpU hb HXA.out;have hxb1:=hpU hb HXB.out;have hxz1:=hpU hb HXZ.out;have hbl1:=HB4.out.trans (hb.mono HB4.out.size);clear hb cb0 cb1 cb2 ca0 ca1 ca2 fa0 fa1 fa2 hW4;obtain ⟨⟨cb0,cb1,cb2⟩,hfb⟩:=rwC hxb1;have fb0:=hfb 0;have fb1:=hfb 1;have fb2:=hfb 2;obtain ⟨W5,hW5⟩:∃W5,((w2.setCell ⟨bb,0,none⟩ (.bool rb.neg)).setCell ⟨bb,1,none⟩ (.string (encS rb.num))).setCell ⟨bb,2,none⟩ (.string (encS rb.den))=W5:=⟨_,rfl⟩;have hxb5:W5.heap[bb]? =some (.cells #[.bool rb.neg,.string (encS rb.num),.string (encS rb.den)] 26 (0,0)):=by rw [←hW5];exact row_set hxb1 _ _ _
 have hxa5:W5.heap[ba]? =some (.cells #[.bool ra.neg,.string (encS ra.num),.string (encS ra.den)] 26 (0,0)):=by rw [←hW5];simpa [World.setCell,Array.getElem?_modify,Ne.symm HNE.out] using hxa1
 have hxz5:W5.heap[bz]? =some (.cells #[.bool false,.string ⟨#[]⟩,.string ⟨#[]⟩] 26 (0,0)):=by rw [←hW5];simpa [World.setCell,Array.getElem?_modify,Ne.symm HNZB.out] using hxz1
 have HB5:Hid (Below wq.heap.size wq W5):=hD (by rw [←hW5];exact below_row hbl1 (by omega) _ _ _);have HXA:=hD hxa5;have HXB:=hD hxb5;have HXZ:=hD hxz5;clear hfb hxa1 hxb1 hxz1 hbl1 hxa5 hxz5;obtain ⟨⟨cd0,cd1,cd2⟩,-⟩:=rwC hxb5;clear hxb5
 by_cases hz:rb.num=0
 ·have hem:(encS rb.num).toList.isEmpty=true:=by rw [enc_empty];simp [hz]
  have hem2:(encS rb.num).toList=[]:=List.isEmpty_iff.1 hem;have HZ:=hD hz;obtain ⟨⟨cz0,cz1,cz2⟩,hfz⟩:=rwC HXZ.out;have fz0:=hfz 0;have fz1:=hfz 1;have fz2:=hfz 2;have HROW:=hD (row_set HXZ.out (.bool false) (.string ⟨#[]⟩) (.string ⟨#[]⟩));have HBW:=hD (below_row HB5.out (b:=bz) (by omega) (.bool false) (.string ⟨#[]⟩) (.string ⟨#[]⟩));clear hfz;rw [hz] at hem hem2 hW5 cd1 ⊢;clear hz;go_wp2_with fail;have hbwf:=HBW.out;rw [hba] at hbwf;refine bodyPost_ret (rC2 HROW.out) rfl ?_
  first|exact ⟨rfl,HBW.out⟩|exact ⟨rfl,hbwf⟩|exact ⟨by rw [if_pos HZ.out];rfl,HBW.out⟩
 ·have HNZ:=hD hz;have hem:(encS rb.num).toList.isEmpty=false:=enc_some hz;have hem2:¬(encS rb.num).toList=[]:=fun h=>by rw [h] at hem;cases hem
  clear hz;go_wp2_with fail;clear cb0 cb1 cb2 fb0 fb1 fb2 hW5 cd0 cd1 cd2 hem hem2;refine wpTl (w:=W5) (by kernel_rfl) (fun ix v _=>v=EWR ba bb ra rb L ix) 16 (fun t=>(decide (14≤t)&&decide (t<30))) (by decide) (by kernel_rfl) (by kernel_rfl) (by kernel_rfl) (by kernel_rfl) (by kernel_rfl) (fun _ _ _ _ _ h=>h) ?_ ?_
  ·intro i hi o listed a w hR K hK;have ho:=hR.at_;have hi:i<16:=hi;have hii:i=0∨i=1∨i=2∨i=3∨i=4∨i=5∨i=6∨i=7∨i=8∨i=9∨i=10∨i=11∨i=12∨i=13∨i=14∨i=15:=by omega
   rcases hii with rfl|rfl|rfl|rfl|rfl|rfl|rfl|rfl|rfl|rfl|rfl|rfl|rfl|rfl|rfl|rfl
   ·simp at ho;subst ho;have b2:a.tmps.getD 2 undef=.pointer (some ⟨ba,0,none⟩):=hR.b 2;refine pSq ?_;go_simp;exact hK _ _ rfl rB
   ·simp at ho;subst ho;have e0:a.tmps.getD 14 undef=.pointer (some ⟨ba,0,none⟩):=hR.t 0;obtain ⟨⟨cx0,cx1,cx2⟩,-⟩:=rwC (hpU hR.below HXA.out);refine pSq ?_;go_simp;exact hK _ _ rfl rB
   ·simp at ho;subst ho;have b3:a.tmps.getD 3 undef=.pointer (some ⟨bb,0,none⟩):=hR.b 3;refine pSq ?_;go_simp;exact hK _ _ rfl rB
   ·simp at ho;subst ho;have e2:a.tmps.getD 16 undef=.pointer (some ⟨bb,0,none⟩):=hR.t 2;obtain ⟨⟨cx0,cx1,cx2⟩,-⟩:=rwC (hpU hR.below HXB.out);refine pSq ?_;go_simp;exact hK _ _ rfl rB
   ·simp at ho;subst ho;have e1:a.tmps.getD 15 undef=.bool ra.neg:=hR.t 1;have e3:a.tmps.getD 17 undef=.bool rb.neg:=hR.t 3;refine pSq ?_;go_simp;exact hK _ _ rfl rB
   ·simp at ho;subst ho;have b2:a.tmps.getD 2 undef=.pointer (some ⟨ba,0,none⟩):=hR.b 2;refine pSq ?_;go_simp;exact hK _ _ rfl rB
   ·simp at ho;subst ho;have e5:a.tmps.getD 19 undef=.pointer (some ⟨ba,1,none⟩):=hR.t 5;obtain ⟨⟨cx0,cx1,cx2⟩,-⟩:=rwC (hpU hR.below HXA.out);refine pSq ?_;go_simp;exact hK _ _ rfl rB
   ·simp at ho;subst ho;have b3:a.tmps.getD 3 undef=.pointer (some ⟨bb,0,none⟩):=hR.b 3;refine pSq ?_;go_simp;exact hK _ _ rfl rB
   ·simp at ho;subst ho;have e7:a.tmps.getD 21 undef=.pointer (some ⟨bb,2,none⟩):=hR.t 7;obtain ⟨⟨cx0,cx1,cx2⟩,-⟩:=rwC (hpU hR.below HXB.out);refine pSq ?_;go_simp;exact hK _ _ rfl rB
   ·simp at ho;subst ho;have e6:a.tmps.getD 20 undef=.string (encS ra.num):=hR.t 6;have e8:a.tmps.getD 22 undef=.string (encS rb.den):=hR.t 8;refine pSq ?_;go_simp;refine (HN.out w).mono ?_;rintro e w' ⟨rfl,hb⟩;exact hK _ _ (rfl) hb
   ·simp at ho;subst ho;have b2:a.tmps.getD 2 undef=.pointer (some ⟨ba,0,none⟩):=hR.b 2;refine pSq ?_;go_simp;exact hK _ _ rfl rB
   ·simp at ho;subst ho;have e10:a.tmps.getD 24 undef=.pointer (some ⟨ba,2,none⟩):=hR.t 10;obtain ⟨⟨cx0,cx1,cx2⟩,-⟩:=rwC (hpU hR.below HXA.out);refine pSq ?_;go_simp;exact hK _ _ rfl rB
   ·simp at ho;subst ho;have b3:a.tmps.getD 3 undef=.pointer (some ⟨bb,0,none⟩):=hR.b 3;refine pSq ?_;go_simp;exact hK _ _ rfl rB
   ·simp at ho;subst ho;have e12:a.tmps.getD 26 undef=.pointer (some ⟨bb,1,none⟩):=hR.t 12;obtain ⟨⟨cx0,cx1,cx2⟩,-⟩:=rwC (hpU hR.below HXB.out);refine pSq ?_;go_simp;exact hK _ _ rfl rB
   ·simp at ho;subst ho;have e11:a.tmps.getD 25 undef=.string (encS ra.den):=hR.t 11;have e13:a.tmps.getD 27 undef=.string (encS rb.num):=hR.t 13;refine pSq ?_;go_simp;refine (HD.out w).mono ?_;rintro e w' ⟨rfl,hb⟩;exact hK _ _ (rfl) hb
   ·simp at ho;subst ho;have e4:a.tmps.getD 18 undef=.bool (ra.neg != rb.neg):=hR.t 4;have e9:a.tmps.getD 23 undef=.string (encS (ra.num*rb.den)):=hR.t 9;have e14:a.tmps.getD 28 undef=.string (encS (ra.den*rb.num)):=hR.t 14;refine pSq ?_;go_simp;refine (HL.out HNZ.out w).mono ?_;rintro e w' ⟨rfl,hb⟩;exact hK _ _ (rfl) hb
  ·intro s w hS hb;have e15:s 29=.agg #[.bool L.neg,.string (encS L.num),.string (encS L.den)]:=hS 15 (by decide);simp only [over,ovL,Nat.reduceAdd,Nat.reduceLeDiff,Nat.reduceLT];obtain ⟨⟨cz0,cz1,cz2⟩,hfz⟩:=rwC (hpU hb HXZ.out);have fz0:=hfz 0;have fz1:=hfz 1;have fz2:=hfz 2;refine tail_step (n:=1) rfl rfl ?_;go_simp;refine tail_step (n:=0) rfl rfl ?_;go_simp;simp only [wpTail];have hrow:=row_set (hpU hb HXZ.out) (.bool L.neg) (.string (encS L.num)) (.string (encS L.den));have hbw:=below_row (HB5.out.trans (hb.mono HB5.out.size)) (b:=bz) (by omega) (.bool L.neg) (.string (encS L.num)) (.string (encS L.den));have HROW:=hD hrow;have HBW:=hD hbw;clear hrow hbw hS hb cz0 cz1 cz2 hfz fz0 fz1 fz2;go_wp2_with fail;have hbwf:=HBW.out;rw [hba] at hbwf;refine bodyPost_ret (rC2 HROW.out) rfl ?_
   first|exact ⟨rfl,HBW.out⟩|exact ⟨rfl,hbwf⟩|exact ⟨by rw [if_neg HNZ.out];rfl,HBW.out⟩
theorem mod_lt (a m:Int) (x:Nat) (hx:(a%m).toNat=x) (hm:0<m):(x:Int)<m:=by
 have h4:=Int.emod_lt_of_pos a hm;have h3:=Int.emod_nonneg a (show m≠0 by omega);omega
structure Rw where
 neg:Bool
 n:ByteArray
 d:ByteArray
def Rw.val (r:Rw):Rt:=valQ r.neg r.n r.d
def Rw.right (r:Rw):Bool:=rightR r.neg r.n r.d
def rawR (a:Rt):Rw:=⟨a.neg,encS a.num,encS a.den⟩
theorem rawR_val {a:Rt} (h:a.Ok):(rawR a).val=a:=valQ_of h
theorem rawR_right {a:Rt} (h:a.Ok):(rawR a).right=true:=rightR_of h
def SzL (l:List Rw) (k:Nat):Prop:=∀r ∈ l,r.n.size≤k∧r.d.size≤k
theorem Rw.isR {r:Rw} {k:Nat} (h:r.n.size≤k∧r.d.size≤k):IsR (.agg #[.bool r.neg,.string r.n,.string r.d]) r.val k:=⟨_,_,_,rfl,h.1,h.2,rfl⟩
theorem rawR_sz {a:Rt} {k:Nat} (h:Rz a k):(rawR a).n.size≤k∧(rawR a).d.size≤k:=⟨encS_size_lt h.1,encS_size_lt h.2⟩
def LstR (W:World) (v:Value) (l:List Rw):Prop :=
 (v=.slice none 0 0∧l=[])∨∃g off cap,v=.slice (some ⟨g,off,none⟩) l.length cap∧g<W.heap.size∧l.length≤1000 ∧
  ∀i (h:i<l.length),W.cell? ⟨g,off+i*3,none⟩=some (.bool l[i].neg)∧W.cell? ⟨g,off+i*3+1,none⟩=some (.string l[i].n)∧W.cell? ⟨g,off+i*3+2,none⟩=some (.string l[i].d)
def LstN (W:World) (v:Value) (l:List Nat):Prop :=
 (v=.slice none 0 0∧l=[])∨∃g off cap,v=.slice (some ⟨g,off,none⟩) l.length cap∧g<W.heap.size∧l.length≤1000 ∧
  ∀i (h:i<l.length),W.cell? ⟨g,off+i,none⟩=some (.string (encS l[i]))
theorem LstR.up {A W:World} {v:Value} {l:List Rw} (h:LstR A v l) (hb:Below A.heap.size A W):LstR W v l:=by
 rcases h with h|⟨g,off,cap,h1,h2,h3,h4⟩
 ·exact .inl h
 ·refine .inr ⟨g,off,cap,h1,Nat.lt_of_lt_of_le h2 hb.size,h3,fun i hi=> ?_⟩;rw [clU hb h2,clU hb h2,clU hb h2];exact h4 i hi
theorem LstN.up {A W:World} {v:Value} {l:List Nat} (h:LstN A v l) (hb:Below A.heap.size A W):LstN W v l:=by
 rcases h with h|⟨g,off,cap,h1,h2,h3,h4⟩
 ·exact .inl h
 ·refine .inr ⟨g,off,cap,h1,Nat.lt_of_lt_of_le h2 hb.size,h3,fun i hi=> ?_⟩;rw [clU hb h2];exact h4 i hi
theorem LstR.open {W:World} {v:Value} {l:List Rw} (h:LstR W v l):∃p cap,v=.slice p l.length cap∧l.length≤1000∧∀i (h:i<l.length),∃g off,p=some ⟨g,off,none⟩∧g<W.heap.size ∧
  W.cell? ⟨g,off+i*3,none⟩=some (.bool l[i].neg)∧W.cell? ⟨g,off+i*3+1,none⟩=some (.string l[i].n)∧W.cell? ⟨g,off+i*3+2,none⟩=some (.string l[i].d):=by
 rcases h with ⟨rfl,rfl⟩|⟨g,off,cap,h1,h2,h3,h4⟩
 ·exact ⟨none,0,rfl,by simp,fun i h=>absurd h (by simp)⟩
 ·exact ⟨some ⟨g,off,none⟩,cap,h1,h3,fun i hi=>⟨g,off,rfl,h2,h4 i hi⟩⟩
theorem LstN.open {W:World} {v:Value} {l:List Nat} (h:LstN W v l):∃p cap,v=.slice p l.length cap∧l.length≤1000∧∀i (h:i<l.length),∃g off,p=some ⟨g,off,none⟩∧g<W.heap.size ∧
  W.cell? ⟨g,off+i,none⟩=some (.string (encS l[i])):=by
 rcases h with ⟨rfl,rfl⟩|⟨g,off,cap,h1,h2,h3,h4⟩
 ·exact ⟨none,0,rfl,by simp,fun i h=>absurd h (by simp)⟩
 ·exact ⟨some ⟨g,off,none⟩,cap,h1,h3,fun i hi=>⟨g,off,rfl,h2,h4 i hi⟩⟩
def sumL (l:List Rw) (A:Rt):Rt:=l.foldl (fun A r=>addR A r.val) A
theorem sumL_take {l:List Rw} {k:Nat} (h:k<l.length) (A:Rt):sumL (l.take (k+1)) A=addR (sumL (l.take k) A) l[k].val:=by
 unfold sumL;rw [List.take_succ_eq_append_getElem h,List.foldl_append];rfl
theorem Rw.ok (r:Rw):r.val.Ok:=valQ_ok _ _ _
theorem Rw.rz {r:Rw} {k:Nat} (hk:1≤k) (h:r.n.size≤k∧r.d.size≤k):Rz r.val k:=valQ_sz hk h.1 h.2
theorem sumL_ok:∀(l:List Rw) (A:Rt),A.Ok→(sumL l A).Ok
 | [],A,h=>h
 | r::l,A,h=>sumL_ok l _ (addR_ok h r.ok)
theorem sumL_sz:∀(l:List Rw) (A:Rt) (k:Nat),SzL l 1000→Rz A k→Rz (sumL l A) (k+1001*l.length)
 | [],A,k,_,hA=>by unfold sumL;simpa using hA
 | r::l,A,k,h,hA=>by
  have h1:=addR_sz hA (Rw.rz (by decide) (h r (by simp)));have h2:=sumL_sz l _ _ (fun x hx=>h x (by simp [hx])) h1;have e:k+1001*(r::l).length=k+1000+1+1001*l.length:=by rw [List.length_cons,Nat.mul_add];omega
  rw [e];exact h2
theorem sumR_step {l:List Rw} {A:Rt} (hn:l.length≤20) (hs:SzL l 1000) (hA:A.Ok) (hz:Rz A 1000) {k:Nat} (h:k<l.length) :
  IsR (rtV (sumL (l.take k) A)) (sumL (l.take k) A) 30000∧IsR (.agg #[.bool l[k].neg,.string l[k].n,.string l[k].d]) l[k].val 30000:=by
 refine ⟨IsR.of (sumL_ok _ _ hA) ((sumL_sz (l.take k) A 1000 (fun r hr=>hs r (List.mem_of_mem_take hr)) hz).mono ?_),?_⟩
 ·have:(l.take k).length≤20:=by rw [List.length_take];omega
  omega
 ·have:=hs _ (List.getElem_mem h);exact Rw.isR ⟨by omega,by omega⟩
set_option maxRecDepth 100000 in
theorem foldS_any (l:List Rw) (v:Value) (A:Rt) (wq:World) (hl:LstR wq v l) (hn:l.length≤20) (hs:SzL l 1000) (hA:A.Ok) (hz:Rz A 1000) :
  Gv 93 #[v,.agg #[.bool A.neg,.string (encS A.num),.string (encS A.den)],.func (Fn.func 65) #[] #[]] wq (rtV (sumL l A)):=by
 unfold Gv;obtain ⟨p,ca,rfl,hla,hca⟩:=hl.open;have HC:=hD hca;have HF:Hid (∀k (h:k<l.length) w,Gv 65 #[rtV (sumL (l.take k) A),.agg #[.bool l[k].neg,.string l[k].n,.string l[k].d]] w (rtV (sumL (l.take (k+1)) A))):=hD fun k h w=>by
  rw [sumL_take h];have hh:=sumR_step hn hs hA hz h;exact RatAdd_r hh.1 hh.2 (by decide) (by decide) w
 clear hca hl hs hA hz;obtain ⟨W2,hW2,hx4,hx6,hb2⟩:=boxes2 wq (.cells #[.bool A.neg,.string (encS A.num),.string (encS A.den)] 26) (.cells #[.bool false,.string ⟨#[]⟩,.string ⟨#[]⟩] 26);go_enter Tryz.func93,Tryz.ntmps93;go_wp2_with fail;obtain ⟨b4,hb4⟩:∃b,wq.heap.size=b:=⟨_,rfl⟩;obtain ⟨b6,hb6⟩:∃b,b4+1=b:=⟨_,rfl⟩;rw [hb4] at hx4 hx6 ⊢;rw [hb6] at hx6 ⊢;have HX4:=hD hx4;have HX6:=hD hx6;have HB2:=hD hb2;have HNE:Hid (b6≠b4):=hD (by omega);have HLB:Hid (b4<W2.heap.size∧b6<W2.heap.size):=hD ⟨(Array.getElem?_eq_some_iff.1 hx4).1,(Array.getElem?_eq_some_iff.1 hx6).1⟩;clear hx4 hx6 hb2 hW2
 go_loopw [11] (fun i wr=>∃(k:Nat) (B:Rt),k≤l.length∧i=.int .i64 (k:Int)∧Hid (B=sumL (l.take k) A)∧Hid (wr.heap[b4]? =some (.cells #[.bool B.neg,.string (encS B.num),.string (encS B.den)] 26 (0,0)))∧Hid (wr.heap[b6]? =some (.cells #[.bool false,.string ⟨#[]⟩,.string ⟨#[]⟩] 26 (0,0)))∧Hid (Below wq.heap.size wq wr)) (fun i _=>l.length-(intOf i).toNat)
 case atStart=>exact ⟨0,A,by omega,rfl,hD rfl,HX4,HX6,HB2⟩
 case round =>
  obtain ⟨k,B,hk,rfl,HBE,HX4,HX6,HBW⟩:=hrel
  by_cases hlt:k<l.length
  ·have hlt' :(k:Int)<(l.length:Int):=by omega
   obtain ⟨g,off,rfl,hg,c1,c2,c3⟩:=HC.out k hlt;have hgr:=Nat.lt_of_lt_of_le hg HBW.out.size;have d1:wr.cell? ⟨g,off+k*3,none⟩=some (.bool l[k].neg):=by rw [clU HBW.out hg];exact c1
   have d2:wr.cell? ⟨g,off+k*3+1,none⟩=some (.string l[k].n):=by rw [clU HBW.out hg];exact c2
   have d3:wr.cell? ⟨g,off+k*3+2,none⟩=some (.string l[k].d):=by rw [clU HBW.out hg];exact c3
   clear c1 c2 c3;obtain ⟨wo,hwo⟩:∃wo,wo=wr:=⟨_,rfl⟩;subst hwo;have HFK:=hD (HF.out k hlt);rw [←HBE.out] at HFK;obtain ⟨C,hC⟩:∃C,sumL (l.take (k+1)) A=C:=⟨_,rfl⟩;rw [hC] at HFK;have HCE:=hD hC.symm;clear hC;unfold rtV at HFK;have hb1:=HBW.out.alloc HBW.out.size (.cells #[.bool l[k].neg,.string l[k].n,.string l[k].d] 26);have HB1:=hD hb1;have HY4:=hD (hpU ((Below.refl _ wo).alloc (Nat.le_refl _) (.cells #[.bool l[k].neg,.string l[k].n,.string l[k].d] 26)) HX4.out);have HY6:=hD (hpU ((Below.refl _ wo).alloc (Nat.le_refl _) (.cells #[.bool l[k].neg,.string l[k].n,.string l[k].d] 26)) HX6.out);clear hb1;obtain ⟨⟨ca0,ca1,ca2⟩,-⟩:=rwC HY4.out;go_wp2_with fail;refine (HFK.out _).mono ?_;rintro e w1 ⟨rfl,hb⟩;have hx4:=hpU hb HY4.out;have HX6:=uH hb HY6;have HB3:=hD (HB1.out.trans (hb.mono HB1.out.size));have HX4:=hD hx4;clear hb d1 d2 d3 ca0 ca1 ca2 hx4;obtain ⟨⟨cz0,cz1,cz2⟩,hfz⟩:=rwC HX4.out
   have fz0:=hfz 0;have fz1:=hfz 1;have fz2:=hfz 2;have HROW:=hD (row_set HX4.out (.bool C.neg) (.string (encS C.num)) (.string (encS C.den)));have HBN:=hD (below_row HB3.out (b:=b4) (by omega) (.bool C.neg) (.string (encS C.num)) (.string (encS C.den)));have HZ6:Hid ((((w1.setCell ⟨b4,0,none⟩ (.bool C.neg)).setCell ⟨b4,1,none⟩ (.string (encS C.num))).setCell ⟨b4,2,none⟩ (.string (encS C.den))).heap[b6]? =some (.cells #[.bool false,.string ⟨#[]⟩,.string ⟨#[]⟩] 26 (0,0))):=hD (by simpa [World.setCell,Array.getElem?_modify,Ne.symm HNE.out] using HX6.out);clear hfz;go_wp2_with fail
   go_roundw
   case rel=>exact ⟨k+1,C,by omega,by go_num,HCE,HROW,HZ6,HBN⟩
   case measure=>simp [intOf];omega
  ·have hge:(l.length:Int)≤(k:Int):=by omega
   have HT:Hid (sumL l A=B):=hD (by rw [HBE.out,List.take_of_length_le (by omega)]);obtain ⟨⟨ca0,ca1,ca2⟩,-⟩:=rwC HX4.out;obtain ⟨⟨cz0,cz1,cz2⟩,hfz⟩:=rwC HX6.out;have fz0:=hfz 0;have fz1:=hfz 1;have fz2:=hfz 2;have HROW:=hD (row_set HX6.out (.bool B.neg) (.string (encS B.num)) (.string (encS B.den)));have HBN:=hD (below_row HBW.out (b:=b6) (by omega) (.bool B.neg) (.string (encS B.num)) (.string (encS B.den)));clear hfz;go_wp2_with fail;refine bodyPost_ret (rC1 HROW.out) rfl ?_;exact ⟨by rw [HT.out];rfl,HBN.out⟩
theorem Sum_any (l:List Rw) (v:Value) (wq:World) (hl:LstR wq v l) (hn:l.length≤20) (hs:SzL l 1000) :
  Gv 54 #[v] wq (rtV (sumL l zeroR)):=by
 unfold Gv;have HF:=hD (fun w (h:LstR w v l)=>foldS_any l v zeroR w h hn hs zeroR_ok (zeroR_sz.mono (by decide)));have HO:=hD (fun w=>RatOf_any 0 w (by decide) (by decide));rw [ofR_zero] at HO;obtain ⟨Z,hZ⟩:∃Z,zeroR=Z:=⟨_,rfl⟩;rw [hZ] at HF HO ⊢;obtain ⟨C,hC⟩:∃C,sumL l Z=C:=⟨_,rfl⟩;rw [hC] at HF ⊢;clear hZ hC;have HFE:Hid (∀w,LstR w v l→Gv 93 #[v,.agg #[.bool Z.neg,.string (encS Z.num),.string (encS Z.den)],.func (Fn.func 65) #[] #[]] w (.agg #[.bool C.neg,.string (encS C.num),.string (encS C.den)])):=HF;have HX0:=hD (zeroR_row wq);have HB0:=hD (below_zrow wq rB);have HL:=hD (hl.up (below_zrow wq rB));clear hl hn hs;go_enter Tryz.func54,Tryz.ntmps54;go_wp2_with fail;refine (HO.out _).mono ?_;rintro e w1 ⟨rfl,hb⟩;have HX1:=uH hb HX0;have HB1:=hD (HB0.out.trans (hb.mono HB0.out.size));have HF1:=hD (HFE.out w1 (HL.out.up hb));unfold rtV;clear hb;go_wp2_with fail;refine (HF1.out).mono ?_
 rintro e w2 ⟨rfl,hb⟩;have HX2:=uH hb HX1;have HB2:=hD (HB1.out.trans (hb.mono HB1.out.size));clear hb;obtain ⟨⟨cz0,cz1,cz2⟩,hfz⟩:=rwC HX2.out;have fz0:=hfz 0;have fz1:=hfz 1;have fz2:=hfz 2;have HROW:=hD (row_set HX2.out (.bool C.neg) (.string (encS C.num)) (.string (encS C.den)));have HBN:=hD (below_row HB2.out (b:=wq.heap.size) (Nat.le_refl _) (.bool C.neg) (.string (encS C.num)) (.string (encS C.den)));clear hfz;go_wp2_with fail;refine bodyPost_ret (rC1 HROW.out) rfl ?_;exact ⟨rfl,HBN.out⟩
end Go.Proofs.YtabfjecegpaoaaaGreatDoor
