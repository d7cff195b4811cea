/- RateAt: contracts and the law's walk. Each theorem names its conditions. -/
import Derived.WalkKit
import Derived.Deep.LoopGhost
import Derived.Deep.QuietTactic
import Derived.BigQuiet
import Derived.Test.YtblgfmjlajhipaaGreatDoorProg
import Derived.WalkSpells
import Derived.WalkLawsBesides
import Derived.IntWalk
import Derived.Lib.Hide
import Derived.Laws.BitsAllLaws
import Derived.StillTailTactics
import Derived.Deep.OwnRows
import Derived.Lib.ConvBytes
import Derived.Below
import Derived.Shelf.Strings.Trim
import Derived.Shelf.Small.Utf8
import Derived.Shelf.Small.Bits
import Derived.Shelf.Small.Strs
import Derived.Shelf.Strconv.Itoa0
import Derived.Shelf.Strings.Search1
import Derived.Shelf.Strings.Runes
import Derived.Shelf.Strings.AsciiSet
import Derived.Shelf.Unicode.DecodeSlow
import Derived.Shelf.Unicode.DecodeAny
import Derived.Ground.SlgmProg
import Derived.Shelf.SortM.Plain
import Derived.Shelf.SortM.SortNone
import Derived.Test.YtblgfmjlajhipaaGreatDoorZb8
import Derived.Test.YtblgfmjlajhipaaGreatDoorZb6
import Derived.Test.YtblgfmjlajhipaaGreatDoorKta2
import Derived.Test.YtblgfmjlajhipaaGreatDoorZb5
import Derived.Test.YtblgfmjlajhipaaGreatDoorZa7
import Derived.Test.YtblgfmjlajhipaaGreatDoorZa6
import Derived.Test.YtblgfmjlajhipaaGreatDoorZa5
import Derived.Test.YtblgfmjlajhipaaGreatDoorZa4
import Derived.Test.YtblgfmjlajhipaaGreatDoorZa3
import Derived.Test.YtblgfmjlajhipaaGreatDoorZa0
import Derived.Test.YtblgfmjlajhipaaGreatDoorZa1
import Derived.Test.YtblgfmjlajhipaaGreatDoorKta0
import Derived.Test.YtblgfmjlajhipaaGreatDoorZa2
set_option maxHeartbeats 16000000
set_option linter.unusedVariables false
namespace Go.Proofs.YtblgfmjlajhipaaGreatDoor
open Go.RowKit Go.Shelf
open Dgt
def ErCheck_any_19_1 (ca:Nat) (l:List Bk) (b:Bk) (a:Bk) (k:Nat) (j:Nat) (g:Nat) (off:Nat) (cz:Int):Nat→Value
 | 0=>.slice (some ⟨g,off,none⟩) l.length ca
 | 1=>.int .i64 (k:Int)
 | 2=>.int .i64 (j:Int)
 | 3=>.pointer (some ⟨g,off+j*6,none⟩)
 | 4=>.pointer (some ⟨g,off+j*6,none⟩)
 | 5=>.agg #[.bool a.fr.neg,.string a.fr.n,.string a.fr.d]
 | 6=>.slice (some ⟨g,off,none⟩) l.length ca
 | 7=>.int .i64 (k:Int)
 | 8=>.pointer (some ⟨g,off+k*6,none⟩)
 | 9=>.pointer (some ⟨g,off+k*6,none⟩)
 | 10=>.agg #[.bool b.fr.neg,.string b.fr.n,.string b.fr.d]
 | 11=>.int .i64 cz
 | 12=>.int .i64 cz
 | _=>undef
set_option maxRecDepth 100000 in
theorem rCheck_any (nm:ByteArray) (um ud:Int) (v:Value) (l:List Bk) (hz:SzK l 1100000) (wq:World) (hl:LstK wq v l) :
  Gv 45 #[.agg #[.string nm,.int .i64 um,.int .i64 ud,v]] wq (.int .i64 (ckB l)):=by
 unfold Gv;obtain ⟨ps,ca,rfl,-,hla,hca⟩:=hl.open;have HAT:=hD hca;have HZ:=hD hz;have HLA:=hD hla;clear hca hl hz hla;have HK:=hD (show ckB l=if 8<l.length then 2 else if l.length=0 then 11 else if formB l=true then (if rangeB l=true then 0 else 3) else 11 from rfl);have HFB:Hid (8<l.length∨l.length=0∨∀k,k<l.length→okAt l k=false→ckB l=11):=hD (by
  by_cases h8:8<l.length
  ·exact .inl h8
  ·by_cases h0:l.length=0
   ·exact .inr (.inl h0)
   ·refine .inr (.inr fun k hk h=> ?_);rw [HK.out,if_neg h8,if_neg h0,if_neg (by rw [form_iff];intro hc;have:=hc k hk;rw [h] at this;cases this)])
 have HRB:Hid (8<l.length∨l.length=0∨∀k (h:k<l.length),(∀j,j<l.length→okAt l j=true)→(fitsR l[k].fr&&fitsR l[k].rt)=false→ckB l=3):=hD (by
  by_cases h8:8<l.length
  ·exact .inl h8
  ·by_cases h0:l.length=0
   ·exact .inr (.inl h0)
   ·refine .inr (.inr fun k hk ho h=> ?_);rw [HK.out,if_neg h8,if_neg h0,if_pos (form_iff.2 ho),if_neg];intro hc;have:=List.all_eq_true.1 hc l[k] (List.getElem_mem hk);rw [h] at this;cases this)
 have HCK:Hid (¬8<l.length→¬l.length=0→(∀j,j<l.length→okAt l j=true)→(∀k (h:k<l.length),(fitsR l[k].fr&&fitsR l[k].rt)=true)→ckB l=0):=hD (fun h8 h0 ho hr=>by
  rw [HK.out,if_neg h8,if_neg h0,if_pos (form_iff.2 ho),if_pos];unfold rangeB;rw [List.all_eq_true];intro b hb;obtain ⟨k,hk,rfl⟩:=List.getElem_of_mem hb;exact hr k hk)
 obtain ⟨C,hC⟩:∃c,ckB l=c:=⟨_,rfl⟩;rw [hC] at HK HFB HRB HCK ⊢;clear hC;have HB:=hD (Below.refl wq.heap.size wq);obtain ⟨n0,hn0⟩:∃n,n=wq.heap.size:=⟨_,rfl⟩;rw [←hn0];have HN0:=hD hn0;clear hn0;go_enter Tryz.func45,Tryz.ntmps45;obtain ⟨W1,bk1,hW1,hbk1,HX1_1,HB,HG1_1,hup⟩:=boxn HB HN0 (.cells #[.string nm,.int .i64 um,.int .i64 ud,.slice ps l.length ca] 26);clear hup;have k2:W1.cell? ⟨bk1,3,none⟩=some (.slice ps l.length ca):=by rw [Lib.cell_of_heap HX1_1.out];rfl
 by_cases h8:8<l.length
 ·have hC:=HK.out;rw [if_pos h8] at hC;subst hC;have h8' :(8:Int)<(l.length:Int):=by omega
  clear HK HFB HRB HCK;go_wp2_with fail;clear hW1 hbk1 k2;go_ret;exact ⟨rfl,by rw [HN0.out];exact HB.out⟩
 ·rw [if_neg h8] at HK;have h8' :¬(8:Int)<(l.length:Int):=by omega
  by_cases h0:l.length=0
  ·have hC:=HK.out;rw [if_pos h0] at hC;subst hC;have h0' :((l.length:Int)==0)=true:=by rw [h0];rfl
   clear HK HFB HRB HCK h0 h8;go_wp2_with fail;clear hW1 hbk1 k2;go_ret;exact ⟨rfl,by rw [HN0.out];exact HB.out⟩
  ·have h0' :((l.length:Int)==0)=false:=beq_eq_false_iff_ne.2 (by omega);have HFB:=hD ((HFB.out.resolve_left h8).resolve_left h0);have HRB:=hD ((HRB.out.resolve_left h8).resolve_left h0);have HCK:=hD (HCK.out h8 h0);clear HK;have HL0:Hid (0<l.length):=hD (by omega);clear h0;go_wp2_with fail;clear hW1 hbk1 k2;clear h8 h8' h0'
   go_loopw [4] (fun s4 wr=>∃(k:Nat),k≤l.length∧s4=.int .i64 (k:Int)∧Hid (∀j (h:j<l.length),j<k→(l[j].fr.right&&l[j].rt.right)=true)∧Hid (wr.heap[bk1]? =some (.cells #[.string nm,.int .i64 um,.int .i64 ud,.slice ps l.length ca] 26 (0,0)))∧Hid (Below wq.heap.size wq wr)) (fun s4 _=>l.length-(intOf s4).toNat)
   case atStart=>exact ⟨0,by omega,by first|rfl|go_num,hD (fun j h h2=>absurd h2 (by omega)),HX1_1,HB⟩
   case round =>
    obtain ⟨k,hk,rfl,HA,HX1_1,HB⟩:=hrel
    by_cases hlt:k<l.length
    ·have hlt' :(k:Int)<(l.length:Int):=by omega
     obtain ⟨g,off,rfl,hat⟩:=HAT.out k hlt;have HE:=hD hat;have hzk:=HZ.out _ (List.getElem_mem hlt);have c1:=fun w=>rRatRight_any l[k].fr.neg l[k].fr.n l[k].fr.d w (by have:=hzk.1;omega) (by have:=hzk.1;omega)
     have c2:=fun w=>rRatRight_any l[k].rt.neg l[k].rt.n l[k].rt.d w (by have:=hzk.2;omega) (by have:=hzk.2;omega)
     have HBD:Hid ((l[k].fr.right&&l[k].rt.right)=false→C=11):=hD fun h=>HFB.out k hlt (by rw [okAt_eq hlt,h,Bool.false_and])
     have HAS:Hid ((l[k].fr.right&&l[k].rt.right)=true→∀j (h:j<l.length),j<k+1→(l[j].fr.right&&l[j].rt.right)=true):=hD fun h j hj hjk=>by
      rcases Nat.lt_or_ge j k with h1|h1
      ·exact HA.out j hj h1
      ·obtain rfl:j=k:=by omega
       exact h
     obtain ⟨b,hb⟩:∃b,l[k]=b:=⟨_,rfl⟩;rw [hb] at HE c1 c2 HBD HAS;obtain ⟨P,hP⟩:∃p,b.fr.right=p:=⟨_,rfl⟩;obtain ⟨Q,hQ⟩:∃p,b.rt.right=p:=⟨_,rfl⟩;rw [show rightR b.fr.neg b.fr.n b.fr.d=P from hP] at c1;rw [show rightR b.rt.neg b.rt.n b.rt.d=Q from hQ] at c2;rw [hP,hQ] at HBD HAS;have HLT:=hD hlt;have C1:Hid (∀w,Gv 85 #[.agg #[.bool b.fr.neg,.string b.fr.n,.string b.fr.d]] w (.bool P)):=hD c1;have C2:Hid (∀w,Gv 85 #[.agg #[.bool b.rt.neg,.string b.rt.n,.string b.rt.d]] w (.bool Q)):=hD c2;clear c1 c2 hzk hat hb hP hQ hlt hk HA;have HWI:Hid (IntKind.i64.wrap ((k:Int)+1)=((k+1:Nat):Int)):=hD (by rw [IntWalk.i64_in _ (by have:=HLT.out;have:=HLA.out;omega)];omega);obtain ⟨k3e0,k3e1,k3e2,k3e3,k3e4,k3e5⟩:=HE.out _ HB.out;go_wp2_with fail;clear hlt' k3e0 k3e1 k3e2 k3e3 k3e4 k3e5;refine (C1.out _).mono ?_;rintro e w2 ⟨rfl,hb⟩;have HX1_1:=uH hb HX1_1;have HB:=mH HB hb;clear hb
     obtain ⟨k4e0,k4e1,k4e2,k4e3,k4e4,k4e5⟩:=HE.out _ HB.out;go_wp2_with fail;clear k4e0 k4e1 k4e2 k4e3 k4e4 k4e5;refine (C2.out _).mono ?_;rintro e w3 ⟨rfl,hb⟩;have HX1_1:=uH hb HX1_1;have HB:=mH HB hb;clear hb;cases P
     case false =>
      have hC:C=11:=HBD.out rfl;subst hC;go_wp2_with fail;go_ret;exact ⟨rfl,by rw [HN0.out];exact HB.out⟩
     case true =>
      cases Q
      case false =>
       have hC:C=11:=HBD.out rfl;subst hC;go_wp2_with fail;go_ret;exact ⟨rfl,by rw [HN0.out];exact HB.out⟩
      case true =>
       have hwi:=HWI.out;have HA2:=hD (HAS.out rfl);go_wp2_with fail;clear hwi
       go_roundw
       case rel=>exact ⟨k+1,by have:=HLT.out;omega,by first|rfl|go_num,HA2,HX1_1,HB⟩
       case measure=>have:=HLT.out;simp [intOf];omega
    ·have hge:¬(k:Int)<(l.length:Int):=by omega
     have HR1:Hid (∀j (h:j<l.length),(l[j].fr.right&&l[j].rt.right)=true):=hD fun j h=>HA.out j h (by omega)
     clear HA hlt hk;obtain ⟨g,off,rfl,hat⟩:=HAT.out 0 HL0.out;have HE:=hD hat;have hzk:=HZ.out _ (List.getElem_mem HL0.out);rw [Nat.zero_mul,Nat.add_zero] at HE;have hl0:=HL0.out;have c3:=fun w=>rRatSign_r (isR_raw hzk.1) (by decide) w
     have HO0:Hid (okAt l 0=decide (sgnR l[0].fr.val=0)):=hD (by rw [okAt_0 HL0.out,HR1.out 0 HL0.out,Bool.true_and]);have HBD:=hD (HFB.out 0 HL0.out);obtain ⟨b,hb⟩:∃b,l[0]=b:=⟨_,rfl⟩;rw [hb] at HE c3 HO0;obtain ⟨z,hz⟩:∃z,sgnR b.fr.val=z:=⟨_,rfl⟩;rw [hz] at c3 HO0;have hl0' :(0:Int)<(l.length:Int):=by have:=HL0.out;omega
     have C1:Hid (∀w,Gv 26 #[.agg #[.bool b.fr.neg,.string b.fr.n,.string b.fr.d]] w (.int .i64 z)):=hD c3;clear c3 hzk hat hb hz hl0;obtain ⟨tz,htz⟩:∃xq,(z != 0)=xq:=⟨_,rfl⟩;have Htz:=hD htz;clear htz;obtain ⟨k5e0,k5e1,k5e2,k5e3,k5e4,k5e5⟩:=HE.out _ HB.out;go_wp2_with fail;clear hge hl0' k5e0 k5e1 k5e2 k5e3 k5e4 k5e5;refine (C1.out _).mono ?_;rintro e w4 ⟨rfl,hb⟩;have HX1_1:=uH hb HX1_1;have HB:=mH HB hb;clear hb;cases tz
     case false =>
      have q6:=Htz.out;have HA0:Hid (okAt l 0=true):=hD (by rw [HO0.out];have:=Htz.out;simpa using this);go_wp2_with fail;clear q6;clear HBD HO0 Htz HE
      go_loopw [8] (fun s8 wr=>∃(k:Nat),k≤l.length∧1≤k∧s8=.int .i64 (k:Int)∧Hid (∀j,j<k→okAt l j=true)∧Hid (wr.heap[bk1]? =some (.cells #[.string nm,.int .i64 um,.int .i64 ud,.slice (some ⟨g,off,none⟩) l.length ca] 26 (0,0)))∧Hid (Below wq.heap.size wq wr)) (fun s8 _=>l.length-(intOf s8).toNat)
      case atStart=>exact ⟨1,by have:=HL0.out;omega,by omega,by first|rfl|go_num,hD (fun j h=>by rw [show j=0 by omega];exact HA0.out),HX1_1,HB⟩
      case round =>
       obtain ⟨k,hk,hlo,rfl,HA,HX1_1,HB⟩:=hrel
       by_cases hlt:k<l.length
       ·have hlt' :(k:Int)<(l.length:Int):=by omega
        obtain ⟨j,rfl⟩:∃j,k=j+1:=⟨k-1,by omega⟩;obtain ⟨g2,off2,he2,hat⟩:=HAT.out (j+1) hlt;simp only [Option.some.injEq,Addr.mk.injEq,and_true] at he2;obtain ⟨rfl,rfl⟩:=he2;obtain ⟨g2,off2,he2,hat2⟩:=HAT.out j (by omega);simp only [Option.some.injEq,Addr.mk.injEq,and_true] at he2;obtain ⟨rfl,rfl⟩:=he2;have HE:=hD hat;have HE2:=hD hat2;have c1:=fun w=>rRatCmp_r (isR_raw (HZ.out _ (List.getElem_mem (show j<l.length by omega))).1) (isR_raw (HZ.out _ (List.getElem_mem hlt)).1) (by decide) (by decide) w
        have HO:Hid (okAt l (j+1)=decide (cmpR l[j].fr.val l[j+1].fr.val<0)):=hD (by rw [okAt_s hlt,HR1.out _ hlt,Bool.true_and]);have HBD:=hD (HFB.out _ hlt);have HAS:Hid (okAt l (j+1)=true→∀i,i<j+1+1→okAt l i=true):=hD fun h i hi=>by
         rcases Nat.lt_or_ge i (j+1) with h1|h1
         ·exact HA.out i h1
         ·rw [show i=j+1 by omega];exact h
        obtain ⟨b,hb⟩:∃b,l[j+1]=b:=⟨_,rfl⟩;obtain ⟨a,ha⟩:∃a,l[j]=a:=⟨_,rfl⟩;rw [hb] at HE c1 HO;rw [ha] at HE2 c1 HO;obtain ⟨cz,hcz⟩:∃c,cmpR a.fr.val b.fr.val=c:=⟨_,rfl⟩;rw [hcz] at c1 HO;obtain ⟨k,hkj⟩:∃k,j+1=k:=⟨_,rfl⟩;rw [hkj] at HE HO HBD HAS hlt;have HJ:Hid (IntKind.i64.wrap ((k:Int)-1)=(j:Int)∧(j:Int)<(l.length:Int)):=hD ⟨by rw [IntWalk.i64_in _ (by have:=HLA.out;omega)];omega,by omega⟩;have HLT:=hD hlt;rw [hkj] at hlt' ⊢;have C2:Hid (∀w,Gv 24 #[.agg #[.bool a.fr.neg,.string a.fr.n,.string a.fr.d],.agg #[.bool b.fr.neg,.string b.fr.n,.string b.fr.d]] w (.int .i64 cz)):=hD c1;have HKJ:=hD hkj;clear c1 hat hat2 hb ha hcz hkj hlo hlt hk HA;have HWI:Hid (IntKind.i64.wrap ((k:Int)+1)=((k+1:Nat):Int)):=hD (by rw [IntWalk.i64_in _ (by have:=HLT.out;have:=HLA.out;omega)];omega);obtain ⟨tz,htz⟩:∃xq,decide (0≤cz)=xq:=⟨_,rfl⟩;have Htz:=hD htz;clear htz;go_wp2_with fail;clear hlt'
        refine wpVl (w:=wr) (by kernel_rfl) (fun ix v _=>v=ErCheck_any_19_1 ca l b a k j g off cz ix) (fun t=>(decide (9≤t)&&decide (t<10))||(decide (58≤t)&&decide (t<70))) (by kernel_rfl) (by kernel_rfl) (by kernel_rfl) (fun _ _ _ _ _ h=>h) ?_ ?_
        ·intro i hi ov_ listed av_ w hR K hK;have ho:=hR.at_;have hi:i<13:=hi;have hii:i=0∨i=1∨i=2∨i=3∨i=4∨i=5∨i=6∨i=7∨i=8∨i=9∨i=10∨i=11∨i=12:=by omega
         rcases hii with rfl|rfl|rfl|rfl|rfl|rfl|rfl|rfl|rfl|rfl|rfl|rfl|rfl<;>(simp at ho;subst ho)
         ·have b3:av_.tmps.getD 3 undef=.slice (some ⟨g,off,none⟩) l.length ca:=hR.b 3;refine pSq ?_;go_simp;exact hK _ _ rfl rB
         ·have b8:av_.tmps.getD 8 undef=.int .i64 (k:Int):=hR.b 8;refine pSq ?_;go_simp;exact hK _ _ rfl rB
         ·have e1:av_.tmps.getD 59 undef=.int .i64 (k:Int):=hR.d 1;have hj1:=HJ.out.1;refine pSq ?_;go_simp;exact hK _ _ rfl rB
         ·have e0:av_.tmps.getD 58 undef=.slice (some ⟨g,off,none⟩) l.length ca:=hR.d 0;have e2:av_.tmps.getD 60 undef=.int .i64 (j:Int):=hR.d 2;have hj2:=HJ.out.2;refine pSq ?_;go_simp;exact hK _ _ rfl rB
         ·have e3:av_.tmps.getD 61 undef=.pointer (some ⟨g,off+j*6,none⟩):=hR.d 3;refine pSq ?_;go_simp;exact hK _ _ rfl rB
         ·have e4:av_.tmps.getD 62 undef=.pointer (some ⟨g,off+j*6,none⟩):=hR.d 4;obtain ⟨cx0,cx1,cx2,cx3,cx4,cx5⟩:=HE2.out _ (HB.out.trans (hR.below.mono HB.out.size));refine pSq ?_;go_simp;exact hK _ _ rfl rB
         ·have b3:av_.tmps.getD 3 undef=.slice (some ⟨g,off,none⟩) l.length ca:=hR.b 3;refine pSq ?_;go_simp;exact hK _ _ rfl rB
         ·have b8:av_.tmps.getD 8 undef=.int .i64 (k:Int):=hR.b 8;refine pSq ?_;go_simp;exact hK _ _ rfl rB
         ·have e6:av_.tmps.getD 64 undef=.slice (some ⟨g,off,none⟩) l.length ca:=hR.d 6;have e7:av_.tmps.getD 65 undef=.int .i64 (k:Int):=hR.d 7;have hk3:(k:Int)<(l.length:Int):=by have:=HLT.out;omega
          refine pSq ?_;go_simp;exact hK _ _ rfl rB
         ·have e8:av_.tmps.getD 66 undef=.pointer (some ⟨g,off+k*6,none⟩):=hR.d 8;refine pSq ?_;go_simp;exact hK _ _ rfl rB
         ·have e9:av_.tmps.getD 67 undef=.pointer (some ⟨g,off+k*6,none⟩):=hR.d 9;obtain ⟨cx0,cx1,cx2,cx3,cx4,cx5⟩:=HE.out _ (HB.out.trans (hR.below.mono HB.out.size));refine pSq ?_;go_simp;exact hK _ _ rfl rB
         ·have e5:av_.tmps.getD 63 undef=.agg #[.bool a.fr.neg,.string a.fr.n,.string a.fr.d]:=hR.d 5;have e10:av_.tmps.getD 68 undef=.agg #[.bool b.fr.neg,.string b.fr.n,.string b.fr.d]:=hR.d 10;refine pSq ?_;go_simp;refine (C2.out w).mono ?_;rintro e w' ⟨rfl,hb⟩;exact hK _ _ (rfl) hb
         ·have e11:av_.tmps.getD 69 undef=.int .i64 cz:=hR.d 11;refine pSq ?_;go_simp;exact hK _ _ rfl rB
        ·intro sv_ w hS hb;have e11:sv_ 69=.int .i64 cz:=hS 11 (by decide);have e12:sv_ 9=.int .i64 cz:=hS 12 (by decide);simp only [over,ovL,Nat.reduceAdd,Nat.reduceLeDiff,Nat.reduceLT];have HB:=mH HB hb;have HX1_1:=uH hb HX1_1;obtain ⟨w5,hw⟩:∃w8,w8=w:=⟨_,rfl⟩;subst hw;rw [e11,e12];clear hS hb e11 e12;cases tz
         case false =>
          have q7:=Htz.out;have HA2:=hD (HAS.out (by rw [HO.out];have:=Htz.out;simp at this ⊢;omega));have hwi:=HWI.out;go_wp2_with fail;clear q7 hwi
          go_roundw
          case rel=>exact ⟨k+1,by have:=HLT.out;omega,by omega,by first|rfl|go_num,hD (fun i hi=>HA2.out i (by have:=HKJ.out;omega)),HX1_1,HB⟩
          case measure=>have:=HLT.out;simp [intOf];omega
         case true =>
          have q8:=Htz.out;have hC:C=11:=HBD.out (by rw [HO.out];have:=Htz.out;simp at this ⊢;omega);subst hC;go_wp2_with fail;clear q8;go_ret;exact ⟨rfl,by rw [HN0.out];exact HB.out⟩
       ·have hge:¬(k:Int)<(l.length:Int):=by omega
        have HF1:Hid (∀j,j<l.length→okAt l j=true):=hD fun j h=>HA.out j (by omega)
        have HRB:=hD (fun k h=>HRB.out k h HF1.out);have HCK:=hD (HCK.out HF1.out);clear HA hlt hk hlo HFB;go_wp2_with fail;clear hge
        go_loopw [10] (fun s10 wr=>∃(k:Nat),k≤l.length∧s10=.int .i64 (k:Int)∧Hid (∀j (h:j<l.length),j<k→(fitsR l[j].fr&&fitsR l[j].rt)=true)∧Hid (wr.heap[bk1]? =some (.cells #[.string nm,.int .i64 um,.int .i64 ud,.slice (some ⟨g,off,none⟩) l.length ca] 26 (0,0)))∧Hid (Below wq.heap.size wq wr)) (fun s10 _=>l.length-(intOf s10).toNat)
        case atStart=>exact ⟨0,by omega,by first|rfl|go_num,hD (fun j h h2=>absurd h2 (by omega)),HX1_1,HB⟩
        case round =>
         obtain ⟨k,hk,rfl,HA,HX1_1,HB⟩:=hrel
         by_cases hlt:k<l.length
         ·have hlt' :(k:Int)<(l.length:Int):=by omega
          obtain ⟨g2,off2,he2,hat⟩:=HAT.out k hlt;simp only [Option.some.injEq,Addr.mk.injEq,and_true] at he2;obtain ⟨rfl,rfl⟩:=he2;have HE:=hD hat;have hzk:=HZ.out _ (List.getElem_mem hlt);have c1:=fun w=>rFits_any l[k].fr (by have:=hzk.1;omega) (by have:=hzk.1;omega) w
          have c2:=fun w=>rFits_any l[k].rt (by have:=hzk.2;omega) (by have:=hzk.2;omega) w
          have HBD:=hD (HRB.out k hlt);have HAS:Hid ((fitsR l[k].fr&&fitsR l[k].rt)=true→∀j (h:j<l.length),j<k+1→(fitsR l[j].fr&&fitsR l[j].rt)=true):=hD fun h j hj hjk=>by
           rcases Nat.lt_or_ge j k with h1|h1
           ·exact HA.out j hj h1
           ·obtain rfl:j=k:=by omega
            exact h
          obtain ⟨b,hb⟩:∃b,l[k]=b:=⟨_,rfl⟩;rw [hb] at HE c1 c2 HBD HAS;obtain ⟨P,hP⟩:∃p,fitsR b.fr=p:=⟨_,rfl⟩;obtain ⟨Q,hQ⟩:∃p,fitsR b.rt=p:=⟨_,rfl⟩;rw [hP] at c1;rw [hQ] at c2;rw [hP,hQ] at HBD HAS;have HLT:=hD hlt;have C2:Hid (∀w,Gv 82 #[.agg #[.bool b.fr.neg,.string b.fr.n,.string b.fr.d]] w (.bool P)):=hD c1;have C3:Hid (∀w,Gv 82 #[.agg #[.bool b.rt.neg,.string b.rt.n,.string b.rt.d]] w (.bool Q)):=hD c2;clear c1 c2 hzk hat hb hP hQ hlt hk HA;have HWI:Hid (IntKind.i64.wrap ((k:Int)+1)=((k+1:Nat):Int)):=hD (by rw [IntWalk.i64_in _ (by have:=HLT.out;have:=HLA.out;omega)];omega);obtain ⟨k9e0,k9e1,k9e2,k9e3,k9e4,k9e5⟩:=HE.out _ HB.out;go_wp2_with fail;clear hlt' k9e0 k9e1 k9e2 k9e3 k9e4 k9e5;refine (C2.out _).mono ?_;rintro e w6 ⟨rfl,hb⟩;have HX1_1:=uH hb HX1_1;have HB:=mH HB hb;clear hb;obtain ⟨k10e0,k10e1,k10e2,k10e3,k10e4,k10e5⟩:=HE.out _ HB.out;go_wp2_with fail
          clear k10e0 k10e1 k10e2 k10e3 k10e4 k10e5;refine (C3.out _).mono ?_;rintro e w7 ⟨rfl,hb⟩;have HX1_1:=uH hb HX1_1;have HB:=mH HB hb;clear hb;cases P
          case false =>
           have hC:C=3:=HBD.out rfl;subst hC;go_wp2_with fail;go_ret;exact ⟨rfl,by rw [HN0.out];exact HB.out⟩
          case true =>
           cases Q
           case false =>
            have hC:C=3:=HBD.out rfl;subst hC;go_wp2_with fail;go_ret;exact ⟨rfl,by rw [HN0.out];exact HB.out⟩
           case true =>
            have hwi:=HWI.out;have HA2:=hD (HAS.out rfl);go_wp2_with fail;clear hwi
            go_roundw
            case rel=>exact ⟨k+1,by have:=HLT.out;omega,by first|rfl|go_num,HA2,HX1_1,HB⟩
            case measure=>have:=HLT.out;simp [intOf];omega
         ·have hge:¬(k:Int)<(l.length:Int):=by omega
          have hC:C=0:=HCK.out (fun j h=>HA.out j h (by omega));subst hC;go_wp2_with fail;clear hge;go_ret;exact ⟨rfl,by rw [HN0.out];exact HB.out⟩
     case true =>
      have q11:=Htz.out;have hC:C=11:=HBD.out (by rw [HO0.out];have:=Htz.out;simpa using this);subst hC;go_wp2_with fail;clear q11;go_ret;exact ⟨rfl,by rw [HN0.out];exact HB.out⟩
end Go.Proofs.YtblgfmjlajhipaaGreatDoor
