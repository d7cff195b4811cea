/- Contracts that the proofs of this seat share. Each theorem names its conditions. -/

import Derived.Test.YtblgfmjlajhipaaGreatDoorZb6
import Derived.Test.YtblgfmjlajhipaaGreatDoorZb5
set_option maxHeartbeats 16000000
set_option linter.unusedVariables false
namespace Go.Proofs.YtblgfmjlajhipaaGreatDoor
open Go.RowKit Go.Shelf
open Dgt
theorem Fn.enters68:∀args w,(callFunc 68 args).run Tryz.prog w=.ok (.enter 68 args) w:=enters_of Tryz.func68 (by kernel_rfl) rfl
theorem Fn.enters107:∀args w,(callFunc 107 args).run Tryz.prog w=.ok (.enter 107 args) w:=enters_of Tryz.func107 (by kernel_rfl) rfl
theorem range_not (l:List Bk):l.any (fun b=> !(fitsR b.fr&&fitsR b.rt))= !rangeB l:=by
 unfold rangeB
 induction l with
 | nil=>rfl
 | cons b t ih=>rw [List.any_cons,List.all_cons,ih];cases (fitsR b.fr&&fitsR b.rt)<;>rfl
theorem isR_raw {r:Rw} {k:Nat} (h:r.n.size≤k∧r.d.size≤k):IsR (.agg #[.bool r.neg,.string r.n,.string r.d]) r.val k:=Rw.isR h
def ECheck_any_11_1 (k:Nat) (b:Bk) (z:Int) (bk5:Nat):Nat→Value
 | 0=>.int .i64 (k:Int)
 | 1=>.bool true
 | 2=>.bool true
 | 3=>.pointer (some ⟨bk5,0,none⟩)
 | 4=>.agg #[.bool b.fr.neg,.string b.fr.n,.string b.fr.d]
 | 5=>.int .i64 z
 | 6=>.bool false
 | 7=>.bool false
 | 8=>.bool false
 | 9=>.int .i64 (k:Int)
 | 10=>.bool false
 | 11=>.bool false
 | 12=>undef
 | 13=>undef
 | 14=>undef
 | 15=>undef
 | 16=>undef
 | 17=>undef
 | 18=>undef
 | 19=>undef
 | 20=>undef
 | 21=>undef
 | 22=>.bool false
 | 23=>.bool false
 | _=>undef
def ECheck_any_11_2 (k:Nat) (b:Bk) (z:Int) (bk5:Nat):Nat→Value
 | 0=>.int .i64 (k:Int)
 | 1=>.bool true
 | 2=>.bool true
 | 3=>.pointer (some ⟨bk5,0,none⟩)
 | 4=>.agg #[.bool b.fr.neg,.string b.fr.n,.string b.fr.d]
 | 5=>.int .i64 z
 | 6=>.bool true
 | 7=>.bool true
 | 8=>.bool true
 | 9=>undef
 | 10=>undef
 | 11=>undef
 | 12=>undef
 | 13=>undef
 | 14=>undef
 | 15=>undef
 | 16=>undef
 | 17=>undef
 | 18=>undef
 | 19=>undef
 | 20=>undef
 | 21=>undef
 | 22=>undef
 | 23=>.bool true
 | _=>undef
def ECheck_any_11_3 (ca:Nat) (l:List Bk) (k:Nat) (j:Nat) (g:Nat) (off:Nat) (a:Bk) (b:Bk) (cz:Int) (bk5:Nat):Nat→Value
 | 0=>.int .i64 (k:Int)
 | 1=>.bool false
 | 2=>.bool false
 | 3=>undef
 | 4=>undef
 | 5=>undef
 | 6=>undef
 | 7=>.bool false
 | 8=>.bool false
 | 9=>.int .i64 (k:Int)
 | 10=>.bool true
 | 11=>.bool true
 | 12=>.slice (some ⟨g,off,none⟩) l.length ca
 | 13=>.int .i64 (k:Int)
 | 14=>.int .i64 (j:Int)
 | 15=>.pointer (some ⟨g,off+j*6,none⟩)
 | 16=>.pointer (some ⟨g,off+j*6,none⟩)
 | 17=>.agg #[.bool a.fr.neg,.string a.fr.n,.string a.fr.d]
 | 18=>.pointer (some ⟨bk5,0,none⟩)
 | 19=>.agg #[.bool b.fr.neg,.string b.fr.n,.string b.fr.d]
 | 20=>.int .i64 cz
 | 21=>.bool false
 | 22=>.bool false
 | 23=>.bool false
 | _=>undef
def ECheck_any_11_4 (ca:Nat) (l:List Bk) (k:Nat) (j:Nat) (g:Nat) (off:Nat) (a:Bk) (b:Bk) (cz:Int) (bk5:Nat):Nat→Value
 | 0=>.int .i64 (k:Int)
 | 1=>.bool false
 | 2=>.bool false
 | 3=>undef
 | 4=>undef
 | 5=>undef
 | 6=>undef
 | 7=>.bool false
 | 8=>.bool false
 | 9=>.int .i64 (k:Int)
 | 10=>.bool true
 | 11=>.bool true
 | 12=>.slice (some ⟨g,off,none⟩) l.length ca
 | 13=>.int .i64 (k:Int)
 | 14=>.int .i64 (j:Int)
 | 15=>.pointer (some ⟨g,off+j*6,none⟩)
 | 16=>.pointer (some ⟨g,off+j*6,none⟩)
 | 17=>.agg #[.bool a.fr.neg,.string a.fr.n,.string a.fr.d]
 | 18=>.pointer (some ⟨bk5,0,none⟩)
 | 19=>.agg #[.bool b.fr.neg,.string b.fr.n,.string b.fr.d]
 | 20=>.int .i64 cz
 | 21=>.bool true
 | 22=>.bool true
 | 23=>.bool true
 | _=>undef
set_option maxRecDepth 100000 in
theorem Check_any (nm:ByteArray) (um ud:Int) (v:Value) (l:List Bk) (hz:SzK l 1100000) (wq:World) (hl:LstK wq v l) :
  Gv 22 #[.agg #[.string nm,.int .i64 um,.int .i64 ud,v]] wq (.int .i64 (ckB l)):=by
 unfold Gv;have HCF:=hD (fun w (h:Below wq.heap.size wq w)=>contains_any _ Fn.enters68 (fun b=> !(fitsR b.fr&&fitsR b.rt)) l v w (hl.up h) (fun b hb w=>misfit_any b (hz b hb) w));rw [range_not] at HCF;obtain ⟨ps,ca,rfl,-,hla,hca⟩:=hl.open;have HAT:=hD hca;have HZ:=hD hz;have HLA:=hD hla;clear hca hl hz hla;have HK:=hD (show ckB l=if 8<l.length then 2 else if l.length=0 then 11 else if formB l=true then (if rangeB l=true then 0 else 3) else 11 from rfl);obtain ⟨C,hC⟩:∃c,ckB l=c:=⟨_,rfl⟩;rw [hC] at HK ⊢;clear hC;have HB:=hD (Below.refl wq.heap.size wq);obtain ⟨n0,hn0⟩:∃n,n=wq.heap.size:=⟨_,rfl⟩;rw [←hn0];have HN0:=hD hn0;clear hn0;go_enter Tryz.func22,Tryz.ntmps22;obtain ⟨W1,bk1,hW1,hbk1,HX1_1,HB,HG1_1,hup⟩:=boxn HB HN0 (.cells #[.string nm,.int .i64 um,.int .i64 ud,.slice ps l.length ca] 26);clear hup
 have k2:W1.cell? ⟨bk1,3,none⟩=some (.slice ps l.length ca):=by rw [Lib.cell_of_heap HX1_1.out];rfl
 by_cases h8:8<l.length
 ·have hC:=HK.out;rw [if_pos h8] at hC;subst hC;have h8' :(8:Int)<(l.length:Int):=by omega
  clear HK HCF;go_wp2_with fail;clear hW1 hbk1 k2;go_ret;exact ⟨rfl,by rw [HN0.out];exact HB.out⟩
 ·rw [if_neg h8] at HK;have h8' :¬(8:Int)<(l.length:Int):=by omega
  by_cases h0:l.length=0
  ·have hC:=HK.out;rw [if_pos h0] at hC;subst hC;have h0' :((l.length:Int)==0)=true:=by rw [h0];rfl
   clear HK HCF h0 h8;go_wp2_with fail;clear hW1 hbk1 k2;go_ret;exact ⟨rfl,by rw [HN0.out];exact HB.out⟩
  ·rw [if_neg h0] at HK;have h0' :¬(l.length:Int)=0:=by omega
   go_wp2_with fail;clear hW1 hbk1 k2
   go_loopw [18] (fun i wr=>∃k:Nat,k≤l.length∧i=.int .i64 (k:Int)∧Hid (∀j,j<k→okAt l j=true)∧Hid (wr.heap[bk1]? =some (.cells #[.string nm,.int .i64 um,.int .i64 ud,.slice ps l.length ca] 26 (0,0)))∧Hid (Below wq.heap.size wq wr)) (fun i _=>l.length-(intOf i).toNat)
   case atStart=>exact ⟨0,by omega,rfl,hD (fun j h=>absurd h (by omega)),HX1_1,HB⟩
   case round =>
    obtain ⟨k,hk,rfl,HA,HX1_1,HB⟩:=hrel
    by_cases hlt:k<l.length
    ·have hlt' :(k:Int)<(l.length:Int):=by omega
     obtain ⟨g,off,rfl,hat⟩:=HAT.out k hlt;have HE:=hD hat;have hzk:=HZ.out _ (List.getElem_mem hlt);have c1:=fun w=>RatRight_any l[k].fr.neg l[k].fr.n l[k].fr.d w (by have:=hzk.1;omega) (by have:=hzk.1;omega)
     have c2:=fun w=>RatRight_any l[k].rt.neg l[k].rt.n l[k].rt.d w (by have:=hzk.2;omega) (by have:=hzk.2;omega)
     have c3:=fun w=>RatSign_r (isR_raw hzk.1) (by decide) w
     have HOK:Hid (okAt l k=(l[k].fr.right&&l[k].rt.right&&(if k=0 then decide (sgnR l[k].fr.val=0) else ltB l[k-1]? l[k]))):=hD (okAt_eq hlt);have HPV:Hid (∀j,k=j+1→∃a:Bk,l[k-1]? =some a∧AtK wq g (off+j*6) a∧∀w,Gv 66 #[.agg #[.bool a.fr.neg,.string a.fr.n,.string a.fr.d],.agg #[.bool l[k].fr.neg,.string l[k].fr.n,.string l[k].fr.d]] w (.int .i64 (cmpR a.fr.val l[k].fr.val))):=hD fun j hj=>by
      subst hj;have hj:j<l.length:=by omega
      obtain ⟨g2,off2,h1,h2⟩:=HAT.out j hj;simp only [Option.some.injEq,Addr.mk.injEq,and_true] at h1;obtain ⟨rfl,rfl⟩:=h1;refine ⟨l[j],by rw [Nat.add_sub_cancel,List.getElem?_eq_getElem hj],h2,fun w=> ?_⟩;exact RatCmp_r (isR_raw (HZ.out _ (List.getElem_mem hj)).1) (isR_raw hzk.1) (by decide) (by decide) w
     have HFB:Hid (okAt l k=false→C=11):=hD fun h=>by
      have hC:=HK.out;rw [if_neg (by rw [form_iff];intro hc;have:=hc k hlt;rw [h] at this;cases this)] at hC;exact hC
     have HAS:Hid (okAt l k=true→∀j,j<k+1→okAt l j=true):=hD fun h j hj=>by
      rcases Nat.lt_or_ge j k with h1|h1
      ·exact HA.out j h1
      ·rw [show j=k by omega];exact h
     obtain ⟨ok,hok⟩:∃b,okAt l k=b:=⟨_,rfl⟩;rw [hok] at HOK HFB HAS;obtain ⟨b,hb⟩:∃b,l[k]=b:=⟨_,rfl⟩;rw [hb] at HE c1 c2 c3 HOK HPV;obtain ⟨P,hP⟩:∃p,b.fr.right=p:=⟨_,rfl⟩;obtain ⟨Q,hQ⟩:∃p,b.rt.right=p:=⟨_,rfl⟩;rw [show rightR b.fr.neg b.fr.n b.fr.d=P from hP] at c1;rw [show rightR b.rt.neg b.rt.n b.rt.d=Q from hQ] at c2;rw [hP,hQ] at HOK;obtain ⟨z,hz⟩:∃z,sgnR b.fr.val=z:=⟨_,rfl⟩;rw [hz] at c3 HOK;have HLT:=hD hlt;have C1:Hid (∀w,Gv 64 #[.agg #[.bool b.fr.neg,.string b.fr.n,.string b.fr.d]] w (.bool P)):=hD c1;have C2:Hid (∀w,Gv 64 #[.agg #[.bool b.rt.neg,.string b.rt.n,.string b.rt.d]] w (.bool Q)):=hD c2;have C3:Hid (∀w,Gv 65 #[.agg #[.bool b.fr.neg,.string b.fr.n,.string b.fr.d]] w (.int .i64 z)):=hD c3;clear c1 c2 c3 hzk hat hok hb hP hQ hz hlt hk HA;obtain ⟨k3e0,k3e1,k3e2,k3e3,k3e4,k3e5⟩:=HE.out _ HB.out
     obtain ⟨W2,bk5,hW2,hbk5,HX5_4,HB,HG5_4,hup⟩:=boxn HB HN0 (.cells #[.bool false,.string ⟨#[]⟩,.string ⟨#[]⟩,.bool false,.string ⟨#[]⟩,.string ⟨#[]⟩] 42);have HL5_4:=(hup _ _ HX1_1).2;have HX1_1:=(hup _ _ HX1_1).1;clear hup;have f5:W2.frozen? ⟨bk5,0,none⟩=false:=frz0 HX5_4.out 0;have f6:W2.frozen? ⟨bk5,1,none⟩=false:=frz0 HX5_4.out 1;have f7:W2.frozen? ⟨bk5,2,none⟩=false:=frz0 HX5_4.out 2;have f8:W2.frozen? ⟨bk5,3,none⟩=false:=frz0 HX5_4.out 3;have f9:W2.frozen? ⟨bk5,4,none⟩=false:=frz0 HX5_4.out 4;have f10:W2.frozen? ⟨bk5,5,none⟩=false:=frz0 HX5_4.out 5;have k11:W2.cell? ⟨bk5,0,none⟩=some (.bool false):=by rw [Lib.cell_of_heap HX5_4.out];rfl
     have k12:W2.cell? ⟨bk5,1,none⟩=some (.string ⟨#[]⟩):=by rw [Lib.cell_of_heap HX5_4.out];rfl
     have k13:W2.cell? ⟨bk5,2,none⟩=some (.string ⟨#[]⟩):=by rw [Lib.cell_of_heap HX5_4.out];rfl
     have k14:W2.cell? ⟨bk5,3,none⟩=some (.bool false):=by rw [Lib.cell_of_heap HX5_4.out];rfl
     have k15:W2.cell? ⟨bk5,4,none⟩=some (.string ⟨#[]⟩):=by rw [Lib.cell_of_heap HX5_4.out];rfl
     have k16:W2.cell? ⟨bk5,5,none⟩=some (.string ⟨#[]⟩):=by rw [Lib.cell_of_heap HX5_4.out];rfl
     have hB:=((((((HB.out.setCell (p:=⟨bk5,0,none⟩) (by rw [←HN0.out];exact HG5_4.out) (.bool b.fr.neg)).setCell (p:=⟨bk5,1,none⟩) (by rw [←HN0.out];exact HG5_4.out) (.string b.fr.n)).setCell (p:=⟨bk5,2,none⟩) (by rw [←HN0.out];exact HG5_4.out) (.string b.fr.d)).setCell (p:=⟨bk5,3,none⟩) (by rw [←HN0.out];exact HG5_4.out) (.bool b.rt.neg)).setCell (p:=⟨bk5,4,none⟩) (by rw [←HN0.out];exact HG5_4.out) (.string b.rt.n)).setCell (p:=⟨bk5,5,none⟩) (by rw [←HN0.out];exact HG5_4.out) (.string b.rt.d))
     have hN:((((((W2.setCell ⟨bk5,0,none⟩ (.bool b.fr.neg)).setCell ⟨bk5,1,none⟩ (.string b.fr.n)).setCell ⟨bk5,2,none⟩ (.string b.fr.d)).setCell ⟨bk5,3,none⟩ (.bool b.rt.neg)).setCell ⟨bk5,4,none⟩ (.string b.rt.n)).setCell ⟨bk5,5,none⟩ (.string b.rt.d)).heap[bk5]? =some (.cells #[.bool b.fr.neg,.string b.fr.n,.string b.fr.d,.bool b.rt.neg,.string b.rt.n,.string b.rt.d] 42 (0,0)):=by simp [World.setCell,Array.getElem?_modify,HX5_4.out]
     have hx1_1:((((((W2.setCell ⟨bk5,0,none⟩ (.bool b.fr.neg)).setCell ⟨bk5,1,none⟩ (.string b.fr.n)).setCell ⟨bk5,2,none⟩ (.string b.fr.d)).setCell ⟨bk5,3,none⟩ (.bool b.rt.neg)).setCell ⟨bk5,4,none⟩ (.string b.rt.n)).setCell ⟨bk5,5,none⟩ (.string b.rt.d)).heap[bk1]? =_:=(row_else (row_else (row_else (row_else (row_else (row_else HX1_1.out (en1 HL5_4) _) (en1 HL5_4) _) (en1 HL5_4) _) (en1 HL5_4) _) (en1 HL5_4) _) (en1 HL5_4) _);have HX1_1:=hD hx1_1;clear hx1_1;obtain ⟨W3,hW3⟩:∃W,((((((W2.setCell ⟨bk5,0,none⟩ (.bool b.fr.neg)).setCell ⟨bk5,1,none⟩ (.string b.fr.n)).setCell ⟨bk5,2,none⟩ (.string b.fr.d)).setCell ⟨bk5,3,none⟩ (.bool b.rt.neg)).setCell ⟨bk5,4,none⟩ (.string b.rt.n)).setCell ⟨bk5,5,none⟩ (.string b.rt.d))=W:=⟨_,rfl⟩;rw [hW3] at hN hB HX1_1;have HX5_4:=hD hN;have HB:=hD hB;clear hN hB
     have k17:W3.cell? ⟨bk5,0,none⟩=some (.bool b.fr.neg):=by rw [Lib.cell_of_heap HX5_4.out];rfl
     have k18:W3.cell? ⟨bk5,1,none⟩=some (.string b.fr.n):=by rw [Lib.cell_of_heap HX5_4.out];rfl
     have k19:W3.cell? ⟨bk5,2,none⟩=some (.string b.fr.d):=by rw [Lib.cell_of_heap HX5_4.out];rfl
     go_wp2_with fail;clear hlt' k3e0 k3e1 k3e2 k3e3 k3e4 k3e5 hW2 hbk5 f5 f6 f7 f8 f9 f10 k11 k12 k13 k14 k15 k16 hW3 k17 k18 k19;refine (C1.out _).mono ?_;rintro e w4 ⟨rfl,hb⟩;have HX1_1:=uH hb HX1_1;have HX5_4:=uH hb HX5_4;have HB:=mH HB hb;clear hb;cases P
     case false =>
      have hC:C=11:=HFB.out (by rw [HOK.out];rfl);subst hC;go_wp2_with fail;go_ret;exact ⟨rfl,by rw [HN0.out];exact HB.out⟩
     case true =>
      have k20:w4.cell? ⟨bk5,3,none⟩=some (.bool b.rt.neg):=by rw [Lib.cell_of_heap HX5_4.out];rfl
      have k21:w4.cell? ⟨bk5,4,none⟩=some (.string b.rt.n):=by rw [Lib.cell_of_heap HX5_4.out];rfl
      have k22:w4.cell? ⟨bk5,5,none⟩=some (.string b.rt.d):=by rw [Lib.cell_of_heap HX5_4.out];rfl
      go_wp2_with fail;clear k20 k21 k22;refine (C2.out _).mono ?_;rintro e w5 ⟨rfl,hb⟩;have HX1_1:=uH hb HX1_1;have HX5_4:=uH hb HX5_4;have HB:=mH HB hb;clear hb;cases Q
      case false =>
       have hC:C=11:=HFB.out (by rw [HOK.out];rfl);subst hC;go_wp2_with fail;go_ret;exact ⟨rfl,by rw [HN0.out];exact HB.out⟩
      case true =>
       have HWI:Hid (IntKind.i64.wrap ((k:Int)+1)=((k+1:Nat):Int)):=hD (by rw [IntWalk.i64_in _ (by have:=HLT.out;have:=HLA.out;omega)];omega)
       by_cases hk0:k=0
       ·have HK0:Hid (((k:Int)==0)=true∧¬0<k):=hD (by rw [hk0];exact ⟨rfl,by decide⟩);have HO:=hD (show ok=decide (z=0) by rw [HOK.out,if_pos hk0];simp);clear HOK HPV hk0;obtain ⟨tz,htz⟩:∃xq,(z != 0)=xq:=⟨_,rfl⟩;have Htz:=hD htz;clear htz;cases tz
        case false =>
         go_wp2_with fail;refine wpVl (w:=w5) (by kernel_rfl) (fun ix v _=>v=ECheck_any_11_1 k b z bk5 ix) (fun t=>(decide (33≤t)&&decide (t<57))) (by kernel_rfl) (by kernel_rfl) (by kernel_rfl) (fun _ _ _ _ _ h=>h) ?_ ?_
         ·intro i hi ov_ listed av_ w hR K hK;have ho:=hR.at_;have hi:i<24:=hi;have hii:i=0∨i=1∨i=2∨i=3∨i=4∨i=5∨i=6∨i=7∨i=8∨i=9∨i=10∨i=11∨i=12∨i=13∨i=14∨i=15∨i=16∨i=17∨i=18∨i=19∨i=20∨i=21∨i=22∨i=23:=by omega
          rcases hii with rfl|rfl|rfl|rfl|rfl|rfl|rfl|rfl|rfl|rfl|rfl|rfl|rfl|rfl|rfl|rfl|rfl|rfl|rfl|rfl|rfl|rfl|rfl|rfl<;>(simp at ho;subst ho)
          ·have b4:av_.tmps.getD 4 undef=.int .i64 (k:Int):=hR.b 4;refine pSq ?_;go_simp;exact hK _ _ rfl rB
          ·have e0:av_.tmps.getD 33 undef=.int .i64 (k:Int):=hR.d 0;have hk0:=HK0.out.1;refine pSq ?_;go_simp;exact hK _ _ rfl rB
          ·have e1:av_.tmps.getD 34 undef=.bool true:=hR.d 1;refine pSq ?_;go_simp;exact hK _ _ rfl rB
          ·have e2:av_.tmps.getD 35 undef=.bool true:=hR.g 2;have b5:av_.tmps.getD 5 undef=.pointer (some ⟨bk5,0,none⟩):=hR.b 5;refine gSq (b:=true) e2 ?_;go_simp;exact hK _ _ rfl rB
          ·have e3:av_.tmps.getD 36 undef=.pointer (some ⟨bk5,0,none⟩):=hR.d 3;have e2:av_.tmps.getD 35 undef=.bool true:=hR.g 2;have cx0:w.cell? ⟨bk5,0,none⟩=some (.bool b.fr.neg):=by rw [Lib.cell_of_heap (hpU hR.below HX5_4.out)];rfl
           have cx1:w.cell? ⟨bk5,1,none⟩=some (.string b.fr.n):=by rw [Lib.cell_of_heap (hpU hR.below HX5_4.out)];rfl
           have cx2:w.cell? ⟨bk5,2,none⟩=some (.string b.fr.d):=by rw [Lib.cell_of_heap (hpU hR.below HX5_4.out)];rfl
           refine gSq (b:=true) e2 ?_;go_simp;exact hK _ _ rfl rB
          ·have e4:av_.tmps.getD 37 undef=.agg #[.bool b.fr.neg,.string b.fr.n,.string b.fr.d]:=hR.d 4;have e2:av_.tmps.getD 35 undef=.bool true:=hR.g 2;refine gSq (b:=true) e2 ?_;go_simp;refine (C3.out w).mono ?_;rintro e w' ⟨rfl,hb⟩;exact hK _ _ (rfl) hb
          ·have e5:av_.tmps.getD 38 undef=.int .i64 z:=hR.d 5;have e2:av_.tmps.getD 35 undef=.bool true:=hR.g 2;have htz:=Htz.out;refine gSq (b:=true) e2 ?_;go_simp;exact hK _ _ rfl rB
          ·have e2:av_.tmps.getD 35 undef=.bool true:=hR.d 2;have e6:av_.tmps.getD 39 undef=.bool false:=hR.d 6;refine pSq ?_;go_simp;exact hK _ _ rfl rB
          ·have e7:av_.tmps.getD 40 undef=.bool false:=hR.d 7;refine pSq ?_;go_simp;exact hK _ _ rfl rB
          ·have e8:av_.tmps.getD 41 undef=.bool false:=hR.g 8;have b4:av_.tmps.getD 4 undef=.int .i64 (k:Int):=hR.b 4;refine gSq (b:=false) e8 ?_;go_simp;exact hK _ _ rfl rB
          ·have e9:av_.tmps.getD 42 undef=.int .i64 (k:Int):=hR.d 9;have e8:av_.tmps.getD 41 undef=.bool false:=hR.g 8;have hk1:=HK0.out.2;refine gSq (b:=false) e8 ?_;go_simp;exact hK _ _ rfl rB
          ·have e10:av_.tmps.getD 43 undef=.bool false:=hR.d 10;have e8:av_.tmps.getD 41 undef=.bool false:=hR.g 8;refine gSq (b:=false) e8 ?_;go_simp;exact hK _ _ rfl rB
          ·have e11:av_.tmps.getD 44 undef=.bool false:=hR.g 11;refine gSkp rfl rfl rfl (b:=true) e11 (by decide) ?_;exact hK _ _ rfl rB
          ·have e11:av_.tmps.getD 44 undef=.bool false:=hR.g 11;refine gSkp rfl rfl rfl (b:=true) e11 (by decide) ?_;exact hK _ _ rfl rB
          ·have e11:av_.tmps.getD 44 undef=.bool false:=hR.g 11;refine gSkp rfl rfl rfl (b:=true) e11 (by decide) ?_;exact hK _ _ rfl rB
          ·have e11:av_.tmps.getD 44 undef=.bool false:=hR.g 11;refine gSkp rfl rfl rfl (b:=true) e11 (by decide) ?_;exact hK _ _ rfl rB
          ·have e11:av_.tmps.getD 44 undef=.bool false:=hR.g 11;refine gSkp rfl rfl rfl (b:=true) e11 (by decide) ?_;exact hK _ _ rfl rB
          ·have e11:av_.tmps.getD 44 undef=.bool false:=hR.g 11;refine gSkp rfl rfl rfl (b:=true) e11 (by decide) ?_;exact hK _ _ rfl rB
          ·have e11:av_.tmps.getD 44 undef=.bool false:=hR.g 11;refine gSkp rfl rfl rfl (b:=true) e11 (by decide) ?_;exact hK _ _ rfl rB
          ·have e11:av_.tmps.getD 44 undef=.bool false:=hR.g 11;refine gSkp rfl rfl rfl (b:=true) e11 (by decide) ?_;exact hK _ _ rfl rB
          ·have e11:av_.tmps.getD 44 undef=.bool false:=hR.g 11;refine gSkp rfl rfl rfl (b:=true) e11 (by decide) ?_;exact hK _ _ rfl rB
          ·have e11:av_.tmps.getD 44 undef=.bool false:=hR.g 11;refine gSkp rfl rfl rfl (b:=true) e11 (by decide) ?_;exact hK _ _ rfl rB
          ·have e11:av_.tmps.getD 44 undef=.bool false:=hR.d 11;have e21:av_.tmps.getD 54 undef=undef:=hR.d 21;have e8:av_.tmps.getD 41 undef=.bool false:=hR.g 8;refine gSq (b:=false) e8 ?_;go_simp;exact hK _ _ rfl rB
          ·have e8:av_.tmps.getD 41 undef=.bool false:=hR.d 8;have e22:av_.tmps.getD 55 undef=.bool false:=hR.d 22;refine pSq ?_;go_simp;exact hK _ _ rfl rB
         ·intro sv_ w hS hb;have e23:sv_ 56=.bool false:=hS 23 (by decide);simp only [over,ovL,Nat.reduceAdd,Nat.reduceLeDiff,Nat.reduceLT];have HB:=mH HB hb;have HX1_1:=uH hb HX1_1;have HX5_4:=uH hb HX5_4;obtain ⟨w6,hw⟩:∃w8,w8=w:=⟨_,rfl⟩;subst hw;rw [e23];clear hS hb e23;have HA2:=hD (HAS.out (by rw [HO.out];have:=Htz.out;simpa using this));have hwi:=HWI.out;go_wp2_with fail;clear hwi
          go_roundw
          case rel=>exact ⟨k+1,by have:=HLT.out;omega,by first|rfl|go_num,HA2,HX1_1,HB⟩
          case measure=>have:=HLT.out;simp [intOf];omega
        case true =>
         go_wp2_with fail;refine wpVl (w:=w5) (by kernel_rfl) (fun ix v _=>v=ECheck_any_11_2 k b z bk5 ix) (fun t=>(decide (33≤t)&&decide (t<57))) (by kernel_rfl) (by kernel_rfl) (by kernel_rfl) (fun _ _ _ _ _ h=>h) ?_ ?_
         ·intro i hi ov_ listed av_ w hR K hK;have ho:=hR.at_;have hi:i<24:=hi;have hii:i=0∨i=1∨i=2∨i=3∨i=4∨i=5∨i=6∨i=7∨i=8∨i=9∨i=10∨i=11∨i=12∨i=13∨i=14∨i=15∨i=16∨i=17∨i=18∨i=19∨i=20∨i=21∨i=22∨i=23:=by omega
          rcases hii with rfl|rfl|rfl|rfl|rfl|rfl|rfl|rfl|rfl|rfl|rfl|rfl|rfl|rfl|rfl|rfl|rfl|rfl|rfl|rfl|rfl|rfl|rfl|rfl<;>(simp at ho;subst ho)
          ·have b4:av_.tmps.getD 4 undef=.int .i64 (k:Int):=hR.b 4;refine pSq ?_;go_simp;exact hK _ _ rfl rB
          ·have e0:av_.tmps.getD 33 undef=.int .i64 (k:Int):=hR.d 0;have hk0:=HK0.out.1;refine pSq ?_;go_simp;exact hK _ _ rfl rB
          ·have e1:av_.tmps.getD 34 undef=.bool true:=hR.d 1;refine pSq ?_;go_simp;exact hK _ _ rfl rB
          ·have e2:av_.tmps.getD 35 undef=.bool true:=hR.g 2;have b5:av_.tmps.getD 5 undef=.pointer (some ⟨bk5,0,none⟩):=hR.b 5;refine gSq (b:=true) e2 ?_;go_simp;exact hK _ _ rfl rB
          ·have e3:av_.tmps.getD 36 undef=.pointer (some ⟨bk5,0,none⟩):=hR.d 3;have e2:av_.tmps.getD 35 undef=.bool true:=hR.g 2;have cx0:w.cell? ⟨bk5,0,none⟩=some (.bool b.fr.neg):=by rw [Lib.cell_of_heap (hpU hR.below HX5_4.out)];rfl
           have cx1:w.cell? ⟨bk5,1,none⟩=some (.string b.fr.n):=by rw [Lib.cell_of_heap (hpU hR.below HX5_4.out)];rfl
           have cx2:w.cell? ⟨bk5,2,none⟩=some (.string b.fr.d):=by rw [Lib.cell_of_heap (hpU hR.below HX5_4.out)];rfl
           refine gSq (b:=true) e2 ?_;go_simp;exact hK _ _ rfl rB
          ·have e4:av_.tmps.getD 37 undef=.agg #[.bool b.fr.neg,.string b.fr.n,.string b.fr.d]:=hR.d 4;have e2:av_.tmps.getD 35 undef=.bool true:=hR.g 2;refine gSq (b:=true) e2 ?_;go_simp;refine (C3.out w).mono ?_;rintro e w' ⟨rfl,hb⟩;exact hK _ _ (rfl) hb
          ·have e5:av_.tmps.getD 38 undef=.int .i64 z:=hR.d 5;have e2:av_.tmps.getD 35 undef=.bool true:=hR.g 2;have htz:=Htz.out;refine gSq (b:=true) e2 ?_;go_simp;exact hK _ _ rfl rB
          ·have e2:av_.tmps.getD 35 undef=.bool true:=hR.d 2;have e6:av_.tmps.getD 39 undef=.bool true:=hR.d 6;refine pSq ?_;go_simp;exact hK _ _ rfl rB
          ·have e7:av_.tmps.getD 40 undef=.bool true:=hR.d 7;refine pSq ?_;go_simp;exact hK _ _ rfl rB
          ·have e8:av_.tmps.getD 41 undef=.bool true:=hR.g 8;refine gSkp rfl rfl rfl (b:=false) e8 (by decide) ?_;exact hK _ _ rfl rB
          ·have e8:av_.tmps.getD 41 undef=.bool true:=hR.g 8;refine gSkp rfl rfl rfl (b:=false) e8 (by decide) ?_;exact hK _ _ rfl rB
          ·have e8:av_.tmps.getD 41 undef=.bool true:=hR.g 8;refine gSkp rfl rfl rfl (b:=false) e8 (by decide) ?_;exact hK _ _ rfl rB
          ·have e11:av_.tmps.getD 44 undef=undef:=hR.g 11;refine guard_skip_u rfl rfl rfl e11 ?_;exact hK _ _ rfl rB
          ·have e11:av_.tmps.getD 44 undef=undef:=hR.g 11;refine guard_skip_u rfl rfl rfl e11 ?_;exact hK _ _ rfl rB
          ·have e11:av_.tmps.getD 44 undef=undef:=hR.g 11;refine guard_skip_u rfl rfl rfl e11 ?_;exact hK _ _ rfl rB
          ·have e11:av_.tmps.getD 44 undef=undef:=hR.g 11;refine guard_skip_u rfl rfl rfl e11 ?_;exact hK _ _ rfl rB
          ·have e11:av_.tmps.getD 44 undef=undef:=hR.g 11;refine guard_skip_u rfl rfl rfl e11 ?_;exact hK _ _ rfl rB
          ·have e11:av_.tmps.getD 44 undef=undef:=hR.g 11;refine guard_skip_u rfl rfl rfl e11 ?_;exact hK _ _ rfl rB
          ·have e11:av_.tmps.getD 44 undef=undef:=hR.g 11;refine guard_skip_u rfl rfl rfl e11 ?_;exact hK _ _ rfl rB
          ·have e11:av_.tmps.getD 44 undef=undef:=hR.g 11;refine guard_skip_u rfl rfl rfl e11 ?_;exact hK _ _ rfl rB
          ·have e11:av_.tmps.getD 44 undef=undef:=hR.g 11;refine guard_skip_u rfl rfl rfl e11 ?_;exact hK _ _ rfl rB
          ·have e11:av_.tmps.getD 44 undef=undef:=hR.g 11;refine guard_skip_u rfl rfl rfl e11 ?_;exact hK _ _ rfl rB
          ·have e8:av_.tmps.getD 41 undef=.bool true:=hR.g 8;refine gSkp rfl rfl rfl (b:=false) e8 (by decide) ?_;exact hK _ _ rfl rB
          ·have e8:av_.tmps.getD 41 undef=.bool true:=hR.d 8;have e22:av_.tmps.getD 55 undef=undef:=hR.d 22;refine pSq ?_;go_simp;exact hK _ _ rfl rB
         ·intro sv_ w hS hb;have e23:sv_ 56=.bool true:=hS 23 (by decide);simp only [over,ovL,Nat.reduceAdd,Nat.reduceLeDiff,Nat.reduceLT];have HB:=mH HB hb;have HX1_1:=uH hb HX1_1;have HX5_4:=uH hb HX5_4;obtain ⟨w7,hw⟩:∃w8,w8=w:=⟨_,rfl⟩;subst hw;rw [e23];clear hS hb e23;have hC:C=11:=HFB.out (by rw [HO.out];have:=Htz.out;simpa using this);subst hC;go_wp2_with fail;go_ret;exact ⟨rfl,by rw [HN0.out];exact HB.out⟩
       ·obtain ⟨j,hj⟩:=Nat.exists_eq_succ_of_ne_zero hk0;obtain ⟨a,ha1,ha2,ha3⟩:=HPV.out j hj;have HK0:Hid (((k:Int)==0)=false∧0<k∧IntKind.i64.wrap ((k:Int)-1)=(j:Int)∧(j:Int)<(l.length:Int)):=hD ⟨by simp;omega,by omega,by rw [IntWalk.i64_in _ (by have:=HLT.out;have:=HLA.out;omega)];omega,by have:=HLT.out;omega⟩;have HO:=hD (show ok=decide (cmpR a.fr.val b.fr.val<0) by rw [HOK.out,if_neg hk0,ha1];simp [ltB]);clear HOK HPV hk0 hj ha1;have HE2:=hD ha2;obtain ⟨cz,hcz⟩:∃c,cmpR a.fr.val b.fr.val=c:=⟨_,rfl⟩;rw [hcz] at ha3 HO;clear hcz ha2;have C4:Hid (∀w,Gv 66 #[.agg #[.bool a.fr.neg,.string a.fr.n,.string a.fr.d],.agg #[.bool b.fr.neg,.string b.fr.n,.string b.fr.d]] w (.int .i64 cz)):=hD ha3;clear ha3;obtain ⟨tz,htz⟩:∃xq,decide (0≤cz)=xq:=⟨_,rfl⟩;have Htz:=hD htz;clear htz;cases tz
        case false =>
         go_wp2_with fail;refine wpVl (w:=w5) (by kernel_rfl) (fun ix v _=>v=ECheck_any_11_3 ca l k j g off a b cz bk5 ix) (fun t=>(decide (33≤t)&&decide (t<57))) (by kernel_rfl) (by kernel_rfl) (by kernel_rfl) (fun _ _ _ _ _ h=>h) ?_ ?_
         ·intro i hi ov_ listed av_ w hR K hK;have ho:=hR.at_;have hi:i<24:=hi;have hii:i=0∨i=1∨i=2∨i=3∨i=4∨i=5∨i=6∨i=7∨i=8∨i=9∨i=10∨i=11∨i=12∨i=13∨i=14∨i=15∨i=16∨i=17∨i=18∨i=19∨i=20∨i=21∨i=22∨i=23:=by omega
          rcases hii with rfl|rfl|rfl|rfl|rfl|rfl|rfl|rfl|rfl|rfl|rfl|rfl|rfl|rfl|rfl|rfl|rfl|rfl|rfl|rfl|rfl|rfl|rfl|rfl<;>(simp at ho;subst ho)
          ·have b4:av_.tmps.getD 4 undef=.int .i64 (k:Int):=hR.b 4;refine pSq ?_;go_simp;exact hK _ _ rfl rB
          ·have e0:av_.tmps.getD 33 undef=.int .i64 (k:Int):=hR.d 0;have hk0:=HK0.out.1;refine pSq ?_;go_simp;exact hK _ _ rfl rB
          ·have e1:av_.tmps.getD 34 undef=.bool false:=hR.d 1;refine pSq ?_;go_simp;exact hK _ _ rfl rB
          ·have e2:av_.tmps.getD 35 undef=.bool false:=hR.g 2;refine gSkp rfl rfl rfl (b:=true) e2 (by decide) ?_;exact hK _ _ rfl rB
          ·have e2:av_.tmps.getD 35 undef=.bool false:=hR.g 2;refine gSkp rfl rfl rfl (b:=true) e2 (by decide) ?_;exact hK _ _ rfl rB
          ·have e2:av_.tmps.getD 35 undef=.bool false:=hR.g 2;refine gSkp rfl rfl rfl (b:=true) e2 (by decide) ?_;exact hK _ _ rfl rB
          ·have e2:av_.tmps.getD 35 undef=.bool false:=hR.g 2;refine gSkp rfl rfl rfl (b:=true) e2 (by decide) ?_;exact hK _ _ rfl rB
          ·have e2:av_.tmps.getD 35 undef=.bool false:=hR.d 2;have e6:av_.tmps.getD 39 undef=undef:=hR.d 6;refine pSq ?_;go_simp;exact hK _ _ rfl rB
          ·have e7:av_.tmps.getD 40 undef=.bool false:=hR.d 7;refine pSq ?_;go_simp;exact hK _ _ rfl rB
          ·have e8:av_.tmps.getD 41 undef=.bool false:=hR.g 8;have b4:av_.tmps.getD 4 undef=.int .i64 (k:Int):=hR.b 4;refine gSq (b:=false) e8 ?_;go_simp;exact hK _ _ rfl rB
          ·have e9:av_.tmps.getD 42 undef=.int .i64 (k:Int):=hR.d 9;have e8:av_.tmps.getD 41 undef=.bool false:=hR.g 8;have hk1:=HK0.out.2.1;refine gSq (b:=false) e8 ?_;go_simp;exact hK _ _ rfl rB
          ·have e10:av_.tmps.getD 43 undef=.bool true:=hR.d 10;have e8:av_.tmps.getD 41 undef=.bool false:=hR.g 8;refine gSq (b:=false) e8 ?_;go_simp;exact hK _ _ rfl rB
          ·have e11:av_.tmps.getD 44 undef=.bool true:=hR.g 11;have b3:av_.tmps.getD 3 undef=.slice (some ⟨g,off,none⟩) l.length ca:=hR.b 3;refine gSq (b:=true) e11 ?_;go_simp;exact hK _ _ rfl rB
          ·have e11:av_.tmps.getD 44 undef=.bool true:=hR.g 11;have b4:av_.tmps.getD 4 undef=.int .i64 (k:Int):=hR.b 4;refine gSq (b:=true) e11 ?_;go_simp;exact hK _ _ rfl rB
          ·have e13:av_.tmps.getD 46 undef=.int .i64 (k:Int):=hR.d 13;have e11:av_.tmps.getD 44 undef=.bool true:=hR.g 11;have hk2:=HK0.out.2.2.1;refine gSq (b:=true) e11 ?_;go_simp;exact hK _ _ rfl rB
          ·have e12:av_.tmps.getD 45 undef=.slice (some ⟨g,off,none⟩) l.length ca:=hR.d 12;have e14:av_.tmps.getD 47 undef=.int .i64 (j:Int):=hR.d 14;have e11:av_.tmps.getD 44 undef=.bool true:=hR.g 11;have hk3:=HK0.out.2.2.2;refine gSq (b:=true) e11 ?_;go_simp;exact hK _ _ rfl rB
          ·have e15:av_.tmps.getD 48 undef=.pointer (some ⟨g,off+j*6,none⟩):=hR.d 15;have e11:av_.tmps.getD 44 undef=.bool true:=hR.g 11;refine gSq (b:=true) e11 ?_;go_simp;exact hK _ _ rfl rB
          ·have e16:av_.tmps.getD 49 undef=.pointer (some ⟨g,off+j*6,none⟩):=hR.d 16;have e11:av_.tmps.getD 44 undef=.bool true:=hR.g 11;obtain ⟨cx0,cx1,cx2,cx3,cx4,cx5⟩:=HE2.out _ (HB.out.trans (hR.below.mono HB.out.size));refine gSq (b:=true) e11 ?_;go_simp;exact hK _ _ rfl rB
          ·have e11:av_.tmps.getD 44 undef=.bool true:=hR.g 11;have b5:av_.tmps.getD 5 undef=.pointer (some ⟨bk5,0,none⟩):=hR.b 5;refine gSq (b:=true) e11 ?_;go_simp;exact hK _ _ rfl rB
          ·have e18:av_.tmps.getD 51 undef=.pointer (some ⟨bk5,0,none⟩):=hR.d 18;have e11:av_.tmps.getD 44 undef=.bool true:=hR.g 11;have cx0:w.cell? ⟨bk5,0,none⟩=some (.bool b.fr.neg):=by rw [Lib.cell_of_heap (hpU hR.below HX5_4.out)];rfl
           have cx1:w.cell? ⟨bk5,1,none⟩=some (.string b.fr.n):=by rw [Lib.cell_of_heap (hpU hR.below HX5_4.out)];rfl
           have cx2:w.cell? ⟨bk5,2,none⟩=some (.string b.fr.d):=by rw [Lib.cell_of_heap (hpU hR.below HX5_4.out)];rfl
           refine gSq (b:=true) e11 ?_;go_simp;exact hK _ _ rfl rB
          ·have e17:av_.tmps.getD 50 undef=.agg #[.bool a.fr.neg,.string a.fr.n,.string a.fr.d]:=hR.d 17;have e19:av_.tmps.getD 52 undef=.agg #[.bool b.fr.neg,.string b.fr.n,.string b.fr.d]:=hR.d 19;have e11:av_.tmps.getD 44 undef=.bool true:=hR.g 11;refine gSq (b:=true) e11 ?_;go_simp;refine (C4.out w).mono ?_;rintro e w' ⟨rfl,hb⟩;exact hK _ _ (rfl) hb
          ·have e20:av_.tmps.getD 53 undef=.int .i64 cz:=hR.d 20;have e11:av_.tmps.getD 44 undef=.bool true:=hR.g 11;have htz:=Htz.out;refine gSq (b:=true) e11 ?_;go_simp;exact hK _ _ rfl rB
          ·have e11:av_.tmps.getD 44 undef=.bool true:=hR.d 11;have e21:av_.tmps.getD 54 undef=.bool false:=hR.d 21;have e8:av_.tmps.getD 41 undef=.bool false:=hR.g 8;refine gSq (b:=false) e8 ?_;go_simp;exact hK _ _ rfl rB
          ·have e8:av_.tmps.getD 41 undef=.bool false:=hR.d 8;have e22:av_.tmps.getD 55 undef=.bool false:=hR.d 22;refine pSq ?_;go_simp;exact hK _ _ rfl rB
         ·intro sv_ w hS hb;have e23:sv_ 56=.bool false:=hS 23 (by decide);simp only [over,ovL,Nat.reduceAdd,Nat.reduceLeDiff,Nat.reduceLT];have HB:=mH HB hb;have HX1_1:=uH hb HX1_1;have HX5_4:=uH hb HX5_4;obtain ⟨w8,hw⟩:∃w8,w8=w:=⟨_,rfl⟩;subst hw;rw [e23];clear hS hb e23;have HA2:=hD (HAS.out (by rw [HO.out];have:=Htz.out;simp at this ⊢;omega));have hwi:=HWI.out;go_wp2_with fail;clear hwi
          go_roundw
          case rel=>exact ⟨k+1,by have:=HLT.out;omega,by first|rfl|go_num,HA2,HX1_1,HB⟩
          case measure=>have:=HLT.out;simp [intOf];omega
        case true =>
         go_wp2_with fail;refine wpVl (w:=w5) (by kernel_rfl) (fun ix v _=>v=ECheck_any_11_4 ca l k j g off a b cz bk5 ix) (fun t=>(decide (33≤t)&&decide (t<57))) (by kernel_rfl) (by kernel_rfl) (by kernel_rfl) (fun _ _ _ _ _ h=>h) ?_ ?_
         ·intro i hi ov_ listed av_ w hR K hK;have ho:=hR.at_;have hi:i<24:=hi;have hii:i=0∨i=1∨i=2∨i=3∨i=4∨i=5∨i=6∨i=7∨i=8∨i=9∨i=10∨i=11∨i=12∨i=13∨i=14∨i=15∨i=16∨i=17∨i=18∨i=19∨i=20∨i=21∨i=22∨i=23:=by omega
          rcases hii with rfl|rfl|rfl|rfl|rfl|rfl|rfl|rfl|rfl|rfl|rfl|rfl|rfl|rfl|rfl|rfl|rfl|rfl|rfl|rfl|rfl|rfl|rfl|rfl<;>(simp at ho;subst ho)
          ·have b4:av_.tmps.getD 4 undef=.int .i64 (k:Int):=hR.b 4;refine pSq ?_;go_simp;exact hK _ _ rfl rB
          ·have e0:av_.tmps.getD 33 undef=.int .i64 (k:Int):=hR.d 0;have hk0:=HK0.out.1;refine pSq ?_;go_simp;exact hK _ _ rfl rB
          ·have e1:av_.tmps.getD 34 undef=.bool false:=hR.d 1;refine pSq ?_;go_simp;exact hK _ _ rfl rB
          ·have e2:av_.tmps.getD 35 undef=.bool false:=hR.g 2;refine gSkp rfl rfl rfl (b:=true) e2 (by decide) ?_;exact hK _ _ rfl rB
          ·have e2:av_.tmps.getD 35 undef=.bool false:=hR.g 2;refine gSkp rfl rfl rfl (b:=true) e2 (by decide) ?_;exact hK _ _ rfl rB
          ·have e2:av_.tmps.getD 35 undef=.bool false:=hR.g 2;refine gSkp rfl rfl rfl (b:=true) e2 (by decide) ?_;exact hK _ _ rfl rB
          ·have e2:av_.tmps.getD 35 undef=.bool false:=hR.g 2;refine gSkp rfl rfl rfl (b:=true) e2 (by decide) ?_;exact hK _ _ rfl rB
          ·have e2:av_.tmps.getD 35 undef=.bool false:=hR.d 2;have e6:av_.tmps.getD 39 undef=undef:=hR.d 6;refine pSq ?_;go_simp;exact hK _ _ rfl rB
          ·have e7:av_.tmps.getD 40 undef=.bool false:=hR.d 7;refine pSq ?_;go_simp;exact hK _ _ rfl rB
          ·have e8:av_.tmps.getD 41 undef=.bool false:=hR.g 8;have b4:av_.tmps.getD 4 undef=.int .i64 (k:Int):=hR.b 4;refine gSq (b:=false) e8 ?_;go_simp;exact hK _ _ rfl rB
          ·have e9:av_.tmps.getD 42 undef=.int .i64 (k:Int):=hR.d 9;have e8:av_.tmps.getD 41 undef=.bool false:=hR.g 8;have hk1:=HK0.out.2.1;refine gSq (b:=false) e8 ?_;go_simp;exact hK _ _ rfl rB
          ·have e10:av_.tmps.getD 43 undef=.bool true:=hR.d 10;have e8:av_.tmps.getD 41 undef=.bool false:=hR.g 8;refine gSq (b:=false) e8 ?_;go_simp;exact hK _ _ rfl rB
          ·have e11:av_.tmps.getD 44 undef=.bool true:=hR.g 11;have b3:av_.tmps.getD 3 undef=.slice (some ⟨g,off,none⟩) l.length ca:=hR.b 3;refine gSq (b:=true) e11 ?_;go_simp;exact hK _ _ rfl rB
          ·have e11:av_.tmps.getD 44 undef=.bool true:=hR.g 11;have b4:av_.tmps.getD 4 undef=.int .i64 (k:Int):=hR.b 4;refine gSq (b:=true) e11 ?_;go_simp;exact hK _ _ rfl rB
          ·have e13:av_.tmps.getD 46 undef=.int .i64 (k:Int):=hR.d 13;have e11:av_.tmps.getD 44 undef=.bool true:=hR.g 11;have hk2:=HK0.out.2.2.1;refine gSq (b:=true) e11 ?_;go_simp;exact hK _ _ rfl rB
          ·have e12:av_.tmps.getD 45 undef=.slice (some ⟨g,off,none⟩) l.length ca:=hR.d 12;have e14:av_.tmps.getD 47 undef=.int .i64 (j:Int):=hR.d 14;have e11:av_.tmps.getD 44 undef=.bool true:=hR.g 11;have hk3:=HK0.out.2.2.2;refine gSq (b:=true) e11 ?_;go_simp;exact hK _ _ rfl rB
          ·have e15:av_.tmps.getD 48 undef=.pointer (some ⟨g,off+j*6,none⟩):=hR.d 15;have e11:av_.tmps.getD 44 undef=.bool true:=hR.g 11;refine gSq (b:=true) e11 ?_;go_simp;exact hK _ _ rfl rB
          ·have e16:av_.tmps.getD 49 undef=.pointer (some ⟨g,off+j*6,none⟩):=hR.d 16;have e11:av_.tmps.getD 44 undef=.bool true:=hR.g 11;obtain ⟨cx0,cx1,cx2,cx3,cx4,cx5⟩:=HE2.out _ (HB.out.trans (hR.below.mono HB.out.size));refine gSq (b:=true) e11 ?_;go_simp;exact hK _ _ rfl rB
          ·have e11:av_.tmps.getD 44 undef=.bool true:=hR.g 11;have b5:av_.tmps.getD 5 undef=.pointer (some ⟨bk5,0,none⟩):=hR.b 5;refine gSq (b:=true) e11 ?_;go_simp;exact hK _ _ rfl rB
          ·have e18:av_.tmps.getD 51 undef=.pointer (some ⟨bk5,0,none⟩):=hR.d 18;have e11:av_.tmps.getD 44 undef=.bool true:=hR.g 11;have cx0:w.cell? ⟨bk5,0,none⟩=some (.bool b.fr.neg):=by rw [Lib.cell_of_heap (hpU hR.below HX5_4.out)];rfl
           have cx1:w.cell? ⟨bk5,1,none⟩=some (.string b.fr.n):=by rw [Lib.cell_of_heap (hpU hR.below HX5_4.out)];rfl
           have cx2:w.cell? ⟨bk5,2,none⟩=some (.string b.fr.d):=by rw [Lib.cell_of_heap (hpU hR.below HX5_4.out)];rfl
           refine gSq (b:=true) e11 ?_;go_simp;exact hK _ _ rfl rB
          ·have e17:av_.tmps.getD 50 undef=.agg #[.bool a.fr.neg,.string a.fr.n,.string a.fr.d]:=hR.d 17;have e19:av_.tmps.getD 52 undef=.agg #[.bool b.fr.neg,.string b.fr.n,.string b.fr.d]:=hR.d 19;have e11:av_.tmps.getD 44 undef=.bool true:=hR.g 11;refine gSq (b:=true) e11 ?_;go_simp;refine (C4.out w).mono ?_;rintro e w' ⟨rfl,hb⟩;exact hK _ _ (rfl) hb
          ·have e20:av_.tmps.getD 53 undef=.int .i64 cz:=hR.d 20;have e11:av_.tmps.getD 44 undef=.bool true:=hR.g 11;have htz:=Htz.out;refine gSq (b:=true) e11 ?_;go_simp;exact hK _ _ rfl rB
          ·have e11:av_.tmps.getD 44 undef=.bool true:=hR.d 11;have e21:av_.tmps.getD 54 undef=.bool true:=hR.d 21;have e8:av_.tmps.getD 41 undef=.bool false:=hR.g 8;refine gSq (b:=false) e8 ?_;go_simp;exact hK _ _ rfl rB
          ·have e8:av_.tmps.getD 41 undef=.bool false:=hR.d 8;have e22:av_.tmps.getD 55 undef=.bool true:=hR.d 22;refine pSq ?_;go_simp;exact hK _ _ rfl rB
         ·intro sv_ w hS hb;have e23:sv_ 56=.bool true:=hS 23 (by decide);simp only [over,ovL,Nat.reduceAdd,Nat.reduceLeDiff,Nat.reduceLT];have HB:=mH HB hb;have HX1_1:=uH hb HX1_1;have HX5_4:=uH hb HX5_4;obtain ⟨w9,hw⟩:∃w8,w8=w:=⟨_,rfl⟩;subst hw;rw [e23];clear hS hb e23;have hC:C=11:=HFB.out (by rw [HO.out];have:=Htz.out;simp at this ⊢;omega);subst hC;go_wp2_with fail;go_ret;exact ⟨rfl,by rw [HN0.out];exact HB.out⟩
    ·have hge:¬(k:Int)<(l.length:Int):=by omega
     have HD:Hid (C=if rangeB l=true then 0 else 3):=hD (by rw [HK.out,if_pos (form_iff.2 (fun j hj=>HA.out j (by omega)))]);obtain ⟨R,hR⟩:∃x,rangeB l=x:=⟨_,rfl⟩;rw [hR] at HD HCF;clear hR hlt hk;go_wp2_with fail;clear hge;refine (HCF.out _ HB.out).mono ?_;rintro e w10 ⟨rfl,hb⟩;have HB:=mH HB hb;clear hb;cases R
     case false =>
      have hC:C=3:=HD.out;subst hC;go_wp2_with fail;go_ret;exact ⟨rfl,by rw [HN0.out];exact HB.out⟩
     case true =>
      have hC:C=0:=HD.out;subst hC;go_wp2_with fail;go_ret;exact ⟨rfl,by rw [HN0.out];exact HB.out⟩
end Go.Proofs.YtblgfmjlajhipaaGreatDoor
