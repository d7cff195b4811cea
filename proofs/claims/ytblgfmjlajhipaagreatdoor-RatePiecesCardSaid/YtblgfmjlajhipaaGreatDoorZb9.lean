/- Contracts that the proofs of this seat share. Each theorem names its conditions. -/
import Derived.Laws.AppendOwn
import Derived.Deep.DeepAppendWide
import Derived.Test.YtblgfmjlajhipaaGreatDoorZa6
import Derived.Test.YtblgfmjlajhipaaGreatDoorZb8
import Derived.Test.YtblgfmjlajhipaaGreatDoorZb5
import Derived.Test.YtblgfmjlajhipaaGreatDoorZb6
import Derived.Test.YtblgfmjlajhipaaGreatDoorZa1
set_option maxHeartbeats 16000000
set_option linter.unusedVariables false
namespace Go.Proofs.YtblgfmjlajhipaaGreatDoor
open Go Go.RowKit
structure NewAt (ops:Array Oper) (nw:Nat→Bool) (listed:Array Bool) (a:Act) (w:World):Prop where
 low:∀i,nw i=true→listed.getD i false=true→∃g,inSlot a (dstOf ops i)=.pointer (some ⟨g,0,none⟩)∧g<w.heap.size
 ne:∀i j,nw i=true→nw j=true→i≠j→listed.getD i false=true→listed.getD j false=true→inSlot a (dstOf ops i)≠inSlot a (dstOf ops j)
section
variable {P:Program} {ops:Array Oper} {Q:Exit→Act→World→Prop} {T0:Array Value}
theorem slot_own {a:Act} {i:Nat} {o:Oper} {v:Value} (hsl:slotsB ops T0.size=true) (hsz:a.tmps.size=T0.size) (ho:ops[i]? =some o):inSlot (a.put o.dst v) (dstOf ops i)=gives o.dst v:=by
 have hdo:dstOf ops i=o.dst:=by simp [dstOf,ho]
 rw [hdo]
 cases hd:o.dst with
 | none=>rfl
 | some d =>
  show (a.tmps.setIfInBounds d v).getD d undef=v
  rw [getD_set,if_pos ⟨rfl,by rw [hsz];exact slots_lt hsl (hdo.trans hd)⟩]
theorem slot_other {a:Act} {i j:Nat} {o:Oper} {v:Value} (hsl:slotsB ops T0.size=true) (ho:ops[i]? =some o) (hji:j≠i):inSlot (a.put o.dst v) (dstOf ops j)=inSlot a (dstOf ops j):=by
 have hdo:dstOf ops i=o.dst:=by simp [dstOf,ho]
 cases hdj:dstOf ops j with
 | none=>rfl
 | some c =>
  cases hd:o.dst with
  | none=>rfl
  | some d =>
   show (a.tmps.setIfInBounds d v).getD c undef=_
   rw [getD_set,if_neg (fun h=>hji (slots_ne hsl hdj (by rw [hdo,hd,h.1])))]
   rfl
theorem NewAt.put {nw:Nat→Bool} {listed:Array Bool} {a:Act} {w w' :World} {i:Nat} {o:Oper} {v:Value} (h:NewAt ops nw listed a w) (hsl:slotsB ops T0.size=true) (hsz:a.tmps.size=T0.size) (ho:ops[i]? =some o) (hls:listed.size=ops.size) (hb:Below w.heap.size w w')
  (hn:nw i=true→∃g,gives o.dst v=.pointer (some ⟨g,0,none⟩)∧w.heap.size≤g∧g<w'.heap.size):NewAt ops nw (listed.setIfInBounds i true) (a.put o.dst v) w' :=by
 have hz:w.heap.size≤w'.heap.size:=hb.size
 refine ⟨fun j hj hl=> ?_,fun j k hj hk hne hlj hlk=> ?_⟩
 ·by_cases hji:j=i
  ·subst hji
   rw [slot_own hsl hsz ho]
   obtain ⟨g,h1,-,h2⟩:=hn hj
   exact ⟨g,h1,h2⟩
  ·rw [slot_other hsl ho hji]
   rw [getD_set_ne false (Ne.symm hji)] at hl
   obtain ⟨g,h1,h2⟩:=h.low j hj hl
   exact ⟨g,h1,by omega⟩
 ·by_cases hji:j=i
  ·subst hji
   have hki:k≠j:=Ne.symm hne
   rw [slot_own hsl hsz ho,slot_other hsl ho hki]
   rw [getD_set_ne false (Ne.symm hki)] at hlk
   obtain ⟨g,h1,h2,-⟩:=hn hj
   obtain ⟨g',h3,h4⟩:=h.low k hk hlk
   rw [h1,h3]
   intro e
   injection e with e
   injection e with e
   injection e with e
   omega
  ·rw [slot_other hsl ho hji]
   rw [getD_set_ne false (Ne.symm hji)] at hlj
   by_cases hki:k=i
   ·subst hki
    rw [slot_own hsl hsz ho]
    obtain ⟨g,h1,h2,-⟩:=hn hk
    obtain ⟨g',h3,h4⟩:=h.low j hj hlj
    rw [h1,h3]
    intro e
    injection e with e
    injection e with e
    injection e with e
    omega
   ·rw [slot_other hsl ho hki]
    rw [getD_set_ne false (Ne.symm hki)] at hlk
    exact h.ne j k hj hk hne hlj hlk
end
end Go.Proofs.YtblgfmjlajhipaaGreatDoor
namespace Go.Proofs.YtblgfmjlajhipaaGreatDoor
open Go.RowKit Go.Shelf
open Dgt
set_option maxRecDepth 100000 in
theorem admit_any (nm:ByteArray) (um ud:Int) (v:Value) (l:List Bk) (x:Rw) (hz:SzK l 1100000) (hx:x.n.size≤1100000∧x.d.size≤1100000) (wq:World) (hl:LstK wq v l) :
  Gv 56 #[.agg #[.string nm,.int .i64 um,.int .i64 ud,v],.agg #[.bool x.neg,.string x.n,.string x.d]] wq (.int .i64 (admV l x)):=by
 unfold Gv;have HL:=hD hl;have HZ:=hD hz;clear hl hz;have HAD:=hD (show admV l x=if ckB l=0 then (if x.right=true then (if fitsR x=true then 0 else 3) else 1) else ckB l from rfl);have c1:=fun w h=>Check_any nm um ud v l HZ.out w (HL.out.up h)
 have c2:=fun w=>RatRight_any x.neg x.n x.d w (by omega) (by omega)
 have c3:=fun w=>MoFits_any x (by omega) (by omega) w
 obtain ⟨C,hC⟩:∃c,ckB l=c:=⟨_,rfl⟩;obtain ⟨P,hP⟩:∃c,x.right=c:=⟨_,rfl⟩;obtain ⟨Q,hQ⟩:∃c,fitsR x=c:=⟨_,rfl⟩;rw [show rightR x.neg x.n x.d=P from hP] at c2;rw [hC] at c1 HAD;rw [hP] at HAD;rw [hQ] at c3 HAD;obtain ⟨V,hV⟩:∃c,admV l x=c:=⟨_,rfl⟩;rw [hV] at HAD ⊢;have C1:Hid (∀w,Below wq.heap.size wq w→Gv 22 #[.agg #[.string nm,.int .i64 um,.int .i64 ud,v]] w (.int .i64 C)):=hD fun w hp0=>c1 w hp0
 have C2:Hid (∀w,Gv 64 #[.agg #[.bool x.neg,.string x.n,.string x.d]] w (.bool P)):=hD c2;have C3:Hid (∀w,Gv 69 #[.agg #[.bool x.neg,.string x.n,.string x.d]] w (.bool Q)):=hD c3;clear c1 c2 c3 hC hP hQ hV hx;have HB:=hD (Below.refl wq.heap.size wq);obtain ⟨n0,hn0⟩:∃n,n=wq.heap.size:=⟨_,rfl⟩;rw [←hn0];have HN0:=hD hn0;clear hn0;go_enter Tryz.func56,Tryz.ntmps56;obtain ⟨W1,bk2,hW1,hbk2,HX2_1,HB,HG2_1,hup⟩:=boxn HB HN0 (.cells #[.string nm,.int .i64 um,.int .i64 ud,v] 26);clear hup;obtain ⟨W2,bk3,hW2,hbk3,HX3_2,HB,HG3_2,hup⟩:=boxn HB HN0 (.cells #[.bool x.neg,.string x.n,.string x.d] 29);have HL3_2:=(hup _ _ HX2_1).2;have HX2_1:=(hup _ _ HX2_1).1;clear hup;have k3:W2.cell? ⟨bk2,0,none⟩=some (.string nm):=by rw [Lib.cell_of_heap HX2_1.out];rfl
 have k4:W2.cell? ⟨bk2,1,none⟩=some (.int .i64 um):=by rw [Lib.cell_of_heap HX2_1.out];rfl
 have k5:W2.cell? ⟨bk2,2,none⟩=some (.int .i64 ud):=by rw [Lib.cell_of_heap HX2_1.out];rfl
 have k6:W2.cell? ⟨bk2,3,none⟩=some (v):=by rw [Lib.cell_of_heap HX2_1.out];rfl
 go_wp2_with fail;clear hW1 hbk2 hW2 hbk3 k3 k4 k5 k6;refine (C1.out _ HB.out).mono ?_;rintro e w3 ⟨rfl,hb⟩;have HX2_1:=uH hb HX2_1;have HX3_2:=uH hb HX3_2;have HB:=mH HB hb;clear hb
 by_cases hc0:C=0
 ·subst hc0;obtain ⟨k7a,k7b,k7c⟩:=c3 HX3_2;go_wp2_with fail;clear k7a k7b k7c;refine (C2.out _).mono ?_;rintro e w4 ⟨rfl,hb⟩;have HX2_1:=uH hb HX2_1;have HX3_2:=uH hb HX3_2;have HB:=mH HB hb;clear hb;cases P
  case false =>
   have hV:V=1:=HAD.out;subst hV;go_wp2_with fail;go_ret;exact ⟨rfl,by rw [HN0.out];exact HB.out⟩
  case true =>
   obtain ⟨k8a,k8b,k8c⟩:=c3 HX3_2;go_wp2_with fail;clear k8a k8b k8c;refine (C3.out _).mono ?_;rintro e w5 ⟨rfl,hb⟩;have HX2_1:=uH hb HX2_1;have HX3_2:=uH hb HX3_2;have HB:=mH HB hb;clear hb;cases Q
   case false =>
    have hV:V=3:=HAD.out;subst hV;go_wp2_with fail;go_ret;exact ⟨rfl,by rw [HN0.out];exact HB.out⟩
   case true =>
    have hV:V=0:=HAD.out;subst hV;go_wp2_with fail;go_ret;exact ⟨rfl,by rw [HN0.out];exact HB.out⟩
 ·have hV:V=C:=by rw [HAD.out,if_neg hc0]
  subst hV;have hne:(V != 0)=true:=by simpa using hc0
  clear HAD hc0;go_wp2_with fail;go_ret;exact ⟨rfl,by rw [HN0.out];exact HB.out⟩
theorem Fn.enters95:∀args w,(callFunc 95 args).run Tryz.prog w=.ok (.enter 95 args) w:=enters_of Tryz.func95 (by kernel_rfl) rfl
theorem Fn.enters72:∀args w,(callFunc 72 args).run Tryz.prog w=.ok (.enter 72 args) w:=enters_of Tryz.func72 (by kernel_rfl) rfl
def Ebegins_any_1_1 (ca:Nat) (n:Nat) (k:Nat) (g:Nat) (off:Nat) (bs:Nat) (b:Bk) (x:Rw) (z:Int) (tz:Bool):Nat→Value
 | 0=>.pointer (some ⟨bs,3,none⟩)
 | 1=>.slice (some ⟨g,off,none⟩) n ca
 | 2=>.int .i64 (k:Int)
 | 3=>.pointer (some ⟨g,off+k*6,none⟩)
 | 4=>.pointer (some ⟨g,off+k*6,none⟩)
 | 5=>.agg #[.bool b.fr.neg,.string b.fr.n,.string b.fr.d]
 | 6=>.agg #[.bool x.neg,.string x.n,.string x.d]
 | 7=>.int .i64 z
 | 8=>.bool tz
 | 9=>.bool tz
 | _=>undef
set_option maxRecDepth 100000 in
theorem begins_any (nm:ByteArray) (um ud:Int) (ca n k g off bs bx:Nat) (b:Bk) (x:Rw) (hk:k<n) (hb:b.fr.n.size≤1100000∧b.fr.d.size≤1100000) (hx:x.n.size≤1100000∧x.d.size≤1100000) (wq:World) (hat:AtK wq g (off+k*6) b) (hs:wq.heap[bs]? =some (.cells #[.string nm,.int .i64 um,.int .i64 ud,.slice (some ⟨g,off,none⟩) n ca] 26 (0,0))) (hx2:wq.heap[bx]? =some (.cells #[.bool x.neg,.string x.n,.string x.d] 29 (0,0))) :
  Gv 95 #[.int .i64 (k:Int),.pointer (some ⟨bs,0,none⟩),.pointer (some ⟨bx,0,none⟩)] wq (.bool (decide (0<cmpR b.fr.val x.val))):=by
 unfold Gv;have HE:=hD hat;have HXs:=hD hs;have HXx:=hD hx2;have HKN:=hD hk;have c1:=fun w=>RatCmp_r (isR_raw hb) (isR_raw hx) (by decide) (by decide) w
 obtain ⟨z,hz⟩:∃z,cmpR b.fr.val x.val=z:=⟨_,rfl⟩;rw [hz] at c1 ⊢;have C1:Hid (∀w,Gv 66 #[.agg #[.bool b.fr.neg,.string b.fr.n,.string b.fr.d],.agg #[.bool x.neg,.string x.n,.string x.d]] w (.int .i64 z)):=hD c1;obtain ⟨tz,htz⟩:∃xq,decide (0<z)=xq:=⟨_,rfl⟩;have Htz:=hD htz;clear htz;rw [Htz.out];clear c1 hz hat hs hx2 hb hx hk;have HB:=hD (Below.refl wq.heap.size wq);obtain ⟨n0,hn0⟩:∃n,n=wq.heap.size:=⟨_,rfl⟩;rw [←hn0];have HN0:=hD hn0;clear hn0;go_enter Tryz.func95,Tryz.ntmps95;go_wp2_with fail;refine wpVl (w:=wq) (by kernel_rfl) (fun ix v _=>v=Ebegins_any_1_1 ca n k g off bs b x z tz ix) (fun t=>(decide (4≤t)&&decide (t<14))) (by kernel_rfl) (by kernel_rfl) (by kernel_rfl) (fun _ _ _ _ _ h=>h) ?_ ?_
 ·intro i hi ov_ listed av_ w hR K hK;have ho:=hR.at_;have hi:i<10:=hi;have hii:i=0∨i=1∨i=2∨i=3∨i=4∨i=5∨i=6∨i=7∨i=8∨i=9:=by omega
  rcases hii with rfl|rfl|rfl|rfl|rfl|rfl|rfl|rfl|rfl|rfl<;>(simp at ho;subst ho)
  ·have b1:av_.tmps.getD 1 undef=.pointer (some ⟨bs,0,none⟩):=hR.b 1;refine pSq ?_;go_simp;exact hK _ _ rfl rB
  ·have e0:av_.tmps.getD 5 undef=.pointer (some ⟨bs,3,none⟩):=hR.d 0;have cx0:w.cell? ⟨bs,3,none⟩=some (.slice (some ⟨g,off,none⟩) n ca):=by rw [Lib.cell_of_heap (hpU hR.below HXs.out)];rfl
   refine pSq ?_;go_simp;exact hK _ _ rfl rB
  ·have b0:av_.tmps.getD 0 undef=.int .i64 (k:Int):=hR.b 0;refine pSq ?_;go_simp;exact hK _ _ rfl rB
  ·have e1:av_.tmps.getD 6 undef=.slice (some ⟨g,off,none⟩) n ca:=hR.d 1;have e2:av_.tmps.getD 7 undef=.int .i64 (k:Int):=hR.d 2;have hk3:(k:Int)<(n:Int):=by have:=HKN.out;omega
   refine pSq ?_;go_simp;exact hK _ _ rfl rB
  ·have e3:av_.tmps.getD 8 undef=.pointer (some ⟨g,off+k*6,none⟩):=hR.d 3;refine pSq ?_;go_simp;exact hK _ _ rfl rB
  ·have e4:av_.tmps.getD 9 undef=.pointer (some ⟨g,off+k*6,none⟩):=hR.d 4;obtain ⟨cx0,cx1,cx2,cx3,cx4,cx5⟩:=HE.out _ (HB.out.trans (hR.below.mono HB.out.size));refine pSq ?_;go_simp;exact hK _ _ rfl rB
  ·have b2:av_.tmps.getD 2 undef=.pointer (some ⟨bx,0,none⟩):=hR.b 2;obtain ⟨cx0,cx1,cx2⟩:=c3 (uH hR.below HXx);refine pSq ?_;go_simp;exact hK _ _ rfl rB
  ·have e5:av_.tmps.getD 10 undef=.agg #[.bool b.fr.neg,.string b.fr.n,.string b.fr.d]:=hR.d 5;have e6:av_.tmps.getD 11 undef=.agg #[.bool x.neg,.string x.n,.string x.d]:=hR.d 6;refine pSq ?_;go_simp;refine (C1.out w).mono ?_;rintro e w' ⟨rfl,hb⟩;exact hK _ _ (rfl) hb
  ·have e7:av_.tmps.getD 12 undef=.int .i64 z:=hR.d 7;have htz:=Htz.out;refine pSq ?_;go_simp;exact hK _ _ rfl rB
  ·have e8:av_.tmps.getD 13 undef=.bool tz:=hR.d 8;refine pSq ?_;go_simp;exact hK _ _ rfl rB
 ·intro sv_ w hS hb;have e9:sv_ 4=.bool tz:=hS 9 (by decide);simp only [over,ovL,Nat.reduceAdd,Nat.reduceLeDiff,Nat.reduceLT];have HB:=mH HB hb;have HXs:=uH hb HXs;have HXx:=uH hb HXx;obtain ⟨w1,hw⟩:∃w8,w8=w:=⟨_,rfl⟩;subst hw;rw [e9];clear hS hb e9;go_wp2_with fail;go_ret;exact ⟨rfl,by rw [HN0.out];exact HB.out⟩
set_option maxRecDepth 100000 in
theorem bracket_any (nm:ByteArray) (um ud:Int) (v:Value) (l:List Bk) (x:Rw) (hz:SzK l 1100000) (hc:ckB l=0) (hx:x.n.size≤1100000∧x.d.size≤1100000) (wq:World) (hl:LstK wq v l) :
  Gv 57 #[.agg #[.string nm,.int .i64 um,.int .i64 ud,v],.agg #[.bool x.neg,.string x.n,.string x.d]] wq (.int .i64 ((cntT (valsB l) x.val:Nat):Int)):=by
 unfold Gv;have HCT:=hD (cntT_B (x:=x.val) (ck_right hc).1 x.val_ok);have HUP:Hid (∀a b,a≤b→b<l.length→decide (0<cmpR (frT (valsB l) a) x.val)=true→decide (0<cmpR (frT (valsB l) b) x.val)=true):=hD fun a b hab hb h=>by
  have hS:=(ck_right hc).1;have hlen:(valsB l).length=l.length:=by unfold valsB;rw [List.length_map]
  rw [decide_eq_true_eq,cmpR_q (hS.frOk _) x.val_ok,sgQ_gt0] at h ⊢;have:=hS.inc.le hab (by rw [hlen];exact hb);unfold frQ at this;grind
 have HFR:Hid (∀k (h:k<l.length),frT (valsB l) k=l[k].fr.val):=hD fun k h=>by
  unfold frT valsB;rw [List.getElem?_map,List.getElem?_eq_getElem h];rfl
 have HLN:Hid ((valsB l).length=l.length):=hD (by unfold valsB;rw [List.length_map]);have HX0:=hD hx;clear hc hx;obtain ⟨ps,ca,rfl,-,hla,hca⟩:=hl.open;have HAT:=hD hca;have HLA:=hD hla;have HZ:=hD hz;clear hca hla hl hz;have HB:=hD (Below.refl wq.heap.size wq);obtain ⟨n0,hn0⟩:∃n,n=wq.heap.size:=⟨_,rfl⟩;rw [←hn0];have HN0:=hD hn0;clear hn0;go_enter Tryz.func57,Tryz.ntmps57;obtain ⟨W1,bk2,hW1,hbk2,HX2_1,HB,HG2_1,hup⟩:=boxn HB HN0 (.cells #[.string nm,.int .i64 um,.int .i64 ud,.slice ps l.length ca] 26);clear hup;obtain ⟨W2,bk3,hW2,hbk3,HX3_2,HB,HG3_2,hup⟩:=boxn HB HN0 (.cells #[.bool x.neg,.string x.n,.string x.d] 29);have HL3_2:=(hup _ _ HX2_1).2;have HX2_1:=(hup _ _ HX2_1).1;clear hup
 have HS:=hD (fun w (h1:w.heap[bk2]? =some (.cells #[.string nm,.int .i64 um,.int .i64 ud,.slice ps l.length ca] 26 (0,0))) (h2:w.heap[bk3]? =some (.cells #[.bool x.neg,.string x.n,.string x.d] 29 (0,0))) (h3:Below wq.heap.size wq w)=>search_any _ #[.pointer (some ⟨bk2,0,none⟩),.pointer (some ⟨bk3,0,none⟩)] l.length (fun k=>decide (0<cmpR (frT (valsB l) k) x.val)) w Fn.enters95 HLA.out (fun k hk w' hb=>by
  obtain ⟨g,off,rfl,hat⟩:=HAT.out k hk;have:=begins_any nm um ud ca l.length k g off bk2 bk3 l[k] x hk (HZ.out _ (List.getElem_mem hk)).1 HX0.out w' (hat.up (h3.trans (hb.mono h3.size))) (hpU hb h1) (hpU hb h2);rw [HFR.out k hk];exact this) HUP.out)
 simp only [show cntB (fun k=>decide (0<cmpR (frT (valsB l) k) x.val)) l.length=cntT (valsB l) x.val by rw [←HLN.out];exact HCT.out] at HS;have k3:W2.cell? ⟨bk2,3,none⟩=some (.slice ps l.length ca):=by rw [Lib.cell_of_heap HX2_1.out];rfl
 go_wp2_with fail;clear hW1 hbk2 hW2 hbk3 k3;refine (HS.out _ HX2_1.out HX3_2.out HB.out).mono ?_;rintro e w3 ⟨rfl,hb⟩;have HX2_1:=uH hb HX2_1;have HX3_2:=uH hb HX3_2;have HB:=mH HB hb;clear hb;go_wp2_with fail;go_ret;exact ⟨rfl,by rw [HN0.out];exact HB.out⟩
theorem wp_append_run {P:Program} {o:Oper} {a:Act} {w:World} {K:Act→World→Prop} {Q:Exit→Act→World→Prop} (s x:Operand) (t:TypeId)
  (ho:o.op=.call { callee:=.builtin .append,args:=#[s,x],argTypes:=#[t,t] }) (vs vx v' :Value) (w' :World) (hs:a.eval s=vs) (hx:a.eval x=vx)
  (hr:(Builtin.append_ #[t,t] o.type #[vs,vx]).run P w=.ok v' w') (h:K (a.put o.dst v') w'):o.wp P a w K Q:=by
 unfold Oper.wp execOp;simp only [ho,resolve,invoke,builtin,Sem.run_bind,Sem.run_pure,Result.andThen_ok,List.map_toArray,List.map_cons,List.map_nil,hs,hx,hr];exact h
theorem wpList_append_run {P:Program} {w:World} {ops:Array Oper} {rest:List Oper} {o:Oper} {a:Act} {Q:Exit→Act→World→Prop} (hgd:o.guard=none) (s x:Operand) (t:TypeId)
  (ho:o.op=.call { callee:=.builtin .append,args:=#[s,x],argTypes:=#[t,t] }) (vs vx v' :Value) (w' :World) (hs:a.eval s=vs) (hx:a.eval x=vx)
  (hr:(Builtin.append_ #[t,t] o.type #[vs,vx]).run P w=.ok v' w') (h:wpList P ops Q rest (a.put o.dst v') w'):wpList P ops Q (o::rest) a w :=
 wpList_plain hgd fun _ hK=>wp_append_run s x t ho vs vx v' w' hs hx hr (hK _ _ h)
theorem own_base_b {w:World} {B size:Nat} {e:TypeId} {v:Value} {n:Nat} {xs:List Value} (h:w.ownsRow B e size v n xs):∀k,v.ownBlock=some k→B≤k:=by
 intro k hk;rcases h.2 with ⟨rfl,h0⟩|⟨g,cap,cur,rfl,hg,_⟩
 ·cases hk
 ·have:g=k:=by simpa [Value.ownBlock] using hk
  omega
theorem own_room {w:World} {B size:Nat} {e:TypeId} {v:Value} {n:Nat} {xs:List Value} (h:w.ownsRow B e size v n xs) (hw:B≤w.heap.size∨0<n):B≤w.heap.size:=by
 rcases hw with hw|hw
 ·exact hw
 ·rcases h.2 with ⟨rfl,h0⟩|⟨g,cap,cur,rfl,hg,hgh,_⟩
  ·omega
  ·have:=(Array.getElem?_eq_some_iff.1 hgh).1;omega
theorem own_ge {w:World} {B size b:Nat} {e:TypeId} {v:Value} {n:Nat} {xs:List Value} (h:w.ownsRow B e size v n xs) (hb:w.heap.size≤b):∀g,v.ownBlock=some g→b≠g:=by
 intro g hg;rcases h.2 with ⟨rfl,h0⟩|⟨g',cap,cur,rfl,_,hgh,_⟩
 ·cases hg
 ·have:g' =g:=by simpa [Value.ownBlock] using hg
  have:=(Array.getElem?_eq_some_iff.1 hgh).1;omega
theorem one3 (x:Bool) (y z:ByteArray):∀u ∈ [Value.bool x,.string y,.string z],u.oneCell' =true:=by intro u hu;simp at hu;rcases hu with rfl|rfl|rfl<;>rfl
theorem one6 (x:Bool) (y z:ByteArray) (a:Bool) (b c:ByteArray):∀u ∈ [Value.bool x,.string y,.string z,.bool a,.string b,.string c],u.oneCell' =true:=by intro u hu;simp at hu;rcases hu with rfl|rfl|rfl|rfl|rfl|rfl<;>rfl
theorem one4 (d:Int) (x:Bool) (y z:ByteArray):∀u ∈ [Value.int .i64 d,.bool x,.string y,.string z],u.oneCell' =true:=by intro u hu;simp at hu;rcases hu with rfl|rfl|rfl|rfl<;>rfl
theorem grown_box {w w' :World} {row:Option Nat} {B b:Nat} {o:Obj} (hg:w.grownBy w' row) (hr:∀k,row=some k→B≤k) (hb:b<B) (h:w.heap[b]? =some o):w'.heap[b]? =some o :=
 (hg.block b (Array.getElem?_eq_some_iff.1 h).1 (fun e=>by have:=hr b e.symm;omega)).trans h
theorem grown_below {A w w' :World} {row:Option Nat} {B m:Nat} (hg:w.grownBy w' row) (hr:∀k,row=some k→B≤k) (hm:m≤B) (h:Below m A w) (hA:m≤w.heap.size):Below m A w' :=
 ⟨hg.os.trans h.os,hg.tape.trans h.tape,hg.output.trans h.output,Nat.le_trans h.size hg.size,fun b hb=>(hg.block b (by omega) (fun e=>by have:=hr b e.symm;omega)).trans (h.block b hb)⟩
theorem app_rat {w:World} {B g n:Nat} {v:Value} {xs:List Value} {a b c:Value} (h:w.ownsRow B 29 3 v n xs) (h6:w.heap[g]? =some (.cells #[a,b,c] 29 (0,0))) (h1:∀u ∈ [a,b,c],u.oneCell' =true) (hw:B≤w.heap.size∨0<n) (hl:n≤1000) :
  ∃v' w',(Builtin.append_ #[54,54] 54 #[v,.slice (some ⟨g,0,none⟩) 1 1]).run Tryz.prog w=.ok v' w' ∧w'.ownsRow B 29 3 v' (n+1) (xs++[a,b,c]) ∧
   (∀b o,Hid (b<B)→Hid (w.heap[b]? =some o)→Hid (w'.heap[b]? =some o))∧∀(m:Nat) (A:World),m≤B→Hid (Below m A w)→Hid (Below m A w'):=by
 have hw:=own_room h hw;obtain ⟨i0,hi,hz0,hz1,hz2⟩:=info_partsN infoRat;obtain ⟨v',w',hr,r1,r2,-⟩:=run_append_own (P:=Tryz.prog) w B 54 54 29 i0 (.agg #[.bool false,.string ⟨#[]⟩,.string ⟨#[]⟩]) 3 40 Tryz.underlying54 hi hz0 hz1 hz2 rfl (by decide)
  v n xs h ⟨g,0,none⟩ 1 1 [a,b,c] rfl (fun j u hj=>by
   have e:(⟨g,0,none⟩:Addr).add j=⟨g,j,none⟩:=by cases j<;>simp [Addr.add]
   rw [e,Lib.cell_of_heap h6];simpa using hj) h1 (by unfold maxLen;omega) (by omega) hw
 have hb:=own_base_b h;exact ⟨v',w',hr,r1,fun b o hbB hx=>hD (grown_box r2 hb hbB.out hx.out),fun m A hm hA=>hD (grown_below r2 hb hm hA.out (Nat.le_trans hm hw))⟩
theorem app_bk {w:World} {B g n:Nat} {v:Value} {xs:List Value} {a b c d e f:Value} (h:w.ownsRow B 42 6 v n xs) (h6:w.heap[g]? =some (.cells #[a,b,c,d,e,f] 42 (0,0))) (h1:∀u ∈ [a,b,c,d,e,f],u.oneCell' =true) (hw:B≤w.heap.size∨0<n) (hl:n≤1000) :
  ∃v' w',(Builtin.append_ #[24,24] 24 #[v,.slice (some ⟨g,0,none⟩) 1 1]).run Tryz.prog w=.ok v' w' ∧w'.ownsRow B 42 6 v' (n+1) (xs++[a,b,c,d,e,f]) ∧
   (∀b o,Hid (b<B)→Hid (w.heap[b]? =some o)→Hid (w'.heap[b]? =some o))∧∀(m:Nat) (A:World),m≤B→Hid (Below m A w)→Hid (Below m A w'):=by
 have hw:=own_room h hw;obtain ⟨i0,hi,hz0,hz1,hz2⟩:=info_partsN infoBk;obtain ⟨v',w',hr,r1,r2,-⟩:=run_append_own (P:=Tryz.prog) w B 24 24 42 i0 (.agg #[.bool false,.string ⟨#[]⟩,.string ⟨#[]⟩,.bool false,.string ⟨#[]⟩,.string ⟨#[]⟩]) 6 80 Tryz.underlying24 hi hz0 hz1 hz2 rfl (by decide)
  v n xs h ⟨g,0,none⟩ 1 1 [a,b,c,d,e,f] rfl (fun j u hj=>by
   have e:(⟨g,0,none⟩:Addr).add j=⟨g,j,none⟩:=by cases j<;>simp [Addr.add]
   rw [e,Lib.cell_of_heap h6];simpa using hj) h1 (by unfold maxLen;omega) (by omega) hw
 have hb:=own_base_b h;exact ⟨v',w',hr,r1,fun b o hbB hx=>hD (grown_box r2 hb hbB.out hx.out),fun m A hm hA=>hD (grown_below r2 hb hm hA.out (Nat.le_trans hm hw))⟩
theorem app_dr {w:World} {B g n:Nat} {v:Value} {xs:List Value} {a b c d:Value} (h:w.ownsRow B 64 4 v n xs) (h6:w.heap[g]? =some (.cells #[a,b,c,d] 64 (0,0))) (h1:∀u ∈ [a,b,c,d],u.oneCell' =true) (hw:B≤w.heap.size∨0<n) (hl:n≤1000) :
  ∃v' w',(Builtin.append_ #[56,56] 56 #[v,.slice (some ⟨g,0,none⟩) 1 1]).run Tryz.prog w=.ok v' w' ∧w'.ownsRow B 64 4 v' (n+1) (xs++[a,b,c,d]) ∧
   (∀b o,Hid (b<B)→Hid (w.heap[b]? =some o)→Hid (w'.heap[b]? =some o))∧∀(m:Nat) (A:World),m≤B→Hid (Below m A w)→Hid (Below m A w'):=by
 have hw:=own_room h hw;obtain ⟨i0,hi,hz0,hz1,hz2⟩:=info_partsN infoDk;obtain ⟨v',w',hr,r1,r2,-⟩:=run_append_own (P:=Tryz.prog) w B 56 56 64 i0 (.agg #[.int .i64 0,.bool false,.string ⟨#[]⟩,.string ⟨#[]⟩]) 4 48 Tryz.underlying56 hi hz0 hz1 hz2 rfl (by decide)
  v n xs h ⟨g,0,none⟩ 1 1 [a,b,c,d] rfl (fun j u hj=>by
   have e:(⟨g,0,none⟩:Addr).add j=⟨g,j,none⟩:=by cases j<;>simp [Addr.add]
   rw [e,Lib.cell_of_heap h6];simpa using hj) h1 (by unfold maxLen;omega) (by omega) hw
 have hb:=own_base_b h;exact ⟨v',w',hr,r1,fun b o hbB hx=>hD (grown_box r2 hb hbB.out hx.out),fun m A hm hA=>hD (grown_below r2 hb hm hA.out (Nat.le_trans hm hw))⟩
end Go.Proofs.YtblgfmjlajhipaaGreatDoor
namespace Go.Proofs.YtblgfmjlajhipaaGreatDoor
open Go Go.RowKit
def Apart (v u:Value):Prop:=u.ownBlock=none∨u.ownBlock≠v.ownBlock
theorem Apart.symm {v u:Value} (h:Apart v u):Apart u v:=by
 unfold Apart at *
 rcases h with h|h
 ·cases hv:v.ownBlock with
  | none=>exact .inl rfl
  | some g=>right;rw [h];simp
 ·cases hv:v.ownBlock with
  | none=>exact .inl rfl
  | some g=>right;rw [←hv];exact fun e=>h e.symm
theorem own_cell {w:World} {B size b k n:Nat} {e:TypeId} {v u:Value} {xs:List Value} (h:w.ownsRow B e size v n xs) (hne:∀g,v.ownBlock=some g→b≠g):(w.setCell ⟨b,k,none⟩ u).ownsRow B e size v n xs:=by
 refine ⟨h.1,?_⟩
 rcases h.2 with h0|⟨g,cap,cur,rfl,h1,h2,h3⟩
 ·exact .inl h0
 ·have hn:b≠g:=hne g rfl
  exact .inr ⟨g,cap,cur,rfl,h1,by simp [World.setCell,Array.getElem?_modify,h2,hn],h3⟩
theorem own_new {w:World} {B size n:Nat} {e:TypeId} {v:Value} {xs:List Value} (h:w.ownsRow B e size v n xs):∀g,v.ownBlock=some g→w.heap.size≠g:=fun g hg=>by
 have:=(h.lt g hg).2;omega
theorem own_old {w:World} {B size n b:Nat} {e:TypeId} {v:Value} {xs:List Value} (h:w.ownsRow B e size v n xs) (hb:b<B):∀g,v.ownBlock=some g→b≠g:=fun g hg=>by
 have:=(h.lt g hg).1;omega
section
variable {P:Program} {ops:Array Oper} {Q:Exit→Act→World→Prop} {T0:Array Value} {S:Nat→Value→World→Prop}
def BoxS (S:Nat→Value→World→Prop) (ws ia is:Nat) (Z N:Obj) (listed:Array Bool) (j:Nat) (v:Value) (w:World):Prop :=
 if j=ia then ∃g,v=.pointer (some ⟨g,0,none⟩)∧ws≤g∧w.heap[g]? =some (if listed.getD is false=true then N else Z)
 else if j=is then True else S j v w
structure BAt (ops:Array Oper) (T0:Array Value) (S:Nat→Value→World→Prop) (ia is:Nat) (w0:World) (i:Nat) (o:Oper) (listed:Array Bool) (a:Act) (w:World):Prop where
 at_:ops[i]? =some o
 ups:∀e ∈ o.after,Region.binds .any e=true→listed.getD e.on false=true
 base:∀t,freeB ops t=true→a.tmps.getD t undef=T0.getD t undef
 vals:∀j,j≠ia→j≠is→listed.getD j false=true→S j (inSlot a (dstOf ops j)) w
 below:Below w0.heap.size w0 w
theorem BAt.dep {ia is:Nat} {w0:World} {i:Nat} {o:Oper} {listed:Array Bool} {a:Act} {w:World} (h:BAt ops T0 S ia is w0 i o listed a w) (e:Edge) (he:e ∈ o.after) (hb:Region.binds .any e=true) (h1:e.on≠ia) (h2:e.on≠is):S e.on (inSlot a (dstOf ops e.on)) w:=h.vals e.on h1 h2 (h.ups e he hb)
theorem BAt.b {ops:Array Oper} {T0:Array Value} {S:Nat→Value→World→Prop} {ia is:Nat} {w0:World} {i:Nat} {o:Oper} {listed:Array Bool} {a:Act} {w:World} (h:BAt ops T0 S ia is w0 i o listed a w) (t:Nat) (ht:freeB ops t=true:=by kernel_rfl):a.tmps.getD t undef=T0.getD t undef:=h.base t ht
theorem wp_region_box {id:Nat} {w0:World} (hm:P.follows .mixedOrders=true) (S:Nat→Value→World→Prop) (ia is:Nat) (Z N:Obj) (b:Nat→Bool) (hov:overB ops T0.size b=true) (hsl:slotsB ops T0.size=true) (hbk:backR ops=true) (hne:ia≠is) (hil:is<ops.size)
  (hdep:(ops[is]?).any (fun o=>o.after.any fun e=>decide (e.on=ia)&&Region.binds .any e)=true) (hnone:dstOf ops is=none)
  (hup:∀j v w w',Below w0.heap.size w w' →S j v w→S j v w')
  (hstep:∀i,i<ops.size→i≠ia→i≠is→∀o listed a w',BAt ops T0 S ia is w0 i o listed a w' →
   ∀K:Act→World→Prop,(∀v w'',S i (gives o.dst v) w'' →Below w'.heap.size w' w'' →K (a.put o.dst v) w'')→wpOp P ops Q i K a w')
  (halloc:∀o a w',ops[ia]? =some o→∀K:Act→World→Prop,(∀v w'' g,gives o.dst v=.pointer (some ⟨g,0,none⟩)→w'.heap.size≤g→w''.heap[g]? =some Z→Below w'.heap.size w' w'' →K (a.put o.dst v) w'')→wpOp P ops Q ia K a w')
  (hstore:∀o listed a w' g,BAt ops T0 S ia is w0 is o listed a w' →inSlot a (dstOf ops ia)=.pointer (some ⟨g,0,none⟩)→w0.heap.size≤g→w'.heap[g]? =some Z →
   ∀K:Act→World→Prop,(∀w'',w''.heap[g]? =some N→Below w0.heap.size w' w'' →K a w'')→wpOp P ops Q is K a w')
  (hdone:∀(s:Nat→Value) w' g,(∀j,j<ops.size→j≠ia→j≠is→S j (match dstOf ops j with|some d=>s d|none=>undef) w')→(match dstOf ops ia with|some d=>s d|none=>undef)=.pointer (some ⟨g,0,none⟩)→w0.heap.size≤g→w'.heap[g]? =some N→Below w0.heap.size w0 w' →
   Q .normal { tmps:=(over b s 0 T0.toList).toArray,defers:=[] } w') :
  (Code.region id ops true).wp P Q { tmps:=T0,defers:=[] } w0:=by
 have hdepl:∀listed:Array Bool,(∀o,ops[is]? =some o→∀e ∈ o.after,Region.binds .any e=true→listed.getD e.on false=true)→listed.getD ia false=true:=fun listed h=>by
  cases ho:ops[is]? with
  | none=>rw [ho] at hdep;cases hdep
  | some o =>
   rw [ho] at hdep
   obtain ⟨e,he,h4⟩:=Array.any_eq_true'.1 (show (o.after.any fun e=>decide (e.on=ia)&&Region.binds .any e)=true from hdep)
   simp only [Bool.and_eq_true,decide_eq_true_eq] at h4
   have:=h o ho e he h4.2
   rwa [h4.1] at this
 refine wp_region_inv (RSt ops T0 (BoxS S w0.heap.size ia is Z N) (fun _ w' =>Below w0.heap.size w0 w')) hm ?_ ?_ ?_
 ·exact ⟨by simp,rfl,rfl,fun _ _=>rfl,fun j hj=>(by rw [getD_falses] at hj;cases hj),(Below.refl _ _).drew,fun j o _ hj=>by rw [getD_falses] at hj;cases hj⟩
 ·intro listed a w' hI i o ho hun hall
  have hun' :listed.getD i false=false:=by
   rcases Nat.lt_or_ge i listed.size with h' |h'
   ·simp [h'] at hun ⊢;exact hun
   ·simp [Array.getElem?_eq_none h'] at hun
  have hio:i<ops.size:=(Array.getElem?_eq_some_iff.1 ho).1
  have hA:BAt ops T0 S ia is w0 i o listed a w' :=⟨ho,hall,fun t ht=>hI.base t (fun j hj=>absurd hj (free_ne ht)),fun j h1 h2 hj=>by have:=hI.vals j hj;unfold BoxS at this;rwa [if_neg h1,if_neg h2] at this,hI.glob⟩
  by_cases hia:i=ia
  ·subst hia
   refine halloc o a w' ho _ fun v w'' g hv hg hz hb=> ?_
   refine hI.put_one hsl ho hun' hall ?_ (hI.glob.trans (hb.mono hI.glob.size)) ?_
   ·unfold BoxS;rw [if_pos rfl]
    refine ⟨g,hv,Nat.le_trans hI.glob.size hg,?_⟩
    have hs:(listed.setIfInBounds i true).getD is false=false:=by
     rw [getD_set_ne false hne]
     cases h:listed.getD is false
     ·rfl
     ·have:=hdepl listed (fun o ho e he hb=>hI.closed is o ho h e he hb)
      rw [hun'] at this;cases this
    rw [hs];simpa using hz
   ·intro j u hji hj hS
    unfold BoxS at hS ⊢
    rw [if_neg hji] at hS ⊢
    split
    ·trivial
    ·rename_i h;rw [if_neg h] at hS;exact hup j u w' w'' (hb.mono hI.glob.size) hS
  ·by_cases his:i=is
   ·subst his
    have hla:=hdepl listed (fun o' ho' e he hb=>by rw [ho] at ho';obtain rfl:=Option.some.inj ho';exact hall e he hb)
    have hbox:=hI.vals ia hla
    unfold BoxS at hbox
    rw [if_pos rfl,hun'] at hbox
    obtain ⟨g,hv,hg,hz⟩:=hbox
    have hdo:o.dst=none:=by rw [←show dstOf ops i=o.dst from (by simp [dstOf,ho])];exact hnone
    refine hstore o listed a w' g hA hv hg (by simpa using hz) _ fun w'' hN hb=> ?_
    refine ⟨by simpa using hI.lsize,hI.size,hI.defers,fun t ht=>hI.base t fun j hj=> ?_,fun j hj=> ?_,hI.glob.trans hb,fun j oj hoj hj e he hbe=> ?_⟩
    ·by_cases hji:j=i
     ·subst hji;exact hun'
     ·have:=ht j hj;rwa [getD_set_ne false (Ne.symm hji)] at this
    ·unfold BoxS
     by_cases hja:j=ia
     ·subst hja
      rw [if_pos rfl]
      refine ⟨g,hv,hg,?_⟩
      have:(listed.setIfInBounds i true).getD i false=true:=by simp [hI.lsize,hio]
      rw [this];simpa using hN
     ·rw [if_neg hja]
      split
      ·trivial
      ·rename_i h
       have hj' :listed.getD j false=true:=by rwa [getD_set_ne false (Ne.symm h)] at hj
       have:=hI.vals j hj'
       unfold BoxS at this
       rw [if_neg hja,if_neg h] at this
       exact hup j _ w' w'' hb this
    ·by_cases hji:j=i
     ·subst hji
      rw [ho] at hoj
      obtain rfl:=Option.some.inj hoj
      exact getD_set_true (hall e he hbe)
     ·have hj' :listed.getD j false=true:=by rwa [getD_set_ne false (Ne.symm hji)] at hj
      exact getD_set_true (hI.closed j oj hoj hj' e he hbe)
   ·refine hstep i hio hia his o listed a w' hA _ fun v w'' hS hb=> ?_
    refine hI.put_one hsl ho hun' hall ?_ (hI.glob.trans (hb.mono hI.glob.size)) ?_
    ·unfold BoxS;rw [if_neg hia,if_neg his];exact hS
    ·intro j u hji hj hSj
     unfold BoxS at hSj ⊢
     by_cases hja:j=ia
     ·subst hja
      rw [if_pos rfl] at hSj ⊢
      obtain ⟨g,h1,h2,h3⟩:=hSj
      refine ⟨g,h1,h2,?_⟩
      rw [getD_set_ne false his]
      exact (hb.block g (Array.getElem?_eq_some_iff.1 h3).1).trans h3
     ·rw [if_neg hja] at hSj ⊢
      split
      ·trivial
      ·rename_i h;rw [if_neg h] at hSj;exact hup j u w' w'' (hb.mono hI.glob.size) hSj
 ·intro listed a w' hI hr
  have hupl:∀j,j<ops.size→listed.getD j false=true:=fun j hj=>by
   have:=all_up hI.lsize (fun j o ho e he hb=>by
    have h1:=List.all_eq_true.1 hbk j (by simpa using (Array.getElem?_eq_some_iff.1 ho).1)
    rw [ho] at h1
    have h2:=Array.all_eq_true'.1 (show (o.after.all fun e=> !Region.binds .any e||decide (e.on<j))=true from h1) e he
    rw [hb] at h2
    simpa using h2) hr j hj
   have hs:j<listed.size:=by rw [hI.lsize];exact hj
   simpa [hs] using this
  have hT:a.tmps=fill ops (fun d=>a.tmps.getD d undef) ops.size T0:=by
   refine arr_ext (by rw [fill_size];exact hI.size) fun t=> ?_
   rw [fill_get ops _ T0 (fun j d h=>slots_lt hsl h) t]
   split
   ·rfl
   ·rename_i hno
    exact hI.base t fun j hj=>absurd ⟨j,dstOf_lt hj,hj⟩ hno
  have ha:a={ tmps:=fill ops (fun d=>a.tmps.getD d undef) ops.size T0,defers:=[] }:=by
   obtain ⟨tm,df⟩:=a
   have hd:df=[]:=hI.defers
   subst hd
   rw [←hT]
  have hla:=hdepl listed (fun o ho e he hb=>hI.closed is o ho (hupl is hil) e he hb)
  have hbox:=hI.vals ia hla
  unfold BoxS at hbox
  rw [if_pos rfl,hupl is hil] at hbox
  obtain ⟨g,hv,hg,hz⟩:=hbox
  rw [ha,fill_over hsl hov]
  refine hdone _ w' g (fun j hj h1 h2=> ?_) ?_ hg (by simpa using hz) hI.glob
  ·have:=hI.vals j (hupl j hj)
   unfold BoxS at this
   rw [if_neg h1,if_neg h2] at this
   cases hd:dstOf ops j with
   | none=>rw [hd] at this;exact this
   | some d=>rw [hd] at this;exact this
  ·cases hd:dstOf ops ia with
   | none=>rw [hd] at hv;exact hv
   | some d=>rw [hd] at hv;exact hv
end
end Go.Proofs.YtblgfmjlajhipaaGreatDoor
