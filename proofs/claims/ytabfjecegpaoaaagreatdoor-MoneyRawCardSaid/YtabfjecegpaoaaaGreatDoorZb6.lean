/- Contracts that the proofs of this seat share. Each theorem names its conditions. -/

import Derived.Test.YtabfjecegpaoaaaGreatDoorZb2
import Derived.Test.YtabfjecegpaoaaaGreatDoorZb4
import Derived.Test.YtabfjecegpaoaaaGreatDoorZb5
set_option maxHeartbeats 16000000
set_option linter.unusedVariables false
namespace Go.Proofs.YtabfjecegpaoaaaGreatDoor
open Go Go.RowKit Go.Shelf
open Dgt
theorem c3 {W:World} {b:Nat} {x0 x1 x2:Value} {t:TypeId} (h:Hid (W.heap[b]? =some (.cells #[x0,x1,x2] t (0,0)))):W.cell? ⟨b,0,none⟩=some x0∧W.cell? ⟨b,1,none⟩=some x1∧W.cell? ⟨b,2,none⟩=some x2 :=
 ⟨by rw [Lib.cell_of_heap h.out];rfl,by rw [Lib.cell_of_heap h.out];rfl,by rw [Lib.cell_of_heap h.out];rfl⟩
theorem boxn {A W:World} {n:Nat} (hb:Hid (Below A.heap.size A W)) (hn:Hid (n=A.heap.size)) (o:Obj) :
  ∃W' b,W.alloc o=W' ∧W.heap.size=b∧Hid (W'.heap[b]? =some o)∧Hid (Below A.heap.size A W')∧Hid (n≤b)∧∀c p,Hid (W.heap[c]? =some p)→Hid (W'.heap[c]? =some p)∧Hid (c<b) :=
 ⟨_,_,rfl,rfl,hD (heap_alloc_new W o),hD (hb.out.alloc hb.out.size o),hD (by rw [hn.out];exact hb.out.size),fun c p h=>⟨hD (hpU ((Below.refl _ W).alloc (Nat.le_refl _) o) h.out),hD (Array.getElem?_eq_some_iff.1 h.out).1⟩⟩
theorem put3 {A W:World} {n b:Nat} {x0 x1 x2:Value} {t:TypeId} (h:Hid (W.heap[b]? =some (.cells #[x0,x1,x2] t (0,0)))) (hb:Hid (Below A.heap.size A W)) (hn:Hid (n=A.heap.size)) (hg:Hid (n≤b)) (u0 u1 u2:Value) :
  ∃W',((W.setCell ⟨b,0,none⟩ u0).setCell ⟨b,1,none⟩ u1).setCell ⟨b,2,none⟩ u2=W' ∧Hid (W'.heap[b]? =some (.cells #[u0,u1,u2] t (0,0)))∧Hid (Below A.heap.size A W')∧(∀c o,b≠c→Hid (W.heap[c]? =some o)→Hid (W'.heap[c]? =some o)) ∧
   W.frozen? ⟨b,0,none⟩=false∧W.frozen? ⟨b,1,none⟩=false∧W.frozen? ⟨b,2,none⟩=false∧W.cell? ⟨b,0,none⟩=some x0∧W.cell? ⟨b,1,none⟩=some x1∧W.cell? ⟨b,2,none⟩=some x2:=by
 have hz:A.heap.size≤b:=by rw [←hn.out];exact hg.out
 refine ⟨_,rfl,hD ?_,hD (((hb.out.setCell (p:=⟨b,0,none⟩) hz u0).setCell (p:=⟨b,1,none⟩) hz u1).setCell (p:=⟨b,2,none⟩) hz u2),fun c o hne ho=>hD (row_else (row_else (row_else ho.out hne _) hne _) hne _),frz0 h.out 0,frz0 h.out 1,frz0 h.out 2,c3 h⟩;simp [World.setCell,Array.getElem?_modify,h.out]
theorem boxS {A W:World} {n:Nat} (hb:Hid (Below A.heap.size A W)) (hn:Hid (n=A.heap.size)) (x:Bool) (y z:ByteArray):∃W' b,W.alloc (.cells #[.bool x,.string y,.string z] 26)=W' ∧W.heap.size=b∧Hid (W'.heap[b]? =some (.cells #[.bool x,.string y,.string z] 26))∧Hid (Below A.heap.size A W')∧Hid (n≤b)∧∀c p,Hid (W.heap[c]? =some p)→Hid (W'.heap[c]? =some p)∧Hid (c<b):=boxn hb hn (.cells #[.bool x,.string y,.string z] 26)
theorem boxR {A W:World} {n:Nat} (hb:Hid (Below A.heap.size A W)) (hn:Hid (n=A.heap.size)) (q:Rt):∃W' b,W.alloc (.cells #[.bool q.neg,.string (encS q.num),.string (encS q.den)] 26)=W' ∧W.heap.size=b∧Hid (W'.heap[b]? =some (.cells #[.bool q.neg,.string (encS q.num),.string (encS q.den)] 26))∧Hid (Below A.heap.size A W')∧Hid (n≤b)∧∀c p,Hid (W.heap[c]? =some p)→Hid (W'.heap[c]? =some p)∧Hid (c<b):=boxn hb hn (.cells #[.bool q.neg,.string (encS q.num),.string (encS q.den)] 26)
theorem boxZ {A W:World} {n:Nat} (hb:Hid (Below A.heap.size A W)) (hn:Hid (n=A.heap.size)):∃W' b,W.alloc (.cells #[.bool false,.string ⟨#[]⟩,.string ⟨#[]⟩] 26)=W' ∧W.heap.size=b∧Hid (W'.heap[b]? =some (.cells #[.bool false,.string ⟨#[]⟩,.string ⟨#[]⟩] 26))∧Hid (Below A.heap.size A W')∧Hid (n≤b)∧∀c p,Hid (W.heap[c]? =some p)→Hid (W'.heap[c]? =some p)∧Hid (c<b):=boxn hb hn (.cells #[.bool false,.string ⟨#[]⟩,.string ⟨#[]⟩] 26)
theorem putR {A W:World} {n b:Nat} {x0 x1 x2:Value} {t:TypeId} (h:Hid (W.heap[b]? =some (.cells #[x0,x1,x2] t (0,0)))) (hb:Hid (Below A.heap.size A W)) (hn:Hid (n=A.heap.size)) (hg:Hid (n≤b)) (q:Rt):∃W',((W.setCell ⟨b,0,none⟩ (.bool q.neg)).setCell ⟨b,1,none⟩ (.string (encS q.num))).setCell ⟨b,2,none⟩ (.string (encS q.den))=W' ∧Hid (W'.heap[b]? =some (.cells #[(.bool q.neg),(.string (encS q.num)),(.string (encS q.den))] t (0,0)))∧Hid (Below A.heap.size A W')∧(∀c o,b≠c→Hid (W.heap[c]? =some o)→Hid (W'.heap[c]? =some o))∧W.frozen? ⟨b,0,none⟩=false∧W.frozen? ⟨b,1,none⟩=false∧W.frozen? ⟨b,2,none⟩=false∧W.cell? ⟨b,0,none⟩=some x0∧W.cell? ⟨b,1,none⟩=some x1∧W.cell? ⟨b,2,none⟩=some x2:=put3 h hb hn hg (.bool q.neg) (.string (encS q.num)) (.string (encS q.den))
theorem putZ {A W:World} {n b:Nat} {x0 x1 x2:Value} {t:TypeId} (h:Hid (W.heap[b]? =some (.cells #[x0,x1,x2] t (0,0)))) (hb:Hid (Below A.heap.size A W)) (hn:Hid (n=A.heap.size)) (hg:Hid (n≤b)):∃W',((W.setCell ⟨b,0,none⟩ (.bool false)).setCell ⟨b,1,none⟩ (.string ⟨#[]⟩)).setCell ⟨b,2,none⟩ (.string ⟨#[]⟩)=W' ∧Hid (W'.heap[b]? =some (.cells #[(.bool false),(.string ⟨#[]⟩),(.string ⟨#[]⟩)] t (0,0)))∧Hid (Below A.heap.size A W')∧(∀c o,b≠c→Hid (W.heap[c]? =some o)→Hid (W'.heap[c]? =some o))∧W.frozen? ⟨b,0,none⟩=false∧W.frozen? ⟨b,1,none⟩=false∧W.frozen? ⟨b,2,none⟩=false∧W.cell? ⟨b,0,none⟩=some x0∧W.cell? ⟨b,1,none⟩=some x1∧W.cell? ⟨b,2,none⟩=some x2:=put3 h hb hn hg (.bool false) (.string ⟨#[]⟩) (.string ⟨#[]⟩)
theorem ne1 {a0 a1:Nat} (h0:Hid (a0<a1)):a0≠a1:=by have:=h0.out;omega
theorem en1 {a0 a1:Nat} (h0:Hid (a0<a1)):a1≠a0:=by have:=h0.out;omega
theorem ne2 {a0 a1 a2:Nat} (h0:Hid (a0<a1)) (h1:Hid (a1<a2)):a0≠a2:=by have:=h0.out;have:=h1.out;omega
theorem en2 {a0 a1 a2:Nat} (h0:Hid (a0<a1)) (h1:Hid (a1<a2)):a2≠a0:=by have:=h0.out;have:=h1.out;omega
theorem ne3 {a0 a1 a2 a3:Nat} (h0:Hid (a0<a1)) (h1:Hid (a1<a2)) (h2:Hid (a2<a3)):a0≠a3:=by have:=h0.out;have:=h1.out;have:=h2.out;omega
theorem en3 {a0 a1 a2 a3:Nat} (h0:Hid (a0<a1)) (h1:Hid (a1<a2)) (h2:Hid (a2<a3)):a3≠a0:=by have:=h0.out;have:=h1.out;have:=h2.out;omega
theorem ne4 {a0 a1 a2 a3 a4:Nat} (h0:Hid (a0<a1)) (h1:Hid (a1<a2)) (h2:Hid (a2<a3)) (h3:Hid (a3<a4)):a0≠a4:=by have:=h0.out;have:=h1.out;have:=h2.out;have:=h3.out;omega
theorem en4 {a0 a1 a2 a3 a4:Nat} (h0:Hid (a0<a1)) (h1:Hid (a1<a2)) (h2:Hid (a2<a3)) (h3:Hid (a3<a4)):a4≠a0:=by have:=h0.out;have:=h1.out;have:=h2.out;have:=h3.out;omega
theorem en5 {a0 a1 a2 a3 a4 a5:Nat} (h0:Hid (a0<a1)) (h1:Hid (a1<a2)) (h2:Hid (a2<a3)) (h3:Hid (a3<a4)) (h4:Hid (a4<a5)):a5≠a0:=by have:=h0.out;have:=h1.out;have:=h2.out;have:=h3.out;have:=h4.out;omega
end Go.Proofs.YtabfjecegpaoaaaGreatDoor
namespace Go.Proofs.YtabfjecegpaoaaaGreatDoor
open Go.RowKit Go.Shelf
open Dgt
set_option maxRecDepth 100000 in
theorem bad_any (na:Bool) (sa da:ByteArray) (za:sa.size≤100000) (zda:da.size≤100000) (wq:World) :
  Gv 57 #[.agg #[.bool na,.string sa,.string da]] wq (.bool (!(rightR na sa da&& !na))):=by
 unfold Gv;have c1:=fun w=>RatRight_any na sa da w (by omega) (by omega)
 obtain ⟨R,h0⟩:∃R,rightR na sa da=R:=⟨_,rfl⟩;rw [h0] at c1 ⊢;have C1:Hid (∀w,Gv 58 #[.agg #[.bool na,.string sa,.string da]] w (.bool R)):=hD c1;clear c1 h0 za zda;have HB:=hD (Below.refl wq.heap.size wq);obtain ⟨n0,hn0⟩:∃n,n=wq.heap.size:=⟨_,rfl⟩;rw [←hn0];have HN0:=hD hn0;clear hn0;go_enter Tryz.func57,Tryz.ntmps57;obtain ⟨W1,bk1,hW1,hbk1,HX1_1,HB,HG1_1,hup⟩:=boxS HB HN0 na sa da;clear hup;obtain ⟨k2a,k2b,k2c⟩:=c3 HX1_1;go_wp2_with fail;clear hW1 hbk1 k2a k2b k2c;refine (C1.out _).mono ?_;rintro e w2 ⟨rfl,hb⟩;have HX1_1:=uH hb HX1_1;have HB:=mH HB hb;clear hb;cases R
 case false =>
  go_wp2_with fail;go_ret;exact ⟨rfl,by rw [HN0.out];exact HB.out⟩
 case true =>
  have k3:w2.cell? ⟨bk1,0,none⟩=some (.bool na):=by rw [Lib.cell_of_heap HX1_1.out];rfl
  go_wp2_with fail;clear k3;go_ret;exact ⟨by simp,by rw [HN0.out];exact HB.out⟩
def Rw.bad (r:Rw):Bool:= !(r.right&& !r.neg)
set_option maxRecDepth 100000 in
theorem index_any (l:List Rw) (v:Value) (wq:World) (hl:LstR wq v l) (hs:SzL l 1000) :
  Calls Tryz.prog 94 #[v,.func (Fn.func 57) #[] #[]] wq fun e w' =>(∃z:Int,e=.returned (.int .i64 z)∧(0≤z↔l.any Rw.bad=true))∧Below wq.heap.size wq w' :=by
 obtain ⟨p,ca,rfl,hla,hca⟩:=hl.open;have HC:=hD hca;have HF:Hid (∀k (h:k<l.length) w,Gv 57 #[.agg #[.bool l[k].neg,.string l[k].n,.string l[k].d]] w (.bool l[k].bad)):=hD fun k h w=>by
  have:=hs _ (List.getElem_mem h);exact bad_any l[k].neg l[k].n l[k].d (by omega) (by omega) w
 obtain ⟨AB,hAB⟩:∃b,l.any Rw.bad=b:=⟨_,rfl⟩;rw [hAB];have HAB:=hD hAB;have HLA:=hD hla;clear hAB hca hl hs hla;go_enter Tryz.func94,Tryz.ntmps94;go_wp2_with fail
 go_loopw [8] (fun i wr=>∃k:Nat,k≤l.length∧i=.int .i64 (k:Int)∧Hid ((l.take k).any Rw.bad=false)∧Hid (Below wq.heap.size wq wr)) (fun i _=>l.length-(intOf i).toNat)
 case atStart=>exact ⟨0,by omega,rfl,hD rfl,hD rB⟩
 case round =>
  obtain ⟨k,hk,rfl,HA,HB⟩:=hrel
  by_cases hlt:k<l.length
  ·have hlt' :(k:Int)<(l.length:Int):=by omega
   obtain ⟨g,off,rfl,hg,c1,c2,c3⟩:=HC.out k hlt;have d1:wr.cell? ⟨g,off+k*3,none⟩=some (.bool l[k].neg):=by rw [clU HB.out hg];exact c1
   have d2:wr.cell? ⟨g,off+k*3+1,none⟩=some (.string l[k].n):=by rw [clU HB.out hg];exact c2
   have d3:wr.cell? ⟨g,off+k*3+2,none⟩=some (.string l[k].d):=by rw [clU HB.out hg];exact c3
   have hwi:IntKind.i64.wrap ((k:Int)+1)=((k+1:Nat):Int):=by rw [IntWalk.i64_in _ (by have:=HLA.out;omega)];omega
   have HK:=hD (HF.out k hlt);have HT:Hid ((l.take (k+1)).any Rw.bad=l[k].bad):=hD (by rw [List.take_succ_eq_append_getElem hlt,List.any_append,HA.out];simp);have HM:Hid (l[k].bad=true→AB=true):=hD fun h=>HAB.out ▸ List.any_eq_true.2 ⟨_,List.getElem_mem hlt,h⟩
   obtain ⟨r,hr⟩:∃r,l[k]=r:=⟨_,rfl⟩;rw [hr] at d1 d2 d3 HK HT HM;obtain ⟨b,hb⟩:∃b,r.bad=b:=⟨_,rfl⟩;rw [hb] at HK HT HM;have HLT:=hD hlt;clear c1 c2 c3 hr hb hlt hk;go_wp2_with fail;refine (HK.out _).mono ?_;rintro e w1 ⟨rfl,hb⟩;have HB:=mH HB hb;clear hb d1 d2 d3;cases b
   ·go_wp2_with fail
    go_roundw
    case rel=>exact ⟨k+1,by have:=HLT.out;omega,by first|rfl|go_num,HT,HB⟩
    case measure=>have:=HLT.out;simp [intOf];omega
   ·go_wp2_with fail;go_ret;exact ⟨⟨_,rfl,fun _=>HM.out trivial,fun _=>by omega⟩,HB.out⟩
  ·have hge:¬(k:Int)<(l.length:Int):=by omega
   have HA2:Hid (AB=false):=hD (by have:=HA.out;rw [List.take_of_length_le (by omega)] at this;rw [←HAB.out];exact this);clear hlt hk;go_wp2_with fail;go_ret;exact ⟨⟨_,rfl,fun h=>absurd h (by decide),fun h=>by rw [HA2.out] at h;cases h⟩,HB.out⟩
theorem containsW_any (l:List Rw) (v:Value) (wq:World) (hl:LstR wq v l) (hs:SzL l 1000) :
  Gv 56 #[v,.func (Fn.func 57) #[] #[]] wq (.bool (l.any Rw.bad)):=by
 unfold Gv;have HI:=hD (index_any l v wq hl hs);obtain ⟨p,ca,rfl,-,-⟩:=hl.open;obtain ⟨b,hb⟩:∃b,l.any Rw.bad=b:=⟨_,rfl⟩;rw [hb] at HI ⊢;clear hl hs hb;go_enter Tryz.func56,Tryz.ntmps56;go_wp2_with fail;refine (HI.out).mono ?_;rintro e w1 ⟨⟨z,rfl,hz⟩,hb⟩;have HZ:Hid (decide (0≤z)=b):=hD (by cases b;simpa using hz;simpa using hz);have HB:=hD hb;clear hz hb;have hzz:=HZ.out;go_wp2_with fail;go_ret;exact ⟨rfl,HB.out⟩
end Go.Proofs.YtabfjecegpaoaaaGreatDoor
