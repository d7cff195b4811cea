/- Contracts that the proofs of this seat share. Each theorem names its conditions. -/

import Derived.Test.YtblgfmjlajhipaaGreatDoorZb5
import Derived.Test.YtblgfmjlajhipaaGreatDoorZb4
set_option maxHeartbeats 16000000
set_option linter.unusedVariables false
namespace Go.Proofs.YtblgfmjlajhipaaGreatDoor
open Go.RowKit Go.Shelf
open Dgt
def Bk.cells (b:Bk):List Value:=[.bool b.fr.neg,.string b.fr.n,.string b.fr.d,.bool b.rt.neg,.string b.rt.n,.string b.rt.d]
def Dk.cells (d:Dk):List Value:=[.int .i64 d.day,.bool d.rt.neg,.string d.rt.n,.string d.rt.d]
def LstK (W:World) (v:Value) (l:List Bk):Prop:=LstC 6 W v (l.map Bk.cells)
def LstD (W:World) (v:Value) (l:List Dk):Prop:=LstC 4 W v (l.map Dk.cells)
theorem LstK.up {A W:World} {v:Value} {l:List Bk} (h:LstK A v l) (hb:Below A.heap.size A W):LstK W v l:=LstC.up h hb
theorem LstD.up {A W:World} {v:Value} {l:List Dk} (h:LstD A v l) (hb:Below A.heap.size A W):LstD W v l:=LstC.up h hb
def Sz4 (b:Bk) (k:Nat):Prop:=(b.fr.n.size≤k∧b.fr.d.size≤k)∧b.rt.n.size≤k∧b.rt.d.size≤k
def SzK (l:List Bk) (k:Nat):Prop:=∀b ∈ l,Sz4 b k
def SzD (l:List Dk) (k:Nat):Prop:=∀d ∈ l,d.rt.n.size≤k∧d.rt.d.size≤k
def AtK (A:World) (g o:Nat) (b:Bk):Prop:=∀W,Below A.heap.size A W→W.cell? ⟨g,o,none⟩=some (.bool b.fr.neg)∧W.cell? ⟨g,o+1,none⟩=some (.string b.fr.n)∧W.cell? ⟨g,o+2,none⟩=some (.string b.fr.d) ∧
 W.cell? ⟨g,o+3,none⟩=some (.bool b.rt.neg)∧W.cell? ⟨g,o+4,none⟩=some (.string b.rt.n)∧W.cell? ⟨g,o+5,none⟩=some (.string b.rt.d)
def AtD (A:World) (g o:Nat) (d:Dk):Prop:=∀W,Below A.heap.size A W→W.cell? ⟨g,o,none⟩=some (.int .i64 d.day)∧W.cell? ⟨g,o+1,none⟩=some (.bool d.rt.neg)∧W.cell? ⟨g,o+2,none⟩=some (.string d.rt.n)∧W.cell? ⟨g,o+3,none⟩=some (.string d.rt.d)
theorem LstK.open {A:World} {v:Value} {l:List Bk} (h:LstK A v l):∃p cap,v=.slice p l.length cap∧l.length≤cap∧l.length≤1000∧∀i (h:i<l.length),∃g off,p=some ⟨g,off,none⟩∧AtK A g (off+i*6) l[i]:=by
 obtain ⟨p,cap,h1,h2,h3,h4⟩:=h;rw [List.length_map] at h1 h2 h3;refine ⟨p,cap,h1,h2,h3,fun i hi=> ?_⟩;obtain ⟨g,off,k1,k2,k3⟩:=h4 i (by rwa [List.length_map]);refine ⟨g,off,k1,fun W hb=> ?_⟩;rw [List.getElem_map] at k3;have key:∀j u,l[i].cells[j]? =some u→W.cell? ⟨g,off+i*6+j,none⟩=some u:=fun j u hu=>by rw [clU hb k2];exact k3 j u hu
 exact ⟨key 0 _ rfl,key 1 _ rfl,key 2 _ rfl,key 3 _ rfl,key 4 _ rfl,key 5 _ rfl⟩
theorem LstD.open {A:World} {v:Value} {l:List Dk} (h:LstD A v l):∃p cap,v=.slice p l.length cap∧l.length≤cap∧l.length≤1000∧∀i (h:i<l.length),∃g off,p=some ⟨g,off,none⟩∧AtD A g (off+i*4) l[i]:=by
 obtain ⟨p,cap,h1,h2,h3,h4⟩:=h;rw [List.length_map] at h1 h2 h3;refine ⟨p,cap,h1,h2,h3,fun i hi=> ?_⟩;obtain ⟨g,off,k1,k2,k3⟩:=h4 i (by rwa [List.length_map]);refine ⟨g,off,k1,fun W hb=> ?_⟩;rw [List.getElem_map] at k3;have key:∀j u,l[i].cells[j]? =some u→W.cell? ⟨g,off+i*4+j,none⟩=some u:=fun j u hu=>by rw [clU hb k2];exact k3 j u hu
 exact ⟨key 0 _ rfl,key 1 _ rfl,key 2 _ rfl,key 3 _ rfl⟩
theorem AtK.up {A B:World} {g o:Nat} {b:Bk} (h:AtK A g o b) (hb:Below A.heap.size A B):AtK B g o b:=fun W hw=>h W (hb.trans (hw.mono hb.size))
theorem AtD.up {A B:World} {g o:Nat} {d:Dk} (h:AtD A g o d) (hb:Below A.heap.size A B):AtD B g o d:=fun W hw=>h W (hb.trans (hw.mono hb.size))
def cells6 (l:List Bk):List Value:=(l.map Bk.cells).flatten
def cells4 (l:List Dk):List Value:=(l.map Dk.cells).flatten
theorem cells6_snoc (l:List Bk) (b:Bk):cells6 (l++[b])=cells6 l++b.cells:=by unfold cells6;simp
theorem cells4_snoc (l:List Dk) (b:Dk):cells4 (l++[b])=cells4 l++b.cells:=by unfold cells4;simp
theorem own_lstK {W:World} {base:Nat} {e:TypeId} {v:Value} {l:List Bk} (h:W.ownsRow base e 6 v l.length (cells6 l)) (hl:l.length≤1000):LstK W v l :=
 own_lstC (n:=6) (base:=base) (e:=e) (by rw [List.length_map];exact h) (fun r hr=>by obtain ⟨b,-,rfl⟩:=List.mem_map.1 hr;rfl) (by rwa [List.length_map])
theorem own_lstD {W:World} {base:Nat} {e:TypeId} {v:Value} {l:List Dk} (h:W.ownsRow base e 4 v l.length (cells4 l)) (hl:l.length≤1000):LstD W v l :=
 own_lstC (n:=4) (base:=base) (e:=e) (by rw [List.length_map];exact h) (fun r hr=>by obtain ⟨b,-,rfl⟩:=List.mem_map.1 hr;rfl) (by rwa [List.length_map])
theorem infoBk:(Tryz.prog.info? 42).map (fun i=>(i.zero,i.size,i.bytes))=some (some (.agg #[.bool false,.string ⟨#[]⟩,.string ⟨#[]⟩,.bool false,.string ⟨#[]⟩,.string ⟨#[]⟩]),6,80):=by kernel_rfl
theorem infoDk:(Tryz.prog.info? 64).map (fun i=>(i.zero,i.size,i.bytes))=some (some (.agg #[.int .i64 0,.bool false,.string ⟨#[]⟩,.string ⟨#[]⟩]),4,48):=by kernel_rfl
theorem guard_skip_u {P:Program} {ops:Array Oper} {Q:Exit→Act→World→Prop} {i:Nat} {o:Oper} {K:Act→World→Prop} {a:Act} {w:World} {g d:Nat} {b:Bool} (ho:ops[i]? =some o) (hg:o.guard=some (g,b)) (hd:dstOf ops g=some d)
  (ht:a.tmps.getD d undef=undef) (h:K (a.put o.dst undef) w):wpOp P ops Q i K a w:=by
 unfold wpOp;rw [ho];have hw:¬Region.wanted o (yielded ops a.tmps)=true:=by
  have hd' :((ops[g]?).bind (·.dst))=some d:=hd;have hy:yielded ops a.tmps g=none:=by
   unfold yielded;rw [hd'];rw [Array.getD_eq_getD_getElem?] at ht;cases e:a.tmps[d]? with
   | none=>simp [e]
   | some v =>
    rw [e] at ht;simp at ht;subst ht;simp [e,undef]
  simp [Region.wanted,hg,hy]
 show if Region.wanted o (yielded ops a.tmps)=true then _ else _
 rw [if_neg hw];exact h
set_option maxRecDepth 100000 in
theorem MoFits_any (r:Rw) (zs:r.n.size≤10000000) (zd:r.d.size≤10000000) (wq:World) :
  Gv 69 #[.agg #[.bool r.neg,.string r.n,.string r.d]] wq (.bool (fitsR r)):=by
 unfold Gv;obtain ⟨R,hR⟩:∃xq,r.right=xq:=⟨_,rfl⟩;have HR:=hD hR;clear hR;obtain ⟨x,hx⟩:∃x,bitsN (numS r.n)=x:=⟨_,rfl⟩;obtain ⟨y,hy⟩:∃x,bitsN (numS r.d)=x:=⟨_,rfl⟩;obtain ⟨P,hP⟩:∃xq,decide ((x:Int)≤400)=xq:=⟨_,rfl⟩;have HP:=hD hP;clear hP;obtain ⟨Q,hQ⟩:∃xq,decide ((y:Int)≤400)=xq:=⟨_,rfl⟩;have HQ:=hD hQ;clear hQ;have HF:Hid (fitsR r=(R&&P&&Q)):=hD (by unfold fitsR;rw [HR.out,hx,hy, ←HP.out, ←HQ.out];congr 1;congr 1;exact decide_eq_decide.2 (by omega);exact decide_eq_decide.2 (by omega));have C1:Hid (∀w,Gv 64 #[.agg #[.bool r.neg,.string r.n,.string r.d]] w (.bool R)):=hD fun w=>by
  have h:=RatRight_any r.neg r.n r.d w zs zd;rw [show rightR r.neg r.n r.d=R from HR.out] at h;exact h
 have C2:Hid (∀w,Gv 106 #[.string r.n] w (.int .i64 (x:Int))):=hD fun w=>by
  have h:=Bits_any r.n w (by omega);rw [hx] at h;exact h
 have C3:Hid (∀w,Gv 106 #[.string r.d] w (.int .i64 (y:Int))):=hD fun w=>by
  have h:=Bits_any r.d w (by omega);rw [hy] at h;exact h
 rw [HF.out];clear HF hx hy HR zs zd;have HB:=hD (Below.refl wq.heap.size wq);obtain ⟨n0,hn0⟩:∃n,n=wq.heap.size:=⟨_,rfl⟩;rw [←hn0];have HN0:=hD hn0;clear hn0;go_enter Tryz.func69,Tryz.ntmps69;obtain ⟨W1,bk1,hW1,hbk1,HX1_1,HB,HG1_1,hup⟩:=boxn HB HN0 (.cells #[.bool r.neg,.string r.n,.string r.d] 29);clear hup;obtain ⟨k2a,k2b,k2c⟩:=c3 HX1_1;go_wp2_with fail;clear hW1 hbk1 k2a k2b k2c;refine (C1.out _).mono ?_;rintro e w2 ⟨rfl,hb⟩;have HX1_1:=uH hb HX1_1;have HB:=mH HB hb;clear hb;cases R
 case false =>
  go_wp2_with fail;go_ret;exact ⟨rfl,by rw [HN0.out];exact HB.out⟩
 case true =>
  have q3:=HP.out;have k4:w2.cell? ⟨bk1,1,none⟩=some (.string r.n):=by rw [Lib.cell_of_heap HX1_1.out];rfl
  go_wp2_with fail;clear q3 k4;refine (C2.out _).mono ?_;rintro e w3 ⟨rfl,hb⟩;have HX1_1:=uH hb HX1_1;have HB:=mH HB hb;clear hb;cases P
  case false =>
   have q5:=HP.out;go_wp2_with fail;clear q5;go_ret;exact ⟨rfl,by rw [HN0.out];exact HB.out⟩
  case true =>
   have q6:=HP.out;have k7:w3.cell? ⟨bk1,2,none⟩=some (.string r.d):=by rw [Lib.cell_of_heap HX1_1.out];rfl
   go_wp2_with fail;clear q6 k7;refine (C3.out _).mono ?_;rintro e w4 ⟨rfl,hb⟩;have HX1_1:=uH hb HX1_1;have HB:=mH HB hb;clear hb;have q8:=HQ.out;go_wp2_with fail;clear q8;go_ret;exact ⟨rfl,by rw [HN0.out];exact HB.out⟩
set_option maxRecDepth 100000 in
theorem misfit_any (b:Bk) (zs:Sz4 b 1100000) (wq:World) :
  Gv 68 #[.agg #[.bool b.fr.neg,.string b.fr.n,.string b.fr.d,.bool b.rt.neg,.string b.rt.n,.string b.rt.d]] wq (.bool (!(fitsR b.fr&&fitsR b.rt))):=by
 unfold Gv;have c1:=fun w=>MoFits_any b.fr (by have:=zs.1;omega) (by have:=zs.1;omega) w;have c2:=fun w=>MoFits_any b.rt (by have:=zs.2;omega) (by have:=zs.2;omega) w
 obtain ⟨P,hP⟩:∃xq,fitsR b.fr=xq:=⟨_,rfl⟩;have HP:=hD hP;clear hP;obtain ⟨Q,hQ⟩:∃xq,fitsR b.rt=xq:=⟨_,rfl⟩;have HQ:=hD hQ;clear hQ;rw [HP.out] at c1 ⊢;rw [HQ.out] at c2 ⊢;have C1:Hid (∀w,Gv 69 #[.agg #[.bool b.fr.neg,.string b.fr.n,.string b.fr.d]] w (.bool P)):=hD c1;have C2:Hid (∀w,Gv 69 #[.agg #[.bool b.rt.neg,.string b.rt.n,.string b.rt.d]] w (.bool Q)):=hD c2;clear c1 c2 zs HP HQ;have HB:=hD (Below.refl wq.heap.size wq);obtain ⟨n0,hn0⟩:∃n,n=wq.heap.size:=⟨_,rfl⟩;rw [←hn0];have HN0:=hD hn0;clear hn0;go_enter Tryz.func68,Tryz.ntmps68;obtain ⟨W1,bk1,hW1,hbk1,HX1_1,HB,HG1_1,hup⟩:=boxn HB HN0 (.cells #[.bool b.fr.neg,.string b.fr.n,.string b.fr.d,.bool b.rt.neg,.string b.rt.n,.string b.rt.d] 42);clear hup;have k2:W1.cell? ⟨bk1,0,none⟩=some (.bool b.fr.neg):=by rw [Lib.cell_of_heap HX1_1.out];rfl
 have k3:W1.cell? ⟨bk1,1,none⟩=some (.string b.fr.n):=by rw [Lib.cell_of_heap HX1_1.out];rfl
 have k4:W1.cell? ⟨bk1,2,none⟩=some (.string b.fr.d):=by rw [Lib.cell_of_heap HX1_1.out];rfl
 go_wp2_with fail;clear hW1 hbk1 k2 k3 k4;refine (C1.out _).mono ?_;rintro e w2 ⟨rfl,hb⟩;have HX1_1:=uH hb HX1_1;have HB:=mH HB hb;clear hb;cases P
 case false =>
  go_wp2_with fail;go_ret;exact ⟨rfl,by rw [HN0.out];exact HB.out⟩
 case true =>
  have k5:w2.cell? ⟨bk1,3,none⟩=some (.bool b.rt.neg):=by rw [Lib.cell_of_heap HX1_1.out];rfl
  have k6:w2.cell? ⟨bk1,4,none⟩=some (.string b.rt.n):=by rw [Lib.cell_of_heap HX1_1.out];rfl
  have k7:w2.cell? ⟨bk1,5,none⟩=some (.string b.rt.d):=by rw [Lib.cell_of_heap HX1_1.out];rfl
  go_wp2_with fail;clear k5 k6 k7;refine (C2.out _).mono ?_;rintro e w3 ⟨rfl,hb⟩;have HX1_1:=uH hb HX1_1;have HB:=mH HB hb;clear hb;go_wp2_with fail;go_ret;exact ⟨rfl,by rw [HN0.out];exact HB.out⟩
set_option maxRecDepth 100000 in
theorem sinks_any (b:Bk) (zs:Sz4 b 1100000) (wq:World) :
  Gv 107 #[.agg #[.bool b.fr.neg,.string b.fr.n,.string b.fr.d,.bool b.rt.neg,.string b.rt.n,.string b.rt.d]] wq (.bool (decide (sgnR b.rt.val<0))):=by
 unfold Gv;have c1:=fun w=>RatSign_r (Rw.isR zs.2) (by decide) w
 obtain ⟨z,hz⟩:∃z,sgnR b.rt.val=z:=⟨_,rfl⟩;rw [hz] at c1 ⊢;clear hz;have C1:Hid (∀w,Gv 65 #[.agg #[.bool b.rt.neg,.string b.rt.n,.string b.rt.d]] w (.int .i64 z)):=hD c1;clear c1 zs;have HB:=hD (Below.refl wq.heap.size wq);obtain ⟨n0,hn0⟩:∃n,n=wq.heap.size:=⟨_,rfl⟩;rw [←hn0];have HN0:=hD hn0;clear hn0;go_enter Tryz.func107,Tryz.ntmps107;obtain ⟨W1,bk1,hW1,hbk1,HX1_1,HB,HG1_1,hup⟩:=boxn HB HN0 (.cells #[.bool b.fr.neg,.string b.fr.n,.string b.fr.d,.bool b.rt.neg,.string b.rt.n,.string b.rt.d] 42);clear hup;have k2:W1.cell? ⟨bk1,3,none⟩=some (.bool b.rt.neg):=by rw [Lib.cell_of_heap HX1_1.out];rfl
 have k3:W1.cell? ⟨bk1,4,none⟩=some (.string b.rt.n):=by rw [Lib.cell_of_heap HX1_1.out];rfl
 have k4:W1.cell? ⟨bk1,5,none⟩=some (.string b.rt.d):=by rw [Lib.cell_of_heap HX1_1.out];rfl
 go_wp2_with fail;clear hW1 hbk1 k2 k3 k4;refine (C1.out _).mono ?_;rintro e w2 ⟨rfl,hb⟩;have HX1_1:=uH hb HX1_1;have HB:=mH HB hb;clear hb;go_wp2_with fail;go_ret;exact ⟨rfl,by rw [HN0.out];exact HB.out⟩
set_option maxRecDepth 1000000 in
theorem search_any (g:Nat) (cb:Array Value) (n:Nat) (p:Nat→Bool) (wq:World) (eg:∀args w,(callFunc g args).run Tryz.prog w=.ok (.enter g args) w) (hsz:n≤1000)
  (hf:∀i:Nat,i<n→∀w,Below wq.heap.size wq w→Calls Tryz.prog g (#[.int .i64 (i:Int)]++cb) w fun e w' =>e=.returned (.bool (p i))∧Below w.heap.size w w')
  (hmono:∀a b,a≤b→b<n→p a=true→p b=true) :
  Gv 71 #[.int .i64 (n:Int),.func (.func g) #[] cb] wq (.int .i64 ((cntB p n:Nat):Int)):=by
 unfold Gv;have HF:=hD hf;have M:=hD hmono;clear hf hmono;obtain ⟨cnt,hcnt⟩:∃c,cntB p n=c:=⟨_,rfl⟩;rw [hcnt];have CN:=hD hcnt;clear hcnt;go_enter Tryz.func71,Tryz.ntmps71;go_wp2_with fail
 go_loopw [5,6] (fun s5 s6 wr=>∃lo hi:Nat,s5=.int .i64 (lo:Int)∧s6=.int .i64 (hi:Int)∧lo≤hi∧hi≤n∧Hid (Below wq.heap.size wq wr)∧Hid ((∀t,t<lo→p t=false)∧(∀t,hi≤t→t<n→p t=true))) (fun s5 s6 _=>(intOf s6).toNat-(intOf s5).toNat)
 case atStart=>exact ⟨0,n,rfl,rfl,Nat.zero_le _,Nat.le_refl _,hD rB,hD ⟨fun t ht=>absurd ht (Nat.not_lt_zero _),fun t h1 h2=>by omega⟩⟩
 case round =>
  obtain ⟨lo,hi,rfl,rfl,hlh,hin,HB,I⟩:=hrel
  by_cases hlt:lo<hi
  ·have hc:=HF.out ((lo+hi)/2) (by omega) wr HB.out;rw [show (((lo+hi)/2:Nat):Int)=((lo:Int)+(hi:Int))/2 by omega] at hc;cases hp:p ((lo+hi)/2)<;>rw [hp] at hc
   ·have HP:=hD hp;clear hp;go_wp2_with (go_at_fn g;refine hc.mono ?_;rintro e w' ⟨rfl,hb⟩)
    go_roundw
    case measure=>simp [intOf];omega
    case rel =>
     have I2:Hid ((∀t,t<(lo+hi)/2+1→p t=false)∧(∀t,hi≤t→t<n→p t=true)):=hD ⟨fun t ht=>(by
      cases h:p t with
      | false=>rfl
      | true=>have:=M.out t ((lo+hi)/2) (by omega) (by omega) h;rw [HP.out] at this;cases this),I.out.2⟩
     exact ⟨(lo+hi)/2+1,hi,by rw [show ((lo:Int)+(hi:Int))/2+1=(((lo+hi)/2+1:Nat):Int) by omega],rfl,by omega,hin,mH HB hb,I2⟩
   ·have HP:=hD hp;clear hp;go_wp2_with (go_at_fn g;refine hc.mono ?_;rintro e w' ⟨rfl,hb⟩)
    go_roundw
    case measure=>simp [intOf];omega
    case rel =>
     have I2:Hid ((∀t,t<lo→p t=false)∧(∀t,(lo+hi)/2≤t→t<n→p t=true)):=hD ⟨I.out.1,fun t ht htn=>M.out ((lo+hi)/2) t ht htn HP.out⟩;exact ⟨lo,(lo+hi)/2,rfl,by rw [show ((lo:Int)+(hi:Int))/2=(((lo+hi)/2:Nat):Int) by omega],by omega,by omega,mH HB hb,I2⟩
  ·obtain rfl:hi=lo:=by omega
   have ecnt:hi=cnt:=by rw [←CN.out];exact cntB_unique hin I.out.1 I.out.2
   subst ecnt;go_wp2_with fail;go_ret;exact ⟨rfl,HB.out⟩
set_option maxRecDepth 100000 in
theorem index_any (gf:Nat) (eg:∀args w,(callFunc gf args).run Tryz.prog w=.ok (.enter gf args) w) (p:Bk→Bool) (l:List Bk) (v:Value) (wq:World) (hl:LstK wq v l)
  (hp:∀b ∈ l,∀w,Gv gf #[.agg #[.bool b.fr.neg,.string b.fr.n,.string b.fr.d,.bool b.rt.neg,.string b.rt.n,.string b.rt.d]] w (.bool (p b))) :
  Calls Tryz.prog 105 #[v,.func (.func gf) #[] #[]] wq fun e w' =>(∃z:Int,e=.returned (.int .i64 z)∧(0≤z↔l.any p=true))∧Below wq.heap.size wq w' :=by
 obtain ⟨ps,ca,rfl,-,hla,hca⟩:=hl.open;have HC:=hD hca;have HP:=hD hp;obtain ⟨AB,hAB⟩:∃b,l.any p=b:=⟨_,rfl⟩;rw [hAB];have HAB:=hD hAB;have HLA:=hD hla;clear hAB hca hl hp hla;go_enter Tryz.func105,Tryz.ntmps105;go_wp2_with fail
 go_loopw [8] (fun i wr=>∃k:Nat,k≤l.length∧i=.int .i64 (k:Int)∧Hid ((l.take k).any p=false)∧Hid (Below wq.heap.size wq wr)) (fun i _=>l.length-(intOf i).toNat)
 case atStart=>exact ⟨0,by omega,rfl,hD rfl,hD rB⟩
 case round =>
  obtain ⟨k,hk,rfl,HA,HB⟩:=hrel
  by_cases hlt:k<l.length
  ·have hlt' :(k:Int)<(l.length:Int):=by omega
   obtain ⟨g,off,rfl,hat⟩:=HC.out k hlt;obtain ⟨d1,d2,d3,d4,d5,d6⟩:=hat wr HB.out;have hwi:IntKind.i64.wrap ((k:Int)+1)=((k+1:Nat):Int):=by rw [IntWalk.i64_in _ (by have:=HLA.out;omega)];omega
   have HT:Hid ((l.take (k+1)).any p=p l[k]):=hD (by rw [List.take_succ_eq_append_getElem hlt,List.any_append,HA.out];simp);have HM:Hid (p l[k]=true→AB=true):=hD fun h=>HAB.out ▸ List.any_eq_true.2 ⟨_,List.getElem_mem hlt,h⟩
   have hk2:=HP.out l[k] (List.getElem_mem hlt) wr;obtain ⟨r,hr⟩:∃r,l[k]=r:=⟨_,rfl⟩;rw [hr] at d1 d2 d3 d4 d5 d6 hk2 HT HM;obtain ⟨b,hb⟩:∃b,p r=b:=⟨_,rfl⟩;rw [hb] at hk2 HT HM;have HLT:=hD hlt;clear hat hr hb hlt hk;go_wp2_with (go_at_fn gf;refine hk2.mono ?_;rintro e w1 ⟨rfl,hb⟩;have HB2:=mH HB hb;clear hb HB;cases b)
   ·go_roundw
    case rel=>exact ⟨k+1,by have:=HLT.out;omega,by first|rfl|go_num,HT,HB2⟩
    case measure=>have:=HLT.out;simp [intOf];omega
   ·go_ret;exact ⟨⟨_,rfl,fun _=>HM.out trivial,fun _=>by omega⟩,HB2.out⟩
  ·have hge:¬(k:Int)<(l.length:Int):=by omega
   have HA2:Hid (AB=false):=hD (by have:=HA.out;rw [List.take_of_length_le (by omega)] at this;rw [←HAB.out];exact this);clear hlt hk;go_wp2_with fail;go_ret;exact ⟨⟨_,rfl,fun h=>absurd h (by decide),fun h=>by rw [HA2.out] at h;cases h⟩,HB.out⟩
theorem contains_any (gf:Nat) (eg:∀args w,(callFunc gf args).run Tryz.prog w=.ok (.enter gf args) w) (p:Bk→Bool) (l:List Bk) (v:Value) (wq:World) (hl:LstK wq v l)
  (hp:∀b ∈ l,∀w,Gv gf #[.agg #[.bool b.fr.neg,.string b.fr.n,.string b.fr.d,.bool b.rt.neg,.string b.rt.n,.string b.rt.d]] w (.bool (p b))) :
  Gv 67 #[v,.func (.func gf) #[] #[]] wq (.bool (l.any p)):=by
 unfold Gv;have HI:=hD (index_any gf eg p l v wq hl hp);obtain ⟨q,ca,rfl,-,-,-⟩:=hl.open;obtain ⟨b,hb⟩:∃b,l.any p=b:=⟨_,rfl⟩;rw [hb] at HI ⊢;clear hl hp hb;go_enter Tryz.func67,Tryz.ntmps67;go_wp2_with fail;refine (HI.out).mono ?_;rintro e w1 ⟨⟨z,rfl,hz⟩,hb⟩;have HZ:Hid (decide (0≤z)=b):=hD (by cases b;simpa using hz;simpa using hz);have HB:=hD hb;clear hz hb;have hzz:=HZ.out;go_wp2_with fail;go_ret;exact ⟨rfl,HB.out⟩
end Go.Proofs.YtblgfmjlajhipaaGreatDoor
