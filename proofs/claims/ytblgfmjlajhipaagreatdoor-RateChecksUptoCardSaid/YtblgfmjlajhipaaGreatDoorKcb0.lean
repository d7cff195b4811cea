/- RateChecks: contracts and the law's walk. Each theorem names its conditions. -/
import Derived.Shelf.SortM.Plain
import Derived.Shelf.SortM.SortNone
import Derived.Ground.GgzProg
import Derived.Ground.SlgmProg
import Derived.Maps.Own
import Derived.Maps.OwnOps
import Derived.Maps.OwnSet
import Derived.Maps.Views
import Derived.Shelf.SlIterI.Nil
import Derived.WalkKit
import Derived.Deep.LoopGhost
import Derived.Deep.QuietTactic
import Derived.BigQuiet
import Derived.Test.YtblgfmjlajhipaaGreatDoorProg
import Derived.WalkSpells
import Derived.WalkLawsBesides
import Derived.IntWalk
import Derived.Lib.Hide
import Derived.Laws.BitsAllLaws
import Derived.StillTailTactics
import Derived.Deep.OwnRows
import Derived.Lib.ConvBytes
import Derived.Below
import Derived.RangeFuncNested
import Derived.RangeFuncCalls
import Derived.RangeFuncLeaves
import Derived.Shelf.Abstract
import Derived.Lib.LaidIn
import Derived.RegionTactic
import Derived.KernelRfl
import Derived.OrdersIn
import Derived.Shelf.Strings.Trim
import Derived.Shelf.Small.Utf8
import Derived.Shelf.Small.Bits
import Derived.Shelf.Small.Strs
import Derived.Shelf.Strconv.Itoa0
import Derived.Shelf.Strings.Search1
import Derived.Shelf.Strings.Runes
import Derived.Shelf.Strings.AsciiSet
import Derived.Shelf.Unicode.DecodeSlow
import Derived.Shelf.Unicode.DecodeAny
import Derived.Deep.Slices
import Derived.Deep.Strs
import Derived.ChangeArms
import Derived.Test.YtblgfmjlajhipaaGreatDoorCards
import Derived.Test.YtblgfmjlajhipaaGreatDoorTie
import Derived.ProofKit
import Derived.OpenShut
import Derived.LaidMore
import Derived.Deep.DeepHandedRow
import Derived.Deep.DeepWitnessRowRef
import Derived.Stop.LaidErr
import Derived.Test.YtblgfmjlajhipaaGreatDoorZd2
import Derived.Test.YtblgfmjlajhipaaGreatDoorKca9
import Derived.Test.YtblgfmjlajhipaaGreatDoorZb4
import Derived.Test.YtblgfmjlajhipaaGreatDoorKca1
import Derived.Test.YtblgfmjlajhipaaGreatDoorZb7
import Derived.Test.YtblgfmjlajhipaaGreatDoorZb5
import Derived.Test.YtblgfmjlajhipaaGreatDoorZa6
import Derived.Test.YtblgfmjlajhipaaGreatDoorKca2
import Derived.Test.YtblgfmjlajhipaaGreatDoorZa7
import Derived.Test.YtblgfmjlajhipaaGreatDoorZa5
import Derived.Test.YtblgfmjlajhipaaGreatDoorZa4
import Derived.Test.YtblgfmjlajhipaaGreatDoorZa3
import Derived.Test.YtblgfmjlajhipaaGreatDoorZa0
import Derived.Test.YtblgfmjlajhipaaGreatDoorZa1
import Derived.Test.YtblgfmjlajhipaaGreatDoorZa2
import Derived.Test.YtblgfmjlajhipaaGreatDoorZb6
import Derived.Test.YtblgfmjlajhipaaGreatDoorZd4
import Derived.Test.YtblgfmjlajhipaaGreatDoorZd3
set_option maxHeartbeats 16000000
set_option linter.unusedVariables false
namespace Go.Proofs.YtblgfmjlajhipaaGreatDoor
open Go.RowKit Go.Shelf
open Dgt
def LstP (W:World) (v:Value) (l:List (Int × Int)):Prop:=LstC 2 W v (l.map fun p=>[.int .i64 p.1,.int .i64 p.2])
theorem LstP.up {A W:World} {v:Value} {l:List (Int × Int)} (h:LstP A v l) (hb:Below A.heap.size A W):LstP W v l:=LstC.up h hb
theorem LstP.open {A:World} {v:Value} {l:List (Int × Int)} (h:LstP A v l):∃p cap,v=.slice p l.length cap∧l.length≤cap∧l.length≤1000∧∀i (h:i<l.length),∃g off,p=some ⟨g,off,none⟩∧∀W,Below A.heap.size A W→W.cell? ⟨g,off+i*2,none⟩=some (.int .i64 l[i].1)∧W.cell? ⟨g,off+i*2+1,none⟩=some (.int .i64 l[i].2):=by
 obtain ⟨p,cap,h1,h2,h3,h4⟩:=h;rw [List.length_map] at h1 h2 h3;refine ⟨p,cap,h1,h2,h3,fun i hi=> ?_⟩;obtain ⟨g,off,k1,k2,k3⟩:=h4 i (by rwa [List.length_map]);refine ⟨g,off,k1,fun W hb=> ?_⟩;rw [List.getElem_map] at k3;have key:∀j u,([.int .i64 l[i].1,.int .i64 l[i].2]:List Value)[j]? =some u→W.cell? ⟨g,off+i*2+j,none⟩=some u:=fun j u hu=>by rw [clU hb k2];exact k3 j u hu
 exact ⟨key 0 _ rfl,key 1 _ rfl⟩
end Go.Proofs.YtblgfmjlajhipaaGreatDoor
namespace Go.Proofs.YtblgfmjlajhipaaGreatDoor
open Go.ChangeShapes Go.WideShapes Go.ChangeAt Go.RowKit Go.Deep Go.Shelf
section
variable {H:Type} {enc:TypeId × Value→H} {W:World}
theorem bulk_part {d:DataW H} {l:List (DataW H)} (h:d ∈ l):Rows.uptoBulk d≤Rows.uptoBulkAll l:=by
 induction l with
 | nil=>cases h
 | cons x r ih =>
  simp only [Rows.uptoBulkAll];cases List.mem_cons.1 h with
  | inl e=>subst e;omega
  | inr e=>have:=ih e;omega
theorem bulk_str (s:ByteArray):s.size≤Rows.uptoBulk (DataW.lit (H:=H) (.string s.data.toList)):=by
 have e:s.data.toList.length=s.size:=by rw [Array.length_toList];rfl
 simp only [Rows.uptoBulk];omega
theorem take_val {cs:List Value} {i:Nat} {v:Value} (h:(cs.drop i).take 1=[v]):cs[i]? =some v:=by
 have:=congrArg (fun l=>l[0]?) h;simpa using this
theorem three_vals {cs:List Value} {a b c:Value} (hl:cs.length=3) (h0:cs[0]? =some a) (h1:cs[1]? =some b) (h2:cs[2]? =some c):cs=[a,b,c]:=by
 match cs,hl with
 | [x,y,z],_=>simp at h0 h1 h2;subst h0 h1 h2;rfl
set_option maxRecDepth 100000 in
theorem trod_rat {n:Nat} {cs:List Value} {d:DataW H} {q:List MemPlace} (h:DataW.trod enc Tryz.prog W 0 (fun _=>true) true n 29 cs=some (d,q)) :
  ∃r:Rw,cs=[.bool r.neg,.string r.n,.string r.d]∧r.n.size≤Rows.uptoBulk d∧r.d.size≤Rows.uptoBulk d:=by
 obtain ⟨y0,y1,y2,m,hx,hl,k0,k1,k2⟩:=trod_struct3 Tryz.underlying29 h;have c0:Tryz.prog.cellsOf 4=1:=by kernel_rfl
 have c1:Tryz.prog.cellsOf 27=1:=by kernel_rfl
 have c2:Tryz.prog.cellsOf 29=3:=by kernel_rfl
 rw [c2] at hl;simp only [c0,c1] at k0 k1 k2;obtain ⟨b,e0,rfl⟩:=DataW.trod_bool Tryz.underlying4 k0;obtain ⟨s,e1,rfl,-⟩:=DataW.trod_string Tryz.underlying27 k1;obtain ⟨u,e2,rfl,-⟩:=DataW.trod_string Tryz.underlying27 k2;simp only [Prod.mk.injEq] at hx;obtain ⟨rfl,-⟩:=hx;have:=bulk_str (H:=H) s;have:=bulk_str (H:=H) u;refine ⟨⟨b,s,u⟩,three_vals hl (take_val e0) (take_val e1) (take_val e2),?_,?_⟩<;>simp only [Rows.uptoBulk,Rows.uptoBulkAll] at* <;>omega
theorem drop_app {α:Type} {cs A B:List α} {k n:Nat} (hl:cs.length=k+n) (h0:cs.take k=A) (h1:(cs.drop k).take n=B):cs=A++B:=by
 subst h0 h1;rw [List.take_of_length_le (l:=cs.drop k) (by rw [List.length_drop];omega),List.take_append_drop]
set_option maxRecDepth 100000 in
theorem trod_bracket {n:Nat} {cs:List Value} {d:DataW H} {q:List MemPlace} (h:DataW.trod enc Tryz.prog W 0 (fun _=>true) true n 42 cs=some (d,q)) :
  ∃b:Bk,cs=b.cells∧Sz4 b (Rows.uptoBulk d):=by
 obtain ⟨y0,y1,m,hx,hl,k0,k1⟩:=trod_struct2 Tryz.underlying42 h;have c1:Tryz.prog.cellsOf 29=3:=by kernel_rfl
 have c2:Tryz.prog.cellsOf 42=6:=by kernel_rfl
 rw [c2] at hl;simp only [c1,List.drop_zero] at k0 k1;obtain ⟨a,e0,a1,a2⟩:=trod_rat k0;obtain ⟨b,e1,b1,b2⟩:=trod_rat k1;simp only [Prod.mk.injEq] at hx;obtain ⟨rfl,-⟩:=hx;refine ⟨⟨a,b⟩,drop_app (k:=3) (n:=3) hl e0 e1,?_⟩;unfold Sz4;simp only [Rows.uptoBulk,Rows.uptoBulkAll];omega
theorem list_of {β:Type} {α:Type} (g:β→α) (Q:β→Prop) (f:Nat→α):∀k,(∀i,i<k→∃b,f i=g b∧Q b)→∃l:List β,l.map g=(List.range k).map f∧∀b ∈ l,Q b
 | 0,_=>⟨[],rfl,by simp⟩
 | k+1,h=>by
  obtain ⟨l,h1,h2⟩:=list_of g Q f k (fun i hi=>h i (by omega));obtain ⟨b,h3,h4⟩:=h k (by omega);refine ⟨l++[b],by rw [List.range_succ,List.map_append,List.map_append,h1,List.map_singleton,List.map_singleton,h3],fun x hx=> ?_⟩;rcases List.mem_append.1 hx with hx|hx
  ·exact h2 x hx
  ·rw [List.mem_singleton.1 hx];exact h4
theorem row_some {r:List Value} {c:Nat} (h:r.length=c) (h0:0<c):∃v,r[0]? =some v:=⟨r[0]'(by omega),List.getElem?_eq_getElem _⟩
set_option maxRecDepth 100000 in
theorem arg_rows {β:Type} {base:Nat} {t e:TypeId} {c m:Nat} {v:Value} {d:DataW H} {p:List MemPlace} (g:β→List Value) (Q:β→Nat→Prop) (hQ:∀b k k',Q b k→k≤k' →Q b k') (hg:∀b,(g b).length=c) (hc0:0<c)
  (ht:Tryz.prog.underlying t=some (.slice e)) (hc:Tryz.prog.cellsOf e=c)
  (hE:∀n cs d q,DataW.trod enc Tryz.prog W 0 (fun _=>true) true n e cs=some (d,q)→∃b,cs=g b∧Q b (Rows.uptoBulk d))
  (hval:Value.okWide Tryz.prog W .any base t v) (h:DataW.Trod enc Tryz.prog W 0 (fun _=>true) true t v d p) :
  ∃pp n cap,∃l:List β,v=.slice pp n cap∧CutC c m W v n (l.map g)∧∀b ∈ l,Q b (Rows.uptoBulk d):=by
 obtain ⟨a0,len0,cap0,rfl⟩:=okWide_slice ht hval;obtain ⟨fuel,hf⟩:=h;rcases open_slice ht hf with ⟨hx,hd⟩|⟨a,len,cap,mm,n,D,Pl,hx,hb,hl,hm,hmm,hd,hel⟩
 ·simp [Value.cells] at hx;obtain ⟨rfl,rfl,rfl⟩:=hx;exact ⟨_,_,_,[],rfl,⟨none,0,rfl,by omega,by omega,by simp,fun i h=>absurd h (by simp)⟩,by simp⟩
 ·simp [Value.cells] at hx;obtain ⟨rfl,rfl,rfl⟩:=hx;simp only [if_true] at hmm;subst hmm;simp only [Prod.mk.injEq] at hd;obtain ⟨rfl,-⟩:=hd;rw [hc] at hel;have hcc:∀i,i<len0→∃b,W.cells? 0 (a.add (i*c)) c=some (g b)∧Q b (Rows.uptoBulk (.slice ((List.range len0).map D) ((List.range (mm-len0)).map fun j=>D (len0+j)))):=by
   intro i hi;obtain ⟨cs,h1,h2⟩:=hel i (by omega);obtain ⟨b,rfl,hq⟩:=hE _ _ _ _ h2;refine ⟨b,h1,hQ _ _ _ hq ?_⟩;have:=bulk_part (d:=D i) (l:=(List.range len0).map D) (List.mem_map.2 ⟨i,List.mem_range.2 hi,rfl⟩);simp only [Rows.uptoBulk];omega
  obtain ⟨l,h1,h2⟩:=list_of (fun b:β=>some (g b)) (fun b=>Q b (Rows.uptoBulk (.slice ((List.range len0).map D) ((List.range (mm-len0)).map fun j=>D (len0+j))))) (fun i=>W.cells? 0 (a.add (i*c)) c) (min len0 m) (fun i hi=>by
   obtain ⟨b,k1,k2⟩:=hcc i (by omega);exact ⟨b,k1,k2⟩)
  have hll:l.length=min len0 m:=by have:=congrArg List.length h1;simpa using this
  refine ⟨_,_,_,l,rfl,⟨some a,mm,rfl,by omega,by unfold maxLen at hm;omega,by rw [List.length_map];exact hll,fun i hi=> ?_⟩,h2⟩;rw [List.length_map] at hi;have eA:∀i (hi:i<l.length),W.cells? 0 (a.add (i*c)) c=some (g l[i]):=fun i hi=>by
   have:=congrArg (fun z=>z[i]?) h1;simp only [List.getElem?_map,List.getElem?_eq_getElem hi,Option.map_some,List.getElem?_range (by omega:i<min len0 m)] at this;exact (Option.some.inj this).symm
  have e1:=eA i hi;have e0:=eA 0 (by omega);obtain ⟨-,-,hcell0⟩:=World.cells?_some e0;obtain ⟨-,-,hcell⟩:=World.cells?_some e1;obtain ⟨g0,off,spot⟩:=a;have k0:=hcell 0 hc0;have hspot:spot=none:=by
   have k9:=hcell0 0 hc0;obtain ⟨v0,hv0⟩:∃v0,(g (l[0]'(by omega)))[0]? =some v0:=row_some (hg _) hc0;rw [hv0] at k9;have:=World.cell?_spot k9;simpa [Addr.add] using this
  subst hspot;have hadd:∀a b:Nat,(⟨g0,a,none⟩:Addr).add b=⟨g0,a+b,none⟩:=fun a b=>Addr.add_lit ..
  simp only [hadd] at hcell k0;refine ⟨g0,off,rfl,?_,fun j u hu=> ?_⟩
  ·obtain ⟨v0,hv0⟩:∃v0,(g l[i])[0]? =some v0:=row_some (hg _) hc0;rw [hv0] at k0;rcases Nat.lt_or_ge g0 W.heap.size with hlt|hlt
   ·exact hlt
   ·simp [World.cell?,Array.getElem?_eq_none hlt] at k0
  ·rw [List.getElem_map] at hu;have hj:j<c:=by
    rcases Nat.lt_or_ge j c with h|h
    ·exact h
    ·rw [List.getElem?_eq_none (by rw [hg];exact h)] at hu;cases hu
   rw [hcell j hj,hu]
section
variable {base:Nat} {v:Value} {d:DataW H} {p:List MemPlace} {m:Nat}
set_option maxRecDepth 100000 in
theorem arg_sched (hval:Value.okWide Tryz.prog W .any base 26 v) (h:DataW.Trod enc Tryz.prog W 0 (fun _=>true) true 26 v d p) :
  ∃nm um ud pp n cap,∃l:List Bk,v=.agg #[.string nm,.int .i64 um,.int .i64 ud,.slice pp n cap]∧CutC 6 m W (.slice pp n cap) n (l.map Bk.cells)∧SzK l (Rows.uptoBulk d):=by
 have e2:Tryz.prog.cellsOf 26=4:=by kernel_rfl
 have e3:Tryz.prog.cellsOf 23=2:=by kernel_rfl
 have e4:Tryz.prog.cellsOf 9=1:=by kernel_rfl
 have e5:Tryz.prog.cellsOf 3=1:=by kernel_rfl
 have e6:Tryz.prog.cellsOf 24=1:=by kernel_rfl
 unfold Value.okWide at hval;rw [Tryz.underlying26] at hval;obtain ⟨cs,rfl,hs,ts,hts,-,hcc⟩:=hval;have e1:Tryz.prog.cellTypes Tryz.prog.depth 26=some [9,3,3,24]:=by kernel_rfl
 rw [e1] at hts;obtain rfl:=Option.some.inj hts;rw [e2] at hs;obtain ⟨x,y,z,u,rfl⟩:∃x y z u,cs=#[x,y,z,u]:=by
  obtain ⟨l⟩:=cs
  match l,hs with
  | [x,y,z,u],_=>exact ⟨x,y,z,u,rfl⟩
 obtain ⟨u3,h3,k3⟩:=hcc 3 u rfl;obtain rfl:24=u3:=Option.some.inj h3;obtain ⟨fuel,hf⟩:=h;obtain ⟨y0,y1,y2,n,hx,hl,f0,f1,f2⟩:=trod_struct3 Tryz.underlying26 hf;simp only [e3,e4,e6,Value.cells,List.take,List.drop] at f0 f1 f2;obtain ⟨nm,q0,-,-⟩:=DataW.trod_string Tryz.underlying9 f0;obtain ⟨w0,w1,n',-,-,g0,g1⟩:=trod_struct2 Tryz.underlying23 f1;simp only [e5,List.take,List.drop] at g0 g1;obtain ⟨um,q1,-,-⟩:=DataW.trod_int Tryz.underlying3 g0;obtain ⟨ud,q2,-,-⟩:=DataW.trod_int Tryz.underlying3 g1;simp only [List.cons.injEq,and_true] at q0 q1 q2;subst q0 q1 q2;simp only [Prod.mk.injEq] at hx;obtain ⟨rfl,-⟩:=hx;have hv:Value.okWide Tryz.prog W .any base 24 u:=by unfold Value.okWide;rw [Tryz.underlying24];exact k3
 have hT:DataW.Trod enc Tryz.prog W 0 (fun _=>true) true 24 u y2.1 y2.2:=by
  obtain ⟨a0,b0,c0,rfl⟩:=okWide_slice Tryz.underlying24 hv;exact ⟨n,f2⟩
 obtain ⟨pp,k,cap,l,rfl,hC,hz⟩:=arg_rows (c:=6) (m:=m) (d:=y2.1) (p:=y2.2) Bk.cells (fun b k=>Sz4 b k) (fun b k k' h hk=>by unfold Sz4 at *;omega) (fun _=>rfl) (by decide) Tryz.underlying24 (by kernel_rfl) (fun _ _ _ _ h=>trod_bracket h) hv hT;refine ⟨nm,um,ud,pp,k,cap,l,rfl,hC,fun b hb=> ?_⟩;have:=hz b hb;unfold Sz4 at *;simp only [Rows.uptoBulk,Rows.uptoBulkAll];omega
theorem SzD.mono {l:List Dk} {k j:Nat} (h:SzD l k) (hk:k≤j):SzD l j:=fun b hb=>⟨Nat.le_trans (h b hb).1 hk,Nat.le_trans (h b hb).2 hk⟩
theorem SzK.mono {l:List Bk} {k j:Nat} (h:SzK l k) (hk:k≤j):SzK l j:=fun b hb=>by have:=h b hb;unfold Sz4 at *;omega
set_option maxRecDepth 100000 in
theorem arg_rat (hval:Value.okWide Tryz.prog W .any base 29 v) (h:DataW.Trod enc Tryz.prog W 0 (fun _=>true) true 29 v d p) :
  ∃r:Rw,v=.agg #[.bool r.neg,.string r.n,.string r.d]∧r.n.size≤Rows.uptoBulk d∧r.d.size≤Rows.uptoBulk d:=by
 unfold Value.okWide at hval;rw [Tryz.underlying29] at hval;obtain ⟨cs,rfl,-⟩:=hval;obtain ⟨fuel,hf⟩:=h;obtain ⟨r,hr,h1,h2⟩:=trod_rat hf;refine ⟨r,?_,h1,h2⟩;obtain ⟨l⟩:=cs;have e:l=[.bool r.neg,.string r.n,.string r.d]:=hr;rw [e]
end
end
end Go.Proofs.YtblgfmjlajhipaaGreatDoor
namespace Go.Proofs.YtblgfmjlajhipaaGreatDoor
open Go.RowKit Go.Shelf
open Dgt
def Erchecks_any_3_1 (nm:ByteArray) (um:Int) (ud:Int) (p:Option Addr) (cap:Nat) (l:List Bk) (x:Rw) (q7:Rt):Nat→Value
 | 0=>.bool true
 | 1=>.bool true
 | 2=>.agg #[.string nm,.int .i64 um,.int .i64 ud,.slice p l.length cap]
 | 3=>.agg #[.bool x.neg,.string x.n,.string x.d]
 | 4=>.bool true
 | 5=>.bool true
 | 6=>.bool true
 | 7=>.agg #[.string nm,.int .i64 um,.int .i64 ud,.slice p l.length cap]
 | 8=>.agg #[.bool q7.neg,.string (encS q7.num),.string (encS q7.den)]
 | 9=>.bool true
 | 10=>.bool true
 | 11=>.bool true
 | _=>undef
set_option maxRecDepth 100000 in
theorem rchecks_any (nm:ByteArray) (um ud:Int) (p:Option Addr) (n cap:Nat) (l:List Bk) (x:Rw) (hz:SzK l 1100000) (hx:x.n.size≤1100000∧x.d.size≤1100000) (wq:World) (hl:CutC 6 10 wq (.slice p n cap) n (l.map Bk.cells)) :
  Gv 3 #[.agg #[.string nm,.int .i64 um,.int .i64 ud,.slice p n cap],.agg #[.bool x.neg,.string x.n,.string x.d]] wq (.bool true):=by
 unfold Gv;have HL:Hid (LstK wq (.slice p l.length cap) l):=hD (by have h:=hl.cut (by decide);rw [List.length_map] at h;exact h);obtain ⟨h1,h2,h3⟩:n≤cap∧n≤9223372036854775807∧l.length=min n 10:=by
  obtain ⟨p',cap',h1,h2,h3,h4,-⟩:=hl;simp only [Value.slice.injEq] at h1;obtain ⟨-,-,rfl⟩:=h1;rw [List.length_map] at h4;exact ⟨h2,h3,h4⟩
 have HM:Hid (min (n:Int) 10=(l.length:Int)∧(l.length:Int)≤(cap:Int)):=hD (by omega);have a1:=fun w h=>agrees_any nm um ud (.slice p l.length cap) l x hz hx w (HL.out.up h)
 obtain ⟨q7,h7⟩:∃q,ofR 7=q:=⟨_,rfl⟩;have z7:(rawR q7).n.size≤1100000∧(rawR q7).d.size≤1100000:=rawR_sz (by rw [←h7];exact (ofR_sz (n:=7) (by decide) (by decide)).mono (by decide));have a2:=fun w h=>agrees_any nm um ud (.slice p l.length cap) l (rawR q7) hz z7 w (HL.out.up h)
 have a3:=fun w=>rRatOf_any 7 w (by decide) (by decide)
 rw [h7] at a3;have C1:Hid (∀w,Below wq.heap.size wq w→Gv 13 #[.agg #[.string nm,.int .i64 um,.int .i64 ud,.slice p l.length cap],.agg #[.bool x.neg,.string x.n,.string x.d]] w (.bool true)):=hD fun w hp0=>a1 w hp0
 have C2:Hid (∀w,Below wq.heap.size wq w→Gv 13 #[.agg #[.string nm,.int .i64 um,.int .i64 ud,.slice p l.length cap],rtV q7] w (.bool true)):=hD fun w hp0=>a2 w hp0
 have C3:Hid (∀w,Gv 14 #[.int .i64 7] w (.agg #[.bool q7.neg,.string (encS q7.num),.string (encS q7.den)])):=hD a3;have C4:Hid (∀w,Gv 12 #[] w (.bool true)):=hD fun w=>sanity_any w
 clear a1 a2 a3 hl hz hx h1 h2 h3 h7 z7;have HB:=hD (Below.refl wq.heap.size wq);obtain ⟨n0,hn0⟩:∃n,n=wq.heap.size:=⟨_,rfl⟩;rw [←hn0];have HN0:=hD hn0;clear hn0;go_enter Tryz.func3,Tryz.ntmps3;obtain ⟨W1,bk2,hW1,hbk2,HX2_1,HB,HG2_1,hup⟩:=boxn HB HN0 (.cells #[.string nm,.int .i64 um,.int .i64 ud,.slice p n cap] 26);clear hup;obtain ⟨W2,bk3,hW2,hbk3,HX3_2,HB,HG3_2,hup⟩:=boxn HB HN0 (.cells #[.bool x.neg,.string x.n,.string x.d] 29);have HL3_2:=(hup _ _ HX2_1).2;have HX2_1:=(hup _ _ HX2_1).1;clear hup;go_wp2_with fail;clear hW1 hbk2 hW2 hbk3;refine (C4.out _).mono ?_;rintro e w3 ⟨rfl,hb⟩;have HX2_1:=uH hb HX2_1;have HX3_2:=uH hb HX3_2;have HB:=mH HB hb;clear hb;obtain ⟨hm1,hm2⟩:=HM.out;have k3:w3.cell? ⟨bk2,3,none⟩=some (.slice p n cap):=by rw [Lib.cell_of_heap HX2_1.out];rfl
 have k4:w3.cell? ⟨bk2,3,none⟩=some (.slice p n cap):=by rw [Lib.cell_of_heap HX2_1.out];rfl
 have f5:w3.frozen? ⟨bk2,3,none⟩=false:=frz0 HX2_1.out 3;have k6:w3.cell? ⟨bk2,3,none⟩=some (.slice p n cap):=by rw [Lib.cell_of_heap HX2_1.out];rfl
 have hB:=(HB.out.setCell (p:=⟨bk2,3,none⟩) (by rw [←HN0.out];exact HG2_1.out) (.slice p l.length cap));have hN:(w3.setCell ⟨bk2,3,none⟩ (.slice p l.length cap)).heap[bk2]? =some (.cells #[.string nm,.int .i64 um,.int .i64 ud,.slice p l.length cap] 26 (0,0)):=by simp [World.setCell,Array.getElem?_modify,HX2_1.out]
 have hx3_2:(w3.setCell ⟨bk2,3,none⟩ (.slice p l.length cap)).heap[bk3]? =_:=(row_else HX3_2.out (ne1 HL3_2) _);have HX3_2:=hD hx3_2;clear hx3_2;obtain ⟨W4,hW4⟩:∃W,(w3.setCell ⟨bk2,3,none⟩ (.slice p l.length cap))=W:=⟨_,rfl⟩;rw [hW4] at hN hB HX3_2;have HX2_1:=hD hN;have HB:=hD hB;clear hN hB;go_wp2_with fail;clear hm1 hm2 k3 k4 f5 k6 hW4;refine wpVl (w:=W4) (by kernel_rfl) (fun ix v _=>v=Erchecks_any_3_1 nm um ud p cap l x q7 ix) (fun t=>(decide (4≤t)&&decide (t<5))||(decide (15≤t)&&decide (t<26))) (by kernel_rfl) (by kernel_rfl) (by kernel_rfl) (fun _ _ _ _ _ h=>h) ?_ ?_
 ·intro i hi ov_ listed av_ w hR K hK;have ho:=hR.at_;have hi:i<12:=hi;have hii:i=0∨i=1∨i=2∨i=3∨i=4∨i=5∨i=6∨i=7∨i=8∨i=9∨i=10∨i=11:=by omega
  rcases hii with rfl|rfl|rfl|rfl|rfl|rfl|rfl|rfl|rfl|rfl|rfl|rfl<;>(simp at ho;subst ho)
  ·have b5:av_.tmps.getD 5 undef=.bool true:=hR.b 5;refine pSq ?_;go_simp;exact hK _ _ rfl rB
  ·have e0:av_.tmps.getD 15 undef=.bool true:=hR.d 0;refine pSq ?_;go_simp;exact hK _ _ rfl rB
  ·have e1:av_.tmps.getD 16 undef=.bool true:=hR.g 1;have b2:av_.tmps.getD 2 undef=.pointer (some ⟨bk2,0,none⟩):=hR.b 2;have cx0:w.cell? ⟨bk2,0,none⟩=some (.string nm):=by rw [Lib.cell_of_heap (hpU hR.below HX2_1.out)];rfl
   have cx1:w.cell? ⟨bk2,1,none⟩=some (.int .i64 um):=by rw [Lib.cell_of_heap (hpU hR.below HX2_1.out)];rfl
   have cx2:w.cell? ⟨bk2,2,none⟩=some (.int .i64 ud):=by rw [Lib.cell_of_heap (hpU hR.below HX2_1.out)];rfl
   have cx3:w.cell? ⟨bk2,3,none⟩=some (.slice p l.length cap):=by rw [Lib.cell_of_heap (hpU hR.below HX2_1.out)];rfl
   refine gSq (b:=true) e1 ?_;go_simp;exact hK _ _ rfl rB
  ·have e1:av_.tmps.getD 16 undef=.bool true:=hR.g 1;have b3:av_.tmps.getD 3 undef=.pointer (some ⟨bk3,0,none⟩):=hR.b 3;obtain ⟨cx0,cx1,cx2⟩:=c3 (uH hR.below HX3_2);refine gSq (b:=true) e1 ?_;go_simp;exact hK _ _ rfl rB
  ·have e2:av_.tmps.getD 17 undef=.agg #[.string nm,.int .i64 um,.int .i64 ud,.slice p l.length cap]:=hR.d 2;have e3:av_.tmps.getD 18 undef=.agg #[.bool x.neg,.string x.n,.string x.d]:=hR.d 3;have e1:av_.tmps.getD 16 undef=.bool true:=hR.g 1;refine gSq (b:=true) e1 ?_;go_simp;refine (C1.out w (HB.out.trans (hR.below.mono HB.out.size))).mono ?_;rintro e w' ⟨rfl,hb⟩;exact hK _ _ (rfl) hb
  ·have e1:av_.tmps.getD 16 undef=.bool true:=hR.d 1;have e4:av_.tmps.getD 19 undef=.bool true:=hR.d 4;refine pSq ?_;go_simp;exact hK _ _ rfl rB
  ·have e5:av_.tmps.getD 20 undef=.bool true:=hR.d 5;refine pSq ?_;go_simp;exact hK _ _ rfl rB
  ·have e6:av_.tmps.getD 21 undef=.bool true:=hR.g 6;have b2:av_.tmps.getD 2 undef=.pointer (some ⟨bk2,0,none⟩):=hR.b 2;have cx0:w.cell? ⟨bk2,0,none⟩=some (.string nm):=by rw [Lib.cell_of_heap (hpU hR.below HX2_1.out)];rfl
   have cx1:w.cell? ⟨bk2,1,none⟩=some (.int .i64 um):=by rw [Lib.cell_of_heap (hpU hR.below HX2_1.out)];rfl
   have cx2:w.cell? ⟨bk2,2,none⟩=some (.int .i64 ud):=by rw [Lib.cell_of_heap (hpU hR.below HX2_1.out)];rfl
   have cx3:w.cell? ⟨bk2,3,none⟩=some (.slice p l.length cap):=by rw [Lib.cell_of_heap (hpU hR.below HX2_1.out)];rfl
   refine gSq (b:=true) e6 ?_;go_simp;exact hK _ _ rfl rB
  ·have e6:av_.tmps.getD 21 undef=.bool true:=hR.g 6;refine gSq (b:=true) e6 ?_;go_simp;refine (C3.out w).mono ?_;rintro e w' ⟨rfl,hb⟩;exact hK _ _ (rfl) hb
  ·have e7:av_.tmps.getD 22 undef=.agg #[.string nm,.int .i64 um,.int .i64 ud,.slice p l.length cap]:=hR.d 7;have e8:av_.tmps.getD 23 undef=.agg #[.bool q7.neg,.string (encS q7.num),.string (encS q7.den)]:=hR.d 8;have e6:av_.tmps.getD 21 undef=.bool true:=hR.g 6;refine gSq (b:=true) e6 ?_;go_simp;refine (C2.out w (HB.out.trans (hR.below.mono HB.out.size))).mono ?_;rintro e w' ⟨rfl,hb⟩;exact hK _ _ (rfl) hb
  ·have e6:av_.tmps.getD 21 undef=.bool true:=hR.d 6;have e9:av_.tmps.getD 24 undef=.bool true:=hR.d 9;refine pSq ?_;go_simp;exact hK _ _ rfl rB
  ·have e10:av_.tmps.getD 25 undef=.bool true:=hR.d 10;refine pSq ?_;go_simp;exact hK _ _ rfl rB
 ·intro sv_ w hS hb;have e11:sv_ 4=.bool true:=hS 11 (by decide);simp only [over,ovL,Nat.reduceAdd,Nat.reduceLeDiff,Nat.reduceLT];have HB:=mH HB hb;have HX2_1:=uH hb HX2_1;have HX3_2:=uH hb HX3_2;obtain ⟨w5,hw⟩:∃w8,w8=w:=⟨_,rfl⟩;subst hw;rw [e11];clear hS hb e11;go_wp2_with fail;go_ret;exact ⟨rfl,by rw [HN0.out];exact HB.out⟩
end Go.Proofs.YtblgfmjlajhipaaGreatDoor
namespace Go.Proofs.YtblgfmjlajhipaaGreatDoor.rateChecks
open Go.ChangeShapes Go.WideShapes Go.ChangeAt Go.RowKit Go
set_option maxRecDepth 100000 in
theorem contract (H:Type) (enc:TypeId × Value→H) (W:World) (base:Nat) (args:Array Value) (ds gs:List (DataW H)) (before:List MemPlace)
  (hval:∀(j:Nat) t v,Tryz.f3.params[j]? =some t→args[j]? =some v→Value.okWide Tryz.prog W .any base t v)
  (hW:DataW.Whole enc Tryz.prog Tryz.f3.params.toList Rows.rateChecksSpec.vars false W args.toList ds gs before) (hk:Rows.uptoSmall H (ds++gs)=true) :
  Calls Tryz.prog 3 args W fun e W' =>∃v,e=.returned v∧Rows.rateChecksSpec.post enc Tryz.prog Tryz.f3 false true false false W args v W' :=by
 have hW' :=hW;obtain ⟨p,q,hA0,hV,rfl,hfz,hnd⟩:=hW;have hA:DataW.TrodAll enc Tryz.prog W 0 (fun _=>true) true Tryz.f3.params.toList args.toList ds p:=hA0;rw [Tryz.params3] at hA hval;obtain ⟨v0,vs0,d0,ds0,p0,q0,hargs,rfl,rfl,h0,r0⟩:=trodAll_cons hA;obtain ⟨v1,vs1,d1,ds1,p1,q1,rfl,rfl,rfl,h1,r1⟩:=trodAll_cons r0;obtain ⟨rfl,rfl,rfl⟩:=trodAll_nil r1;obtain rfl:args=#[v0,v1]:=by cases args;simp_all
 obtain ⟨rfl,rfl⟩:=trodVars_none hV;have lt0:∀x ∈ p0,x.block<W.heap.size:=fun x hx=>hW'.lt x (by simp [hx])
 obtain ⟨nm0,um0,ud0,pp0,n0,cap0,l0,rfl,hC0,hz0⟩:=arg_sched (m:=10) (hval 0 26 v0 rfl rfl) h0;have lt1:∀x ∈ p1,x.block<W.heap.size:=fun x hx=>hW'.lt x (by simp [hx])
 obtain ⟨x1,rfl,hx1,hy1⟩:=arg_rat (hval 1 29 v1 rfl rfl) h1;clear hA0;have hk2:=of_decide_eq_true hk;simp only [List.append_nil,Rows.uptoBulkAll] at hk2;simp only [List.append_nil] at hW';refine (rchecks_any nm0 um0 ud0 pp0 n0 cap0 l0 x1 (hz0.mono (by omega)) ⟨by omega,by omega⟩ W hC0).mono fun e W' ⟨he,hb⟩=> ?_
 subst he;exact ⟨_,rfl,post_of_below (pv:=[]) hW' (fun _ _ _=>(trodAll_cons_mk (shut_bool Tryz.underlying4 _) trodAll_mk0)) (fun sp hsp=>(trodAll_cons_mk (WideElems.Trod_stays (by kernel_rfl) (by kernel_rfl) (of_decide_eq_true (by kernel_rfl)) h0 (fun x hx=>hb.same (lt0 x hx)) (fun x hx=>hsp x (by simp [hx]))) (trodAll_cons_mk (WideElems.Trod_stays (by kernel_rfl) (by kernel_rfl) (of_decide_eq_true (by kernel_rfl)) h1 (fun x hx=>hb.same (lt1 x hx)) (fun x hx=>hsp x (by simp [hx]))) trodAll_mk0))) (fun _ _=>rfl) (by simp)
  hb (ok_one (by kernel_rfl) rfl (okWide_bool_mk Tryz.underlying4 _))⟩
theorem reads (os:Os) {H:Type} (enc:TypeId × Value→H):∃places,DataW.whole enc Tryz.prog ((laidWorld os).forCall (fun _ _=>0) ⟨#[],#[.agg #[.string ⟨#[]⟩,.int .i64 0,.int .i64 0,.slice none 0 0],.agg #[.bool false,.string ⟨#[]⟩,.string ⟨#[]⟩]],[]⟩).memory Tryz.f3.params.toList Rows.rateChecksSpec.vars false (#[Value.agg #[.string ⟨#[]⟩,.int .i64 0,.int .i64 0,.slice none 0 0],Value.agg #[.bool false,.string ⟨#[]⟩,.string ⟨#[]⟩]]:Array Value).toList 8=some ([.agg [.lit (.string []),.agg [.lit (.int .i64 0),.lit (.int .i64 0)],.nil],.agg [.lit (.bool false),.lit (.string []),.lit (.string [])]],[],places) :=
 ⟨[],by kernel_rfl⟩
set_option maxRecDepth 100000 in
theorem lifted (os:Os) (started:os.Started) (H:Type) (enc:TypeId × Value→H) (F:Stop.Interp) :
  ReturnsInHanded {} Tryz.checked os 3 .any ((Rows.OpenSpec.upto Rows.rateChecksSpec).preRow enc Tryz.prog Tryz.f3 Rows.rateChecksUptoRow.domain false Rows.rateChecksUptoRow.laid) (((Rows.OpenSpec.upto Rows.rateChecksSpec).at F).post enc Tryz.prog Tryz.f3 false true false false):=by
 obtain ⟨places,hx⟩:=reads os enc;refine returnsInHanded_of_row (C:=Tryz.checked) (s:=(Rows.OpenSpec.upto Rows.rateChecksSpec)) own started (by kernel_rfl) Tryz.func3
  (witness_row_atRef (enc:=enc) (C:=Tryz.checked) false (laidWorld os) #[.agg #[.string ⟨#[]⟩,.int .i64 0,.int .i64 0,.slice none 0 0],.agg #[.bool false,.string ⟨#[]⟩,.string ⟨#[]⟩]] rfl (by kernel_rfl) (by kernel_rfl) (by kernel_rfl)
   (OpenSpec.preRow_of_cond 8 hx (by kernel_rfl) (fun k hk=>by cases hk;kernel_rfl) (by kernel_rfl) (laid_met os _))) ?_
 intro W base args ds gs before hval hW _ hcond _ hL hsh _;exact contract H enc W base args ds gs before hval hW (hcond _ rfl)
theorem said:Rows.RateChecksUptoSaid :=
 OpenClaim.holds_of_cond 3 Tryz.f3 rfl rfl rfl rfl rfl rfl rfl ⟨rfl,rfl,rfl,rfl,rfl⟩ rfl rfl rfl rfl rfl (by kernel_rfl) Tryz.func3 (by kernel_rfl)
  (of_decide_eq_true (by kernel_rfl)) (by unfold Func.isWrapper;first|(rw [if_pos (by decide+kernel)];kernel_rfl)|(rw [if_neg (by decide+kernel)];exact ⟨rfl,rfl⟩))
  (fun os started H enc _ F=>by rw [OpenClaim.pre_eq_preRow];exact lifted os started H enc F)
theorem plain (f:FuncId) (fn:Func) (hf:Tryz.pinned.checked.prog.funcNamed "tithing/tithinglaw06.RateChecks" =some f) (hfn:Tryz.pinned.checked.prog.funcs[f]? =some fn) :
  false=Tryz.pinned.checked.prog.looks []∧∀(j:Nat) t,fn.params[j]? =some t→Tryz.pinned.checked.prog.wantsStandIn t=false:=by
 obtain rfl:f=3:=Option.some.inj ((show Tryz.prog.funcNamed "tithing/tithinglaw06.RateChecks" =some 3 by kernel_rfl).symm.trans hf) |>.symm
 obtain rfl:fn=Tryz.f3:=(Option.some.inj (Tryz.func3.symm.trans hfn)).symm;refine ⟨by kernel_rfl,fun j t ht=> ?_⟩;rw [Tryz.params3] at ht;have hm:t ∈ [26,29]:=by simpa using Array.mem_of_getElem? ht
 have hall:([26,29].all fun u=> !Tryz.prog.wantsStandIn u)=true:=by kernel_rfl
 exact (show Tryz.prog.wantsStandIn t=false by simpa using List.all_eq_true.1 hall t hm)
theorem proved:Rows.RateChecksUptoCardSaid :=
 Claim7.holds_tied_plain_at .later [] _ _ _ _ said (fun _ h=>by cases h) (by kernel_rfl) (fun _ h=>by cases h) rateChecksUpto_row_tie rfl ⟨rfl,rfl⟩ (by kernel_rfl) rfl plain (by kernel_rfl)
#print axioms proved
end Go.Proofs.YtblgfmjlajhipaaGreatDoor.rateChecks
