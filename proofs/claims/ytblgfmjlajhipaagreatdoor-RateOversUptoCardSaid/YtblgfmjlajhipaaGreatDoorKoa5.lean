/- RateOvers: contracts and the law's walk. Each theorem names its conditions. -/
import Derived.Deep.Slices
import Derived.Deep.Strs
import Derived.ChangeArms
import Derived.Test.YtblgfmjlajhipaaGreatDoorCards
import Derived.Test.YtblgfmjlajhipaaGreatDoorTie
import Derived.WalkKit
import Derived.ProofKit
import Derived.OpenShut
import Derived.LaidMore
import Derived.Deep.DeepHandedRow
import Derived.Deep.DeepWitnessRowRef
import Derived.Stop.LaidErr
import Derived.Below
import Derived.Deep.LoopGhost
import Derived.Deep.QuietTactic
import Derived.BigQuiet
import Derived.Test.YtblgfmjlajhipaaGreatDoorProg
import Derived.WalkSpells
import Derived.WalkLawsBesides
import Derived.IntWalk
import Derived.Lib.Hide
import Derived.Laws.BitsAllLaws
import Derived.StillTailTactics
import Derived.Deep.OwnRows
import Derived.Lib.ConvBytes
import Derived.RangeFuncNested
import Derived.RangeFuncCalls
import Derived.RangeFuncLeaves
import Derived.Shelf.Abstract
import Derived.Lib.LaidIn
import Derived.RegionTactic
import Derived.KernelRfl
import Derived.OrdersIn
import Derived.Shelf.Strings.Trim
import Derived.Shelf.Small.Utf8
import Derived.Shelf.Small.Bits
import Derived.Shelf.Small.Strs
import Derived.Shelf.Strconv.Itoa0
import Derived.Shelf.Strings.Search1
import Derived.Shelf.Strings.Runes
import Derived.Shelf.Strings.AsciiSet
import Derived.Shelf.Unicode.DecodeSlow
import Derived.Shelf.Unicode.DecodeAny
import Derived.Ground.SlgmProg
import Derived.Shelf.SortM.Plain
import Derived.Shelf.SortM.SortNone
import Derived.Ground.GgzProg
import Derived.Maps.Own
import Derived.Maps.OwnOps
import Derived.Maps.OwnSet
import Derived.Maps.Views
import Derived.Shelf.SlIterI.Nil
import Derived.Test.YtblgfmjlajhipaaGreatDoorZd4
import Derived.Test.YtblgfmjlajhipaaGreatDoorZb5
import Derived.Test.YtblgfmjlajhipaaGreatDoorZb4
import Derived.Test.YtblgfmjlajhipaaGreatDoorKoa0
import Derived.Test.YtblgfmjlajhipaaGreatDoorKoa4
import Derived.Test.YtblgfmjlajhipaaGreatDoorZb9
import Derived.Test.YtblgfmjlajhipaaGreatDoorZb6
import Derived.Test.YtblgfmjlajhipaaGreatDoorZd3
import Derived.Test.YtblgfmjlajhipaaGreatDoorZd2
import Derived.Test.YtblgfmjlajhipaaGreatDoorZd1
import Derived.Test.YtblgfmjlajhipaaGreatDoorKoa3
import Derived.Test.YtblgfmjlajhipaaGreatDoorZa7
import Derived.Test.YtblgfmjlajhipaaGreatDoorZa6
import Derived.Test.YtblgfmjlajhipaaGreatDoorZa5
import Derived.Test.YtblgfmjlajhipaaGreatDoorZa4
import Derived.Test.YtblgfmjlajhipaaGreatDoorZa3
import Derived.Test.YtblgfmjlajhipaaGreatDoorZa0
import Derived.Test.YtblgfmjlajhipaaGreatDoorZa1
import Derived.Test.YtblgfmjlajhipaaGreatDoorZa2
import Derived.Test.YtblgfmjlajhipaaGreatDoorZb7
import Derived.Test.YtblgfmjlajhipaaGreatDoorKoa2
set_option maxHeartbeats 16000000
set_option linter.unusedVariables false
namespace Go.Proofs.YtblgfmjlajhipaaGreatDoor
open Go.ChangeShapes Go.WideShapes Go.ChangeAt Go.RowKit Go.Deep Go.Shelf
section
variable {H:Type} {enc:TypeId × Value→H} {W:World}
theorem bulk_part {d:DataW H} {l:List (DataW H)} (h:d ∈ l):Rows.uptoBulk d≤Rows.uptoBulkAll l:=by
 induction l with
 | nil=>cases h
 | cons x r ih =>
  simp only [Rows.uptoBulkAll];cases List.mem_cons.1 h with
  | inl e=>subst e;omega
  | inr e=>have:=ih e;omega
theorem bulk_str (s:ByteArray):s.size≤Rows.uptoBulk (DataW.lit (H:=H) (.string s.data.toList)):=by
 have e:s.data.toList.length=s.size:=by rw [Array.length_toList];rfl
 simp only [Rows.uptoBulk];omega
theorem take_val {cs:List Value} {i:Nat} {v:Value} (h:(cs.drop i).take 1=[v]):cs[i]? =some v:=by
 have:=congrArg (fun l=>l[0]?) h;simpa using this
theorem three_vals {cs:List Value} {a b c:Value} (hl:cs.length=3) (h0:cs[0]? =some a) (h1:cs[1]? =some b) (h2:cs[2]? =some c):cs=[a,b,c]:=by
 match cs,hl with
 | [x,y,z],_=>simp at h0 h1 h2;subst h0 h1 h2;rfl
theorem two_vals {cs:List Value} {a b:Value} (hl:cs.length=2) (h0:cs[0]? =some a) (h1:cs[1]? =some b):cs=[a,b]:=by
 match cs,hl with
 | [x,y],_=>simp at h0 h1;subst h0 h1;rfl
set_option maxRecDepth 100000 in
theorem trod_rat {n:Nat} {cs:List Value} {d:DataW H} {q:List MemPlace} (h:DataW.trod enc Tryz.prog W 0 (fun _=>true) true n 29 cs=some (d,q)) :
  ∃r:Rw,cs=[.bool r.neg,.string r.n,.string r.d]∧r.n.size≤Rows.uptoBulk d∧r.d.size≤Rows.uptoBulk d:=by
 obtain ⟨y0,y1,y2,m,hx,hl,k0,k1,k2⟩:=trod_struct3 Tryz.underlying29 h;have c0:Tryz.prog.cellsOf 4=1:=by kernel_rfl
 have c1:Tryz.prog.cellsOf 27=1:=by kernel_rfl
 have c2:Tryz.prog.cellsOf 29=3:=by kernel_rfl
 rw [c2] at hl;simp only [c0,c1] at k0 k1 k2;obtain ⟨b,e0,rfl⟩:=DataW.trod_bool Tryz.underlying4 k0;obtain ⟨s,e1,rfl,-⟩:=DataW.trod_string Tryz.underlying27 k1;obtain ⟨u,e2,rfl,-⟩:=DataW.trod_string Tryz.underlying27 k2;simp only [Prod.mk.injEq] at hx;obtain ⟨rfl,-⟩:=hx;have:=bulk_str (H:=H) s;have:=bulk_str (H:=H) u;refine ⟨⟨b,s,u⟩,three_vals hl (take_val e0) (take_val e1) (take_val e2),?_,?_⟩<;>simp only [Rows.uptoBulk,Rows.uptoBulkAll] at* <;>omega
theorem drop_app {α:Type} {cs A B:List α} {k n:Nat} (hl:cs.length=k+n) (h0:cs.take k=A) (h1:(cs.drop k).take n=B):cs=A++B:=by
 subst h0 h1;rw [List.take_of_length_le (l:=cs.drop k) (by rw [List.length_drop];omega),List.take_append_drop]
set_option maxRecDepth 100000 in
theorem trod_dayrate {n:Nat} {cs:List Value} {d:DataW H} {q:List MemPlace} (h:DataW.trod enc Tryz.prog W 0 (fun _=>true) true n 64 cs=some (d,q)) :
  ∃b:Dk,cs=b.cells∧b.rt.n.size≤Rows.uptoBulk d∧b.rt.d.size≤Rows.uptoBulk d:=by
 obtain ⟨y0,y1,m,hx,hl,k0,k1⟩:=trod_struct2 Tryz.underlying64 h;have c0:Tryz.prog.cellsOf 3=1:=by kernel_rfl
 have c1:Tryz.prog.cellsOf 29=3:=by kernel_rfl
 have c2:Tryz.prog.cellsOf 64=4:=by kernel_rfl
 rw [c2] at hl;simp only [c0,c1,List.drop_zero] at k0 k1;obtain ⟨z,e0,rfl,hz⟩:=DataW.trod_int Tryz.underlying3 k0;obtain ⟨b,e1,b1,b2⟩:=trod_rat k1;simp only [Prod.mk.injEq] at hx;obtain ⟨rfl,-⟩:=hx;refine ⟨⟨z,b⟩,drop_app (k:=1) (n:=3) hl e0 e1,?_⟩;simp only [Rows.uptoBulk,Rows.uptoBulkAll];omega
set_option maxRecDepth 100000 in
theorem trod_pair {n:Nat} {cs:List Value} {d:DataW H} {q:List MemPlace} (h:DataW.trod enc Tryz.prog W 0 (fun _=>true) true n 35 cs=some (d,q)) :
  ∃p:Int × Int,cs=[.int .i64 p.1,.int .i64 p.2]∧I64 p.1∧I64 p.2:=by
 obtain ⟨xs,m,-,-,hl,hxl,k⟩:=DataW.trod_array Tryz.underlying35 h;have c0:Tryz.prog.cellsOf 3=1:=by kernel_rfl
 have c2:Tryz.prog.cellsOf 35=2:=by kernel_rfl
 rw [c2] at hl;have key:∀i,i<2→∃z:Int,I64 z∧cs[i]? =some (.int .i64 z):=by
  intro i hi;have e:=k i hi;rw [c0,Nat.mul_one] at e;cases hy:xs[i]? with
  | none=>simp [hxl,hi] at hy
  | some y =>
   rw [hy] at e;obtain ⟨z,hz,-,hw⟩:=DataW.trod_int Tryz.underlying3 e;exact ⟨z,wf_rng hw,take_val hz⟩
 obtain ⟨x,x1,x2⟩:=key 0 (by decide);obtain ⟨y,y1,y2⟩:=key 1 (by decide);refine ⟨(x,y),?_,x1,y1⟩;exact two_vals hl x2 y2
theorem list_of {β:Type} {α:Type} (g:β→α) (Q:β→Prop) (f:Nat→α):∀k,(∀i,i<k→∃b,f i=g b∧Q b)→∃l:List β,l.map g=(List.range k).map f∧∀b ∈ l,Q b
 | 0,_=>⟨[],rfl,by simp⟩
 | k+1,h=>by
  obtain ⟨l,h1,h2⟩:=list_of g Q f k (fun i hi=>h i (by omega));obtain ⟨b,h3,h4⟩:=h k (by omega);refine ⟨l++[b],by rw [List.range_succ,List.map_append,List.map_append,h1,List.map_singleton,List.map_singleton,h3],fun x hx=> ?_⟩;rcases List.mem_append.1 hx with hx|hx
  ·exact h2 x hx
  ·rw [List.mem_singleton.1 hx];exact h4
theorem row_some {r:List Value} {c:Nat} (h:r.length=c) (h0:0<c):∃v,r[0]? =some v:=⟨r[0]'(by omega),List.getElem?_eq_getElem _⟩
set_option maxRecDepth 100000 in
theorem arg_rows {β:Type} {base:Nat} {t e:TypeId} {c m:Nat} {v:Value} {d:DataW H} {p:List MemPlace} (g:β→List Value) (Q:β→Nat→Prop) (hQ:∀b k k',Q b k→k≤k' →Q b k') (hg:∀b,(g b).length=c) (hc0:0<c)
  (ht:Tryz.prog.underlying t=some (.slice e)) (hc:Tryz.prog.cellsOf e=c)
  (hE:∀n cs d q,DataW.trod enc Tryz.prog W 0 (fun _=>true) true n e cs=some (d,q)→∃b,cs=g b∧Q b (Rows.uptoBulk d))
  (hval:Value.okWide Tryz.prog W .any base t v) (h:DataW.Trod enc Tryz.prog W 0 (fun _=>true) true t v d p) :
  ∃pp n cap,∃l:List β,v=.slice pp n cap∧CutC c m W v n (l.map g)∧∀b ∈ l,Q b (Rows.uptoBulk d):=by
 obtain ⟨a0,len0,cap0,rfl⟩:=okWide_slice ht hval;obtain ⟨fuel,hf⟩:=h;rcases open_slice ht hf with ⟨hx,hd⟩|⟨a,len,cap,mm,n,D,Pl,hx,hb,hl,hm,hmm,hd,hel⟩
 ·simp [Value.cells] at hx;obtain ⟨rfl,rfl,rfl⟩:=hx;exact ⟨_,_,_,[],rfl,⟨none,0,rfl,by omega,by omega,by simp,fun i h=>absurd h (by simp)⟩,by simp⟩
 ·simp [Value.cells] at hx;obtain ⟨rfl,rfl,rfl⟩:=hx;simp only [if_true] at hmm;subst hmm;simp only [Prod.mk.injEq] at hd;obtain ⟨rfl,-⟩:=hd;rw [hc] at hel;have hcc:∀i,i<len0→∃b,W.cells? 0 (a.add (i*c)) c=some (g b)∧Q b (Rows.uptoBulk (.slice ((List.range len0).map D) ((List.range (mm-len0)).map fun j=>D (len0+j)))):=by
   intro i hi;obtain ⟨cs,h1,h2⟩:=hel i (by omega);obtain ⟨b,rfl,hq⟩:=hE _ _ _ _ h2;refine ⟨b,h1,hQ _ _ _ hq ?_⟩;have:=bulk_part (d:=D i) (l:=(List.range len0).map D) (List.mem_map.2 ⟨i,List.mem_range.2 hi,rfl⟩);simp only [Rows.uptoBulk];omega
  obtain ⟨l,h1,h2⟩:=list_of (fun b:β=>some (g b)) (fun b=>Q b (Rows.uptoBulk (.slice ((List.range len0).map D) ((List.range (mm-len0)).map fun j=>D (len0+j))))) (fun i=>W.cells? 0 (a.add (i*c)) c) (min len0 m) (fun i hi=>by
   obtain ⟨b,k1,k2⟩:=hcc i (by omega);exact ⟨b,k1,k2⟩)
  have hll:l.length=min len0 m:=by have:=congrArg List.length h1;simpa using this
  refine ⟨_,_,_,l,rfl,⟨some a,mm,rfl,by omega,by unfold maxLen at hm;omega,by rw [List.length_map];exact hll,fun i hi=> ?_⟩,h2⟩;rw [List.length_map] at hi;have eA:∀i (hi:i<l.length),W.cells? 0 (a.add (i*c)) c=some (g l[i]):=fun i hi=>by
   have:=congrArg (fun z=>z[i]?) h1;simp only [List.getElem?_map,List.getElem?_eq_getElem hi,Option.map_some,List.getElem?_range (by omega:i<min len0 m)] at this;exact (Option.some.inj this).symm
  have e1:=eA i hi;have e0:=eA 0 (by omega);obtain ⟨-,-,hcell0⟩:=World.cells?_some e0;obtain ⟨-,-,hcell⟩:=World.cells?_some e1;obtain ⟨g0,off,spot⟩:=a;have k0:=hcell 0 hc0;have hspot:spot=none:=by
   have k9:=hcell0 0 hc0;obtain ⟨v0,hv0⟩:∃v0,(g (l[0]'(by omega)))[0]? =some v0:=row_some (hg _) hc0;rw [hv0] at k9;have:=World.cell?_spot k9;simpa [Addr.add] using this
  subst hspot;have hadd:∀a b:Nat,(⟨g0,a,none⟩:Addr).add b=⟨g0,a+b,none⟩:=fun a b=>Addr.add_lit ..
  simp only [hadd] at hcell k0;refine ⟨g0,off,rfl,?_,fun j u hu=> ?_⟩
  ·obtain ⟨v0,hv0⟩:∃v0,(g l[i])[0]? =some v0:=row_some (hg _) hc0;rw [hv0] at k0;rcases Nat.lt_or_ge g0 W.heap.size with hlt|hlt
   ·exact hlt
   ·simp [World.cell?,Array.getElem?_eq_none hlt] at k0
  ·rw [List.getElem_map] at hu;have hj:j<c:=by
    rcases Nat.lt_or_ge j c with h|h
    ·exact h
    ·rw [List.getElem?_eq_none (by rw [hg];exact h)] at hu;cases hu
   rw [hcell j hj,hu]
section
variable {base:Nat} {v:Value} {d:DataW H} {p:List MemPlace} {m:Nat}
set_option maxRecDepth 100000 in
theorem arg_pairs (hval:Value.okWide Tryz.prog W .any base 57 v) (h:DataW.Trod enc Tryz.prog W 0 (fun _=>true) true 57 v d p) :
  ∃pp n cap,∃l:List (Int × Int),v=.slice pp n cap∧CutC 2 m W v n (l.map fun p=>[.int .i64 p.1,.int .i64 p.2])∧∀b ∈ l,I64 b.1∧I64 b.2 :=
 arg_rows (c:=2) (fun p:Int × Int=>[.int .i64 p.1,.int .i64 p.2]) (fun b _=>I64 b.1∧I64 b.2) (fun _ _ _ h _=>h) (fun _=>rfl) (by decide) Tryz.underlying57 (by kernel_rfl) (fun _ _ _ _ h=>trod_pair h) hval h
set_option maxRecDepth 100000 in
theorem arg_days (hval:Value.okWide Tryz.prog W .any base 56 v) (h:DataW.Trod enc Tryz.prog W 0 (fun _=>true) true 56 v d p) :
  ∃pp n cap,∃l:List Dk,v=.slice pp n cap∧CutC 4 m W v n (l.map Dk.cells)∧SzD l (Rows.uptoBulk d) :=
 arg_rows (c:=4) Dk.cells (fun b k=>b.rt.n.size≤k∧b.rt.d.size≤k) (fun _ _ _ h k=>⟨Nat.le_trans h.1 k,Nat.le_trans h.2 k⟩) (fun _=>rfl) (by decide) Tryz.underlying56 (by kernel_rfl) (fun _ _ _ _ h=>trod_dayrate h) hval h
theorem SzD.mono {l:List Dk} {k j:Nat} (h:SzD l k) (hk:k≤j):SzD l j:=fun b hb=>⟨Nat.le_trans (h b hb).1 hk,Nat.le_trans (h b hb).2 hk⟩
theorem SzK.mono {l:List Bk} {k j:Nat} (h:SzK l k) (hk:k≤j):SzK l j:=fun b hb=>by have:=h b hb;unfold Sz4 at *;omega
set_option maxRecDepth 100000 in
theorem arg_span (hval:Value.okWide Tryz.prog W .any base 68 v) (h:DataW.Trod enc Tryz.prog W 0 (fun _=>true) true 68 v d p) :
  ∃a b:Int,v=.agg #[.int .i64 a,.int .i64 b]∧I64 a∧I64 b:=by
 unfold Value.okWide at hval;rw [Tryz.underlying68] at hval;obtain ⟨cs,rfl,hs,-⟩:=hval;obtain ⟨fuel,hf⟩:=h;obtain ⟨y0,y1,m,hx,hl,k0,k1⟩:=trod_struct2 Tryz.underlying68 hf;have c0:Tryz.prog.cellsOf 3=1:=by kernel_rfl
 have c2:Tryz.prog.cellsOf 68=2:=by kernel_rfl
 rw [c2] at hs;obtain ⟨x,y,rfl⟩:∃x y,cs=#[x,y]:=by
  obtain ⟨l⟩:=cs
  match l,hs with
  | [x,y],_=>exact ⟨x,y,rfl⟩
 simp only [c0,Value.cells,List.take,List.drop] at k0 k1;obtain ⟨a,e0,-,ha⟩:=DataW.trod_int Tryz.underlying3 k0;obtain ⟨b,e1,-,hb⟩:=DataW.trod_int Tryz.underlying3 k1;simp only [List.cons.injEq,and_true] at e0 e1;subst e0 e1;exact ⟨a,b,rfl,wf_rng ha,wf_rng hb⟩
end
end
end Go.Proofs.YtblgfmjlajhipaaGreatDoor
namespace Go.Proofs.YtblgfmjlajhipaaGreatDoor
open Go.RowKit Go.Shelf
open Dgt
theorem append_nil_any {w:World} {B size n c:Nat} {t ty e:TypeId} {i:TypeInfo} (ht:Tryz.prog.underlying t=some (.slice e)) (hi:Tryz.prog.info? e=some i) {v:Value} {xs:List Value} (hown:w.ownsRow B e size v n xs) :
  (Builtin.append_ #[t,t] ty #[v,.slice none 0 c]).run Tryz.prog w=.ok v w:=by
 rcases hown.2 with ⟨rfl,rfl⟩|⟨g,cap,cur,rfl,_,_,hnc,_⟩
 ·simp [Builtin.append_,run_underlying ht,sizeOf,typeInfo,hi,Builtin.lenOf,Builtin.firstCells]
 ·simp [Builtin.append_,run_underlying ht,sizeOf,typeInfo,hi,Builtin.lenOf,Builtin.firstCells,hnc,storeCells]
theorem cells4_at {l:List Dk} {j:Nat} {u:Value} (h:(cells4 l)[j]? =some u):∃(hi:j/4<l.length),(l[j/4]).cells[j%4]? =some u:=by
 have hlen:(cells4 l).length=l.length*4:=by
  unfold cells4;rw [flat_len (n:=4) (fun r hr=>by obtain ⟨b,-,rfl⟩:=List.mem_map.1 hr;rfl),List.length_map]
 have hj:=(List.getElem?_eq_some_iff.1 h).1;have hi:j/4<l.length:=by omega
 refine ⟨hi,?_⟩;have hr:j%4<(l[j/4]).cells.length:=by show j%4<4;omega
 have h2:=flat_at (n:=4) (l:=l.map Dk.cells) (fun r hr=>by obtain ⟨b,-,rfl⟩:=List.mem_map.1 hr;rfl) (j/4) (by rw [List.length_map];exact hi) (j%4) (l[j/4]).cells[j%4] (by rw [List.getElem_map];exact List.getElem?_eq_getElem hr);rw [show j/4*4+j%4=j by omega] at h2;have h3:(cells4 l)[j]? =some (l[j/4]).cells[j%4]:=h2;rw [h3] at h;rw [List.getElem?_eq_getElem hr];exact h
theorem app_lst {w:World} {B n:Nat} {v u:Value} {xs:List Value} {l:List Dk} (h:w.ownsRow B 64 4 v n xs) (hl:LstD w u l) (hw:B≤w.heap.size) (hn:n+l.length≤1000) :
  ∃v' w',(Builtin.append_ #[56,56] 56 #[v,u]).run Tryz.prog w=.ok v' w' ∧w'.ownsRow B 64 4 v' (n+l.length) (xs++cells4 l) ∧
   (∀b o,Hid (b<B)→Hid (w.heap[b]? =some o)→Hid (w'.heap[b]? =some o))∧(∀(m:Nat) (A:World),m≤B→Hid (Below m A w)→Hid (Below m A w'))∧w.heap.size≤w'.heap.size:=by
 obtain ⟨i0,hi,hz0,hz1,hz2⟩:=info_partsN infoDk;obtain ⟨p,cap,h1,h2,h3,h4⟩:=hl;rw [List.length_map] at h1 h2 h3;subst h1;cases p with
 | none =>
  have hl0:l=[]:=by
   cases l with
   | nil=>rfl
   | cons d t=>obtain ⟨g,off,e,-⟩:=h4 0 (by simp);cases e
  subst hl0;refine ⟨v,w,append_nil_any Tryz.underlying56 hi h,by simpa [cells4] using h,fun b o _ hx=>hx,fun m A _ hA=>hA,Nat.le_refl _⟩
 | some a =>
  obtain ⟨v',w',hr,r1,r2,-⟩:=run_append_own (P:=Tryz.prog) w B 56 56 64 i0 (.agg #[.int .i64 0,.bool false,.string ⟨#[]⟩,.string ⟨#[]⟩]) 4 48 Tryz.underlying56 hi hz0 hz1 hz2 rfl (by decide)
   v n xs h a l.length cap (cells4 l) (by unfold cells4;rw [flat_len (n:=4) (fun r hr=>by obtain ⟨b,-,rfl⟩:=List.mem_map.1 hr;rfl),List.length_map])
   (fun j x hj=>by
    obtain ⟨hi4,hx⟩:=cells4_at hj;obtain ⟨g,off,e,-,k3⟩:=h4 (j/4) (by rw [List.length_map];exact hi4);cases e;have h5:=k3 (j%4) x (by rw [List.getElem_map];exact hx);have hadd:((⟨g,off,none⟩:Addr).add j)=⟨g,off+j,none⟩:=by unfold Addr.add;split<;>simp_all
    rw [hadd];rw [show off+j/4*4+j%4=off+j by omega] at h5;exact h5)
   (fun x hx=>by
    unfold cells4 at hx;obtain ⟨r,hr,hx2⟩:=List.mem_flatten.1 hx;obtain ⟨b,-,rfl⟩:=List.mem_map.1 hr;exact cells4_one b x hx2)
   (by unfold maxLen;omega) (by omega) hw
  have hb:=own_base_b h;exact ⟨v',w',hr,r1,fun b o hbB hx=>hD (grown_box r2 hb hbB.out hx.out),fun m A hm hA=>hD (grown_below r2 hb hm hA.out (Nat.le_trans hm hw)),r2.size⟩
theorem own_under {w w' :World} {B B0 size n:Nat} {e:TypeId} {v:Value} {xs:List Value} (h:w.ownsRow B0 e size v n xs) (hlt:∀g,v.ownBlock=some g→g<B) (hkp:∀b o,Hid (b<B)→Hid (w.heap[b]? =some o)→Hid (w'.heap[b]? =some o)):w'.ownsRow B0 e size v n xs:=by
 refine ⟨h.1,?_⟩;rcases h.2 with h|⟨g,cap,cur,rfl,h2,h3,h4⟩
 ·exact .inl h
 ·exact .inr ⟨g,cap,cur,rfl,h2,(hkp g _ (hD (hlt g rfl)) (hD h3)).out,h4⟩
theorem cells4_app (l m:List Dk):cells4 (l++m)=cells4 l++cells4 m:=by unfold cells4;simp
theorem days_fit (q:List (Int × Int)):SzD ((daysD q).map rawD) 1100000:=fun d hd=>by
 obtain ⟨e,he,rfl⟩:=List.mem_map.1 hd;obtain ⟨p,-,rfl⟩:=List.mem_map.1 he;have hb0:=Int.emod_nonneg p.2 (show (6:Int)≠0 by decide);have hb1:=Int.emod_lt_of_pos p.2 (show (0:Int)<6 by decide);exact rawR_sz ((quoR_sz (ofR_sz (n:=p.2%6-1) (by omega) (by omega)) (ofR_sz (n:=1000) (by decide) (by decide))).mono (by decide))
end Go.Proofs.YtblgfmjlajhipaaGreatDoor
