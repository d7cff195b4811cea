/- RateForce: contracts and the law's walk. Each theorem names its conditions. -/
import Derived.Deep.Slices
import Derived.Deep.Strs
import Derived.ChangeArms
import Derived.Test.YtblgfmjlajhipaaGreatDoorCards
import Derived.Test.YtblgfmjlajhipaaGreatDoorTie
import Derived.WalkKit
import Derived.ProofKit
import Derived.OpenShut
import Derived.LaidMore
import Derived.Deep.DeepHandedRow
import Derived.Deep.DeepWitnessRowRef
import Derived.Stop.LaidErr
import Derived.Below
import Derived.RangeFuncKeeps
import Derived.OwnWalkIn
import Derived.TacticsInMore
import Derived.LoopNIn
import Derived.LoopIn
import Derived.Shelf.SortM.Plain
import Derived.Shelf.SortM.SortNone
import Derived.Ground.GgzProg
import Derived.Ground.SlgmProg
import Derived.Maps.Own
import Derived.Maps.OwnOps
import Derived.Maps.OwnSet
import Derived.Maps.Views
import Derived.Shelf.SlIterI.Nil
import Derived.Deep.LoopGhost
import Derived.Deep.QuietTactic
import Derived.BigQuiet
import Derived.Test.YtblgfmjlajhipaaGreatDoorProg
import Derived.WalkSpells
import Derived.WalkLawsBesides
import Derived.IntWalk
import Derived.Lib.Hide
import Derived.Laws.BitsAllLaws
import Derived.StillTailTactics
import Derived.Deep.OwnRows
import Derived.Lib.ConvBytes
import Derived.RangeFuncNested
import Derived.RangeFuncCalls
import Derived.RangeFuncLeaves
import Derived.Shelf.Abstract
import Derived.Lib.LaidIn
import Derived.RegionTactic
import Derived.KernelRfl
import Derived.OrdersIn
import Derived.Shelf.Strings.Trim
import Derived.Shelf.Small.Utf8
import Derived.Shelf.Small.Bits
import Derived.Shelf.Small.Strs
import Derived.Shelf.Strconv.Itoa0
import Derived.Shelf.Strings.Search1
import Derived.Shelf.Strings.Runes
import Derived.Shelf.Strings.AsciiSet
import Derived.Shelf.Unicode.DecodeSlow
import Derived.Shelf.Unicode.DecodeAny
import Derived.Deep.DeepCutAuto
import Derived.Laws.AppendOwn
import Derived.Deep.DeepAppendWide
import Derived.Laws.AppendOwnNone
import Derived.OwnWalk
import Derived.Lib.IndexBytes
import Derived.Test.YtblgfmjlajhipaaGreatDoorZd4
import Derived.Test.YtblgfmjlajhipaaGreatDoorZb5
import Derived.Test.YtblgfmjlajhipaaGreatDoorZb4
import Derived.Test.YtblgfmjlajhipaaGreatDoorKfa0
import Derived.Test.YtblgfmjlajhipaaGreatDoorKfa1
import Derived.Test.YtblgfmjlajhipaaGreatDoorZb9
import Derived.Test.YtblgfmjlajhipaaGreatDoorZb6
import Derived.Test.YtblgfmjlajhipaaGreatDoorZd3
import Derived.Test.YtblgfmjlajhipaaGreatDoorZd2
import Derived.Test.YtblgfmjlajhipaaGreatDoorZd1
import Derived.Test.YtblgfmjlajhipaaGreatDoorZd0
import Derived.Test.YtblgfmjlajhipaaGreatDoorZc8
import Derived.Test.YtblgfmjlajhipaaGreatDoorZc7
import Derived.Test.YtblgfmjlajhipaaGreatDoorZc6
import Derived.Test.YtblgfmjlajhipaaGreatDoorZb7
import Derived.Test.YtblgfmjlajhipaaGreatDoorZa7
import Derived.Test.YtblgfmjlajhipaaGreatDoorZa6
import Derived.Test.YtblgfmjlajhipaaGreatDoorZa5
import Derived.Test.YtblgfmjlajhipaaGreatDoorZa4
import Derived.Test.YtblgfmjlajhipaaGreatDoorZa3
import Derived.Test.YtblgfmjlajhipaaGreatDoorZa0
import Derived.Test.YtblgfmjlajhipaaGreatDoorZa1
import Derived.Test.YtblgfmjlajhipaaGreatDoorZa2
import Derived.Test.YtblgfmjlajhipaaGreatDoorZc5
import Derived.Test.YtblgfmjlajhipaaGreatDoorZc4
import Derived.Test.YtblgfmjlajhipaaGreatDoorZc3
import Derived.Test.YtblgfmjlajhipaaGreatDoorZc2
import Derived.Test.YtblgfmjlajhipaaGreatDoorZc1
import Derived.Test.YtblgfmjlajhipaaGreatDoorZc0
import Derived.Test.YtblgfmjlajhipaaGreatDoorZb8
import Derived.Test.YtblgfmjlajhipaaGreatDoorZc9
import Derived.Test.YtblgfmjlajhipaaGreatDoorZb0
import Derived.Test.YtblgfmjlajhipaaGreatDoorZa9
import Derived.Test.YtblgfmjlajhipaaGreatDoorZa8
import Derived.Test.YtblgfmjlajhipaaGreatDoorZb3
import Derived.Test.YtblgfmjlajhipaaGreatDoorZb2
import Derived.Test.YtblgfmjlajhipaaGreatDoorZb1
set_option maxHeartbeats 16000000
set_option linter.unusedVariables false
namespace Go.Proofs.YtblgfmjlajhipaaGreatDoor
open Go.ChangeShapes Go.WideShapes Go.ChangeAt Go.RowKit Go.Deep Go.Shelf
section
variable {H:Type} {enc:TypeId × Value→H} {W:World}
theorem bulk_part {d:DataW H} {l:List (DataW H)} (h:d ∈ l):Rows.uptoBulk d≤Rows.uptoBulkAll l:=by
 induction l with
 | nil=>cases h
 | cons x r ih =>
  simp only [Rows.uptoBulkAll];cases List.mem_cons.1 h with
  | inl e=>subst e;omega
  | inr e=>have:=ih e;omega
theorem take_val {cs:List Value} {i:Nat} {v:Value} (h:(cs.drop i).take 1=[v]):cs[i]? =some v:=by
 have:=congrArg (fun l=>l[0]?) h;simpa using this
theorem two_vals {cs:List Value} {a b:Value} (hl:cs.length=2) (h0:cs[0]? =some a) (h1:cs[1]? =some b):cs=[a,b]:=by
 match cs,hl with
 | [x,y],_=>simp at h0 h1;subst h0 h1;rfl
set_option maxRecDepth 100000 in
theorem trod_pair {n:Nat} {cs:List Value} {d:DataW H} {q:List MemPlace} (h:DataW.trod enc Tryz.prog W 0 (fun _=>true) true n 35 cs=some (d,q)) :
  ∃p:Int × Int,cs=[.int .i64 p.1,.int .i64 p.2]∧I64 p.1∧I64 p.2:=by
 obtain ⟨xs,m,-,-,hl,hxl,k⟩:=DataW.trod_array Tryz.underlying35 h;have c0:Tryz.prog.cellsOf 3=1:=by kernel_rfl
 have c2:Tryz.prog.cellsOf 35=2:=by kernel_rfl
 rw [c2] at hl;have key:∀i,i<2→∃z:Int,I64 z∧cs[i]? =some (.int .i64 z):=by
  intro i hi;have e:=k i hi;rw [c0,Nat.mul_one] at e;cases hy:xs[i]? with
  | none=>simp [hxl,hi] at hy
  | some y =>
   rw [hy] at e;obtain ⟨z,hz,-,hw⟩:=DataW.trod_int Tryz.underlying3 e;exact ⟨z,wf_rng hw,take_val hz⟩
 obtain ⟨x,x1,x2⟩:=key 0 (by decide);obtain ⟨y,y1,y2⟩:=key 1 (by decide);refine ⟨(x,y),?_,x1,y1⟩;exact two_vals hl x2 y2
theorem list_of {β:Type} {α:Type} (g:β→α) (Q:β→Prop) (f:Nat→α):∀k,(∀i,i<k→∃b,f i=g b∧Q b)→∃l:List β,l.map g=(List.range k).map f∧∀b ∈ l,Q b
 | 0,_=>⟨[],rfl,by simp⟩
 | k+1,h=>by
  obtain ⟨l,h1,h2⟩:=list_of g Q f k (fun i hi=>h i (by omega));obtain ⟨b,h3,h4⟩:=h k (by omega);refine ⟨l++[b],by rw [List.range_succ,List.map_append,List.map_append,h1,List.map_singleton,List.map_singleton,h3],fun x hx=> ?_⟩;rcases List.mem_append.1 hx with hx|hx
  ·exact h2 x hx
  ·rw [List.mem_singleton.1 hx];exact h4
theorem row_some {r:List Value} {c:Nat} (h:r.length=c) (h0:0<c):∃v,r[0]? =some v:=⟨r[0]'(by omega),List.getElem?_eq_getElem _⟩
set_option maxRecDepth 100000 in
theorem arg_rows {β:Type} {base:Nat} {t e:TypeId} {c m:Nat} {v:Value} {d:DataW H} {p:List MemPlace} (g:β→List Value) (Q:β→Nat→Prop) (hQ:∀b k k',Q b k→k≤k' →Q b k') (hg:∀b,(g b).length=c) (hc0:0<c)
  (ht:Tryz.prog.underlying t=some (.slice e)) (hc:Tryz.prog.cellsOf e=c)
  (hE:∀n cs d q,DataW.trod enc Tryz.prog W 0 (fun _=>true) true n e cs=some (d,q)→∃b,cs=g b∧Q b (Rows.uptoBulk d))
  (hval:Value.okWide Tryz.prog W .any base t v) (h:DataW.Trod enc Tryz.prog W 0 (fun _=>true) true t v d p) :
  ∃pp n cap,∃l:List β,v=.slice pp n cap∧CutC c m W v n (l.map g)∧∀b ∈ l,Q b (Rows.uptoBulk d):=by
 obtain ⟨a0,len0,cap0,rfl⟩:=okWide_slice ht hval;obtain ⟨fuel,hf⟩:=h;rcases open_slice ht hf with ⟨hx,hd⟩|⟨a,len,cap,mm,n,D,Pl,hx,hb,hl,hm,hmm,hd,hel⟩
 ·simp [Value.cells] at hx;obtain ⟨rfl,rfl,rfl⟩:=hx;exact ⟨_,_,_,[],rfl,⟨none,0,rfl,by omega,by omega,by simp,fun i h=>absurd h (by simp)⟩,by simp⟩
 ·simp [Value.cells] at hx;obtain ⟨rfl,rfl,rfl⟩:=hx;simp only [if_true] at hmm;subst hmm;simp only [Prod.mk.injEq] at hd;obtain ⟨rfl,-⟩:=hd;rw [hc] at hel;have hcc:∀i,i<len0→∃b,W.cells? 0 (a.add (i*c)) c=some (g b)∧Q b (Rows.uptoBulk (.slice ((List.range len0).map D) ((List.range (mm-len0)).map fun j=>D (len0+j)))):=by
   intro i hi;obtain ⟨cs,h1,h2⟩:=hel i (by omega);obtain ⟨b,rfl,hq⟩:=hE _ _ _ _ h2;refine ⟨b,h1,hQ _ _ _ hq ?_⟩;have:=bulk_part (d:=D i) (l:=(List.range len0).map D) (List.mem_map.2 ⟨i,List.mem_range.2 hi,rfl⟩);simp only [Rows.uptoBulk];omega
  obtain ⟨l,h1,h2⟩:=list_of (fun b:β=>some (g b)) (fun b=>Q b (Rows.uptoBulk (.slice ((List.range len0).map D) ((List.range (mm-len0)).map fun j=>D (len0+j))))) (fun i=>W.cells? 0 (a.add (i*c)) c) (min len0 m) (fun i hi=>by
   obtain ⟨b,k1,k2⟩:=hcc i (by omega);exact ⟨b,k1,k2⟩)
  have hll:l.length=min len0 m:=by have:=congrArg List.length h1;simpa using this
  refine ⟨_,_,_,l,rfl,⟨some a,mm,rfl,by omega,by unfold maxLen at hm;omega,by rw [List.length_map];exact hll,fun i hi=> ?_⟩,h2⟩;rw [List.length_map] at hi;have eA:∀i (hi:i<l.length),W.cells? 0 (a.add (i*c)) c=some (g l[i]):=fun i hi=>by
   have:=congrArg (fun z=>z[i]?) h1;simp only [List.getElem?_map,List.getElem?_eq_getElem hi,Option.map_some,List.getElem?_range (by omega:i<min len0 m)] at this;exact (Option.some.inj this).symm
  have e1:=eA i hi;have e0:=eA 0 (by omega);obtain ⟨-,-,hcell0⟩:=World.cells?_some e0;obtain ⟨-,-,hcell⟩:=World.cells?_some e1;obtain ⟨g0,off,spot⟩:=a;have k0:=hcell 0 hc0;have hspot:spot=none:=by
   have k9:=hcell0 0 hc0;obtain ⟨v0,hv0⟩:∃v0,(g (l[0]'(by omega)))[0]? =some v0:=row_some (hg _) hc0;rw [hv0] at k9;have:=World.cell?_spot k9;simpa [Addr.add] using this
  subst hspot;have hadd:∀a b:Nat,(⟨g0,a,none⟩:Addr).add b=⟨g0,a+b,none⟩:=fun a b=>Addr.add_lit ..
  simp only [hadd] at hcell k0;refine ⟨g0,off,rfl,?_,fun j u hu=> ?_⟩
  ·obtain ⟨v0,hv0⟩:∃v0,(g l[i])[0]? =some v0:=row_some (hg _) hc0;rw [hv0] at k0;rcases Nat.lt_or_ge g0 W.heap.size with hlt|hlt
   ·exact hlt
   ·simp [World.cell?,Array.getElem?_eq_none hlt] at k0
  ·rw [List.getElem_map] at hu;have hj:j<c:=by
    rcases Nat.lt_or_ge j c with h|h
    ·exact h
    ·rw [List.getElem?_eq_none (by rw [hg];exact h)] at hu;cases hu
   rw [hcell j hj,hu]
section
variable {base:Nat} {v:Value} {d:DataW H} {p:List MemPlace} {m:Nat}
set_option maxRecDepth 100000 in
theorem arg_pairs (hval:Value.okWide Tryz.prog W .any base 57 v) (h:DataW.Trod enc Tryz.prog W 0 (fun _=>true) true 57 v d p) :
  ∃pp n cap,∃l:List (Int × Int),v=.slice pp n cap∧CutC 2 m W v n (l.map fun p=>[.int .i64 p.1,.int .i64 p.2])∧∀b ∈ l,I64 b.1∧I64 b.2 :=
 arg_rows (c:=2) (fun p:Int × Int=>[.int .i64 p.1,.int .i64 p.2]) (fun b _=>I64 b.1∧I64 b.2) (fun _ _ _ h _=>h) (fun _=>rfl) (by decide) Tryz.underlying57 (by kernel_rfl) (fun _ _ _ _ h=>trod_pair h) hval h
theorem SzD.mono {l:List Dk} {k j:Nat} (h:SzD l k) (hk:k≤j):SzD l j:=fun b hb=>⟨Nat.le_trans (h b hb).1 hk,Nat.le_trans (h b hb).2 hk⟩
theorem SzK.mono {l:List Bk} {k j:Nat} (h:SzK l k) (hk:k≤j):SzK l j:=fun b hb=>by have:=h b hb;unfold Sz4 at *;omega
end
end
end Go.Proofs.YtblgfmjlajhipaaGreatDoor
namespace Go.Proofs.YtblgfmjlajhipaaGreatDoor
open Go.RowKit Go.Shelf
open Dgt
theorem append_nil_any {w:World} {B size n c:Nat} {t ty e:TypeId} {i:TypeInfo} (ht:Tryz.prog.underlying t=some (.slice e)) (hi:Tryz.prog.info? e=some i) {v:Value} {xs:List Value} (hown:w.ownsRow B e size v n xs) :
  (Builtin.append_ #[t,t] ty #[v,.slice none 0 c]).run Tryz.prog w=.ok v w:=by
 rcases hown.2 with ⟨rfl,rfl⟩|⟨g,cap,cur,rfl,_,_,hnc,_⟩
 ·simp [Builtin.append_,run_underlying ht,sizeOf,typeInfo,hi,Builtin.lenOf,Builtin.firstCells]
 ·simp [Builtin.append_,run_underlying ht,sizeOf,typeInfo,hi,Builtin.lenOf,Builtin.firstCells,hnc,storeCells]
theorem cells4_at {l:List Dk} {j:Nat} {u:Value} (h:(cells4 l)[j]? =some u):∃(hi:j/4<l.length),(l[j/4]).cells[j%4]? =some u:=by
 have hlen:(cells4 l).length=l.length*4:=by
  unfold cells4;rw [flat_len (n:=4) (fun r hr=>by obtain ⟨b,-,rfl⟩:=List.mem_map.1 hr;rfl),List.length_map]
 have hj:=(List.getElem?_eq_some_iff.1 h).1;have hi:j/4<l.length:=by omega
 refine ⟨hi,?_⟩;have hr:j%4<(l[j/4]).cells.length:=by show j%4<4;omega
 have h2:=flat_at (n:=4) (l:=l.map Dk.cells) (fun r hr=>by obtain ⟨b,-,rfl⟩:=List.mem_map.1 hr;rfl) (j/4) (by rw [List.length_map];exact hi) (j%4) (l[j/4]).cells[j%4] (by rw [List.getElem_map];exact List.getElem?_eq_getElem hr);rw [show j/4*4+j%4=j by omega] at h2;have h3:(cells4 l)[j]? =some (l[j/4]).cells[j%4]:=h2;rw [h3] at h;rw [List.getElem?_eq_getElem hr];exact h
theorem cells4_app (l m:List Dk):cells4 (l++m)=cells4 l++cells4 m:=by unfold cells4;simp
theorem days_fit (q:List (Int × Int)):SzD ((daysD q).map rawD) 1100000:=fun d hd=>by
 obtain ⟨e,he,rfl⟩:=List.mem_map.1 hd;obtain ⟨p,-,rfl⟩:=List.mem_map.1 he;have hb0:=Int.emod_nonneg p.2 (show (6:Int)≠0 by decide);have hb1:=Int.emod_lt_of_pos p.2 (show (0:Int)<6 by decide);exact rawR_sz ((quoR_sz (ofR_sz (n:=p.2%6-1) (by omega) (by omega)) (ofR_sz (n:=1000) (by decide) (by decide))).mono (by decide))
end Go.Proofs.YtblgfmjlajhipaaGreatDoor
namespace Go.Proofs.YtblgfmjlajhipaaGreatDoor
open Go.RowKit Go.Shelf Go.Maps
open Dgt
theorem onT_in {g:List DR} (hg:Gr g) {d:Int} (h:d≤3652058):onT g d=onL (normG g) zeroR d:=by
 unfold onT;rw [if_neg (by omega),on_eq g d hg.pos]
theorem pow_big {n k:Nat} (h:n<2^20) (hk:20≤k):n<2^k:=Nat.lt_of_lt_of_le h (Nat.pow_le_pow_right (by decide) hk)
theorem fit_gd {a:Rt} {D c:Nat} (ha:a.Ok) (hD:0<D) (h:Gd D (c:Rat) a.q) (h1:D<2^20) (h2:c*D<2^20):fitT a=true :=
 gd_fit ha hD h ((fun K (hK:20≤K)=>pow_big h1 hK:∀K,20≤K→D<2^K) 400 (by decide)) ((fun K (hK:20≤K)=>pow_big h2 hK:∀K,20≤K→c*D<2^K) 400 (by decide))
theorem gd_day (p:Int × Int):Gd 1000 5 (dayOf p).2.q:=by
 have hb0:=Int.emod_nonneg p.2 (show (6:Int)≠0 by decide);have hb1:=Int.emod_lt_of_pos p.2 (show (0:Int)<6 by decide);obtain ⟨n,hn⟩:∃n,p.2%6-1=n:=⟨_,rfl⟩;have h1: -1≤n:=by omega
 have h2:n≤4:=by omega
 have e:(dayOf p).2.q=(n:Rat)/1000:=by
  unfold dayOf fracT;rw [hn,q_quo (ofR_ok n) (ofR_ok 1000) (of_num (by decide)),q_of,q_of];rfl
 have h3:((-1:Int):Rat)≤(n:Rat):=by exact_mod_cast h1
 rw [show ((-1:Int):Rat)= -1 from rfl] at h3;have h4:(n:Rat)≤4:=by exact_mod_cast h2
 rw [e];exact ⟨⟨n,by grind⟩,by grind,by grind⟩
theorem day_ok (p:Int × Int):(dayOf p).2.Ok:=by
 unfold dayOf fracT;exact quoR_ok (ofR_ok _) (by decide)
theorem days_gr (q:List (Int × Int)):Gr (daysD q):=by
 have key:∀e ∈ daysD q,∃p,e=dayOf p:=fun e he=>by
  obtain ⟨p,-,rfl⟩:=List.mem_map.1 he;exact ⟨p,rfl⟩
 refine ⟨fun e he=> ?_,fun e he=> ?_,fun e he=> ?_⟩<;>obtain ⟨p,rfl⟩:=key e he
 ·have h0:=Int.emod_nonneg p.1 (show (50:Int)≠0 by decide);have h1:=Int.emod_lt_of_pos p.1 (show (0:Int)<50 by decide);show 0≤730000+p.1%50∧730000+p.1%50≤3652058;omega
 ·exact day_ok p
 ·exact fit_gd (D:=1000) (c:=5) (day_ok p) (by decide) (by exact_mod_cast gd_day p) (by decide) (by decide)
def lastK (n:List DR):Nat→Rt
 | 0=>zeroR
 | k+1=>rtAt n k
theorem rtAt_at {n:List DR} {k:Nat} (h:k<n.length):rtAt n k=n[k].2:=by unfold rtAt;rw [List.getElem?_eq_getElem h]
theorem chg_before {n:List DR} {last:Rt} {d:Int} (h:Chg n last d):∀{k:Nat} (hk:k<n.length),onL n last (n[k].1-1)=(if k=0 then last else rtAt n (k-1))∧n[k].2≠(if k=0 then last else rtAt n (k-1))∧∀(hk2:k+1<n.length),n[k].1<n[k+1].1:=by
 induction h with
 | nil=>intro k hk;simp at hk
 | @cons e t last d h1 h2 h3 ih =>
  intro k hk;cases k with
  | zero =>
   refine ⟨?_,by simpa using h2,fun hk2=> ?_⟩
   ·simp only [List.getElem_cons_zero,if_true];unfold onL;rw [if_neg (by omega)]
   ·have:=h3.lt (t[0]'(by simpa using hk2)) (List.getElem_mem _);simpa using this
  | succ j =>
   have hj:j<t.length:=by simpa using hk
   obtain ⟨a,b,c⟩:=ih hj;have e1:(if j+1=0 then last else rtAt (e::t) (j+1-1))=if j=0 then e.2 else rtAt t (j-1):=by
    rw [if_neg (by omega)];cases j with
    | zero=>rfl
    | succ i=>rw [if_neg (by omega)];unfold rtAt;simp
   have hl:=h3.lt t[j] (List.getElem_mem _);rw [e1];refine ⟨?_,by simpa using b,fun hk2=>by simpa using c (by simpa using hk2)⟩;simp only [List.getElem_cons_succ];unfold onL;rw [if_pos (by omega)];exact a
section
variable {g:List DR}
theorem lastK_eq (n:List DR) (k:Nat):(if k=0 then zeroR else rtAt n (k-1))=lastK n k:=by cases k<;>rfl
theorem force_at (hg:Gr g) {k:Nat} (h:k<(normG g).length):onT g (normG g)[k].1=(normG g)[k].2:=by
 have hd:=(norm_gr hg).day _ (List.getElem_mem h);rw [onT_in hg hd.2];exact onL_entry (normG_chg g hg.pos) (List.getElem_mem h)
theorem force_before (hg:Gr g) {k:Nat} (h:k<(normG g).length):onT g ((normG g)[k].1-1)=lastK (normG g) k:=by
 have hd:=(norm_gr hg).day _ (List.getElem_mem h);rw [onT_in hg (by omega),(chg_before (normG_chg g hg.pos) h).1,lastK_eq]
theorem force_ne (hg:Gr g) {k:Nat} (h:k<(normG g).length):(normG g)[k].2≠lastK (normG g) k:=by
 rw [←lastK_eq];exact (chg_before (normG_chg g hg.pos) h).2.1
theorem force_up (hg:Gr g) {k:Nat} (h:k+1<(normG g).length):(normG g)[k].1<(normG g)[k+1].1:=(chg_before (normG_chg g hg.pos) (by omega)).2.2 h
theorem force_all (hg:Gr g) {n:List DR} (hn:normG g=n):(∀k (h:k<n.length),onT g n[k].1=n[k].2)∧(∀k (h:k<n.length),onT g (n[k].1-1)=lastK n k)∧(∀k (h:k<n.length),n[k].2≠lastK n k)∧∀k (h:k+1<n.length),n[k].1<n[k+1].1:=by
 subst hn;exact ⟨fun k h=>force_at hg h,fun k h=>force_before hg h,fun k h=>force_ne hg h,fun k h=>force_up hg h⟩
theorem norm_self (hg:Gr g):normG (normG g)=normG g:=norm_norm (normG_chg g hg.pos)
theorem on_self (hg:Gr g) (d:Int):onT (normG g) d=onT g d:=by
 unfold onT
 split
 ·rfl
 ·rw [←on_eq (normG g) d (norm_gr hg).pos, ←on_eq g d hg.pos,norm_self hg]
theorem on_add_at (hg:Gr g) {x:DR} (h0:0≤x.1) (hx:x.1≤3652058):onT (g++[x]) x.1=x.2:=by
 have hle:(onF g x.1).1≤x.1:=by
  rcases onF_spec g x.1 hg.pos with ⟨h1,-⟩|⟨h1,-⟩
  ·rw [h1];show (-1:Int)≤x.1;omega
  ·exact h1
 unfold onT;rw [if_neg (by omega),onF_snoc,if_pos ⟨Int.le_refl _,hle⟩]
theorem on_add_before {x:DR} {d:Int} (h:d<x.1):onT (g++[x]) d=onT g d:=by
 unfold onT
 split
 ·rfl
 ·rw [onF_snoc,if_neg (by omega)]
theorem gr_app (hg:Gr g) {m:List DR} (hm:Gr m):Gr (g++m) :=
 ⟨fun e he=>(List.mem_append.1 he).elim (hg.day e) (hm.day e),fun e he=>(List.mem_append.1 he).elim (hg.ok e) (hm.ok e),fun e he=>(List.mem_append.1 he).elim (hg.fit e) (hm.fit e)⟩
end
end Go.Proofs.YtblgfmjlajhipaaGreatDoor
namespace Go.Proofs.YtblgfmjlajhipaaGreatDoor
open Go Go.RowKit
section
variable {P:Program} {ops:Array Oper} {Q:Exit→Act→World→Prop} {T0:Array Value}
theorem wp_region_used {id:Nat} {w:World} (hm:P.follows .mixedOrders=true) (S:Nat→Value→World→Prop) (used:Nat→Option Nat) (L:Nat) (b:Nat→Bool) (hL:L≤ops.size) (hov:overB (ops.extract 0 L) T0.size b=true) (hsl:slotsB ops T0.size=true) (hsl' :slotsB (ops.extract 0 L) T0.size=true) (hbk:backR ops=true) (htl:tailB ops L=true)
  (hup:∀j v w w',Below w.heap.size w w' →S j v w→S j v w')
  (hstep:∀i,i<L→∀o listed a w',RAt ops T0 (fun j v w=>j<L→(used j=none∨used j=some i)→S j v w) w i o listed a w' →
   ∀K:Act→World→Prop,(∀v w'',S i (gives o.dst v) w'' →Below w.heap.size w w'' →(∀j u,j<L→j≠i→used j≠some i→listed.getD j false=true→(∀J,used j=some J→listed.getD J false=false)→S j u w' →S j u w'')→K (a.put o.dst v) w'') →
    (∀v w'',S i (gives o.dst v) w'' →Below w'.heap.size w' w'' →K (a.put o.dst v) w'')→wpOp P ops Q i K a w')
  (htail:∀(s:Nat→Value) w',(∀j,j<L→used j=none→S j (match dstOf ops j with|some d=>s d|none=>undef) w')→Below w.heap.size w w' →wpTail P ops Q (ops.size-L) L { tmps:=(over b s 0 T0.toList).toArray,defers:=[] } w') :
  (Code.region id ops true).wp P Q { tmps:=T0,defers:=[] } w:=by
 have hnd:∀m,L≤m→m<ops.size→needB ops m=true:=fun m h1 h2=>by
  have:=List.all_eq_true.1 htl m (by simpa using h2)
  simp only [Bool.or_eq_true,decide_eq_true_eq] at this
  rcases this with h|h
  ·omega
  ·exact h
 have hfin:∀listed a w',RSt ops T0 (fun listed j v w=>j<L→(∀J,used j=some J→listed.getD J false=false)→S j v w) (fun _ w' =>Below w.heap.size w w') listed a w' →(∀j,L≤j→listed.getD j false=false)→(∀j,j<L→listed.getD j false=true)→wpTail P ops Q (ops.size-L) L a w' :=by
  intro listed a w' hI hun hall
  rw [hI.frame hL hsl' hov hun]
  refine htail _ w' (fun j hj hu=> ?_) hI.glob
  have:=hI.vals j (hall j hj) hj (fun J hJ=>by rw [hu] at hJ;cases hJ)
  cases hd:dstOf ops j with
  | none=>rw [hd] at this;exact this
  | some d=>rw [hd] at this;exact this
 refine wp_region_inv (fun listed a w' =>(RSt ops T0 (fun listed j v w=>j<L→(∀J,used j=some J→listed.getD J false=false)→S j v w) (fun _ w' =>Below w.heap.size w w') listed a w' ∧∀j,L≤j→listed.getD j false=false) ∨
  (∃m,L<m∧m≤ops.size∧listed.size=ops.size∧(∀j,j<ops.size→listed.getD j false=decide (j<m))∧wpTail P ops Q (ops.size-m) m a w')) hm ?_ ?_ ?_
 ·exact .inl ⟨⟨by simp,rfl,rfl,fun _ _=>rfl,fun j hj=>(by rw [getD_falses] at hj;cases hj),(Below.refl _ _).drew,fun j o _ hj=>by rw [getD_falses] at hj;cases hj⟩,fun j _=>getD_falses _ _⟩
 ·rintro listed a w' hI i o ho hun hall
  have hio:i<ops.size:=(Array.getElem?_eq_some_iff.1 ho).1
  have hun' :listed.getD i false=false:=by
   rcases Nat.lt_or_ge i listed.size with h' |h'
   ·simp [h'] at hun ⊢;exact hun
   ·simp [Array.getElem?_eq_none h'] at hun
  have hset:∀m,listed.size=ops.size→(∀j,j<ops.size→listed.getD j false=decide (j<m))→i=m→∀j,j<ops.size→(listed.setIfInBounds i true).getD j false=decide (j<m+1):=by
   intro m hls hj him j hjs
   subst him
   by_cases hji:j=i
   ·subst hji;simp [hls,hio]
   ·rw [getD_set_ne false (Ne.symm hji),hj j hjs]
    simp;omega
  rcases hI with ⟨hI,hL'⟩|⟨m,hm1,hm2,hls,hlst,htl'⟩
  ·by_cases hiL:i<L
   ·have hls:i<listed.size:=by rw [hI.lsize];exact hio
    have key:∀v w'',S i (gives o.dst v) w'' →Below w.heap.size w w'' →(∀j u,j<L→j≠i→used j≠some i→listed.getD j false=true→(∀J,used j=some J→listed.getD J false=false)→S j u w' →S j u w'') →
      RSt ops T0 (fun listed j v w=>j<L→(∀J,used j=some J→listed.getD J false=false)→S j v w) (fun _ w' =>Below w.heap.size w w') (listed.setIfInBounds i true) (a.put o.dst v) w'' :=fun v w'' h1 h2 h3 =>
     hI.put_one hsl ho hun' hall (fun _ _=>h1) h2 fun j u hji hjl hS hj hfree=>by
      have hne:used j≠some i:=fun e=>by
       have:=hfree i e
       simp [hls] at this
      have hfr:∀J,used j=some J→listed.getD J false=false:=fun J hJ=>by
       have h:=hfree J hJ
       by_cases e:i=J
       ·subst e;exact hun'
       ·rwa [getD_set_ne false e] at h
      exact h3 j u hj hji hne hjl hfr (hS hj hfr)
    exact hstep i hiL o listed a w' ⟨ho,hall,fun t ht=>hI.base t (fun j hj=>absurd hj (free_ne ht)),fun j hj hjL hu=>hI.vals j hj hjL (fun J hJ=>by
     rcases hu with h|h
     ·rw [h] at hJ;cases hJ
     ·rw [h] at hJ;obtain rfl:=Option.some.inj hJ;exact hun'),hI.glob,hun',hI.closed,hI.base⟩ _
     (fun v w'' h1 h2 h3=>.inl ⟨key v w'' h1 h2 h3,fun j hj=>(getD_set_ne false (by omega)).trans (hL' j hj)⟩)
     (fun v w'' h1 h2=>.inl ⟨key v w'' h1 (hI.glob.trans (h2.mono hI.glob.size)) (fun j u _ _ _ _ _ hS=>hup j u w' w'' h2 hS),fun j hj=>(getD_set_ne false (by omega)).trans (hL' j hj)⟩)
   ·have hb:=all_before (hnd i (by omega) hio) ho hall hI.closed
    have hiL:i=L:=by
     rcases Nat.lt_or_ge L i with h|h
     ·have:=hb L h
      rw [hL' L (Nat.le_refl _)] at this;cases this
     ·omega
    subst hiL
    have h:=hfin listed a w' hI hL' hb
    rw [show ops.size-i=(ops.size-(i+1))+1 by omega] at h
    refine wpOp_mono (fun a' w'' h=>.inr ⟨i+1,by omega,by omega,by simpa using hI.lsize,hset i hI.lsize (fun j hj=> ?_) rfl,h⟩) h
    by_cases hji:j<i
    ·rw [hb j hji];simp [hji]
    ·rw [hL' j (by omega)];simp [hji]
  ·have him:i=m:=by
    have h1:=hlst i hio
    rw [hun'] at h1
    have h2:¬i<m:=by simpa using h1.symm
    rcases Nat.lt_or_ge m i with h|h
    ·have:=all_before (hnd i (by omega) hio) ho hall (fun j o ho' hj e he hb=>by
      have hjs:j<ops.size:=(Array.getElem?_eq_some_iff.1 ho').1
      have h3:=List.all_eq_true.1 hbk j (by simpa using hjs)
      rw [ho'] at h3
      have h4:=Array.all_eq_true'.1 (show (o.after.all fun e=> !Region.binds .any e||decide (e.on<j))=true from h3) e he
      rw [hb] at h4
      have h5:e.on<j:=by simpa using h4
      have h6:=hlst j hjs
      rw [hj] at h6
      have h7:j<m:=by simpa using h6.symm
      rw [hlst e.on (by omega)];simp;omega) m h
     rw [hlst m (by omega)] at this
     simp at this
    ·omega
   subst him
   have h:=htl'
   rw [show ops.size-i=(ops.size-(i+1))+1 by omega] at h
   exact wpOp_mono (fun a' w'' h=>.inr ⟨i+1,by omega,by omega,by simpa using hls,hset i hls hlst rfl,h⟩) h
 ·rintro listed a w' hI hr
  have hback:∀j o,ops[j]? =some o→∀e ∈ o.after,Region.binds .any e=true→e.on<j:=fun j o ho e he hb=>by
   have h1:=List.all_eq_true.1 hbk j (by simpa using (Array.getElem?_eq_some_iff.1 ho).1)
   rw [ho] at h1
   have h2:=Array.all_eq_true'.1 (show (o.after.all fun e=> !Region.binds .any e||decide (e.on<j))=true from h1) e he
   rw [hb] at h2
   simpa using h2
  rcases hI with ⟨hI,hL'⟩|⟨m,hm1,hm2,hls,hlst,htl'⟩
  ·have hup:∀j,j<ops.size→listed.getD j false=true:=fun j hj=>by
    have:=all_up hI.lsize hback hr j hj
    have hs:j<listed.size:=by rw [hI.lsize];exact hj
    simpa [hs] using this
   have hLs:L=ops.size:=by
    rcases Nat.lt_or_ge L ops.size with h|h
    ·have:=hup L h
     rw [hL' L (Nat.le_refl _)] at this;cases this
    ·omega
   have h:=hfin listed a w' hI hL' (fun j hj=>hup j (by omega))
   rw [hLs,Nat.sub_self] at h
   exact h
  ·have hms:m=ops.size:=by
    rcases Nat.lt_or_ge m ops.size with h|h
    ·have:=all_up hls hback hr m h
     have hs:m<listed.size:=by rw [hls];exact h
     have h2:=hlst m h
     simp [hs] at this h2
     rw [this] at h2;cases h2
    ·omega
   rw [hms,Nat.sub_self] at htl'
   exact htl'
theorem grown_kept {w w' :World} {b:Option Nat} {g:Nat} {o:Obj} (hg:w.grownBy w' b) (h:w.heap[g]? =some o) (hne:b≠some g):w'.heap[g]? =some o:=by
 have hl:=(Array.getElem?_eq_some_iff.1 h).1
 rw [←h]
 exact hg.block g hl (fun e=>hne e.symm)
end
end Go.Proofs.YtblgfmjlajhipaaGreatDoor
