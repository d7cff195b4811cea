/- RateSums: contracts and the law's walk. Each theorem names its conditions. -/
import Derived.Deep.Slices
import Derived.Deep.Strs
import Derived.ChangeArms
import Derived.Test.YtblgfmjlajhipaaGreatDoorCards
import Derived.Test.YtblgfmjlajhipaaGreatDoorTie
import Derived.WalkKit
import Derived.ProofKit
import Derived.OpenShut
import Derived.LaidMore
import Derived.Deep.DeepHandedRow
import Derived.Deep.DeepWitnessRowRef
import Derived.Stop.LaidErr
import Derived.Below
import Derived.RangeFuncKeeps
import Derived.OwnWalkIn
import Derived.TacticsInMore
import Derived.LoopNIn
import Derived.LoopIn
import Derived.Shelf.SortM.Plain
import Derived.Shelf.SortM.SortNone
import Derived.Ground.GgzProg
import Derived.Ground.SlgmProg
import Derived.Maps.Own
import Derived.Maps.OwnOps
import Derived.Maps.OwnSet
import Derived.Maps.Views
import Derived.Shelf.SlIterI.Nil
import Derived.Deep.LoopGhost
import Derived.Deep.QuietTactic
import Derived.BigQuiet
import Derived.Test.YtblgfmjlajhipaaGreatDoorProg
import Derived.WalkSpells
import Derived.WalkLawsBesides
import Derived.IntWalk
import Derived.Lib.Hide
import Derived.Laws.BitsAllLaws
import Derived.StillTailTactics
import Derived.Deep.OwnRows
import Derived.Lib.ConvBytes
import Derived.RangeFuncNested
import Derived.RangeFuncCalls
import Derived.RangeFuncLeaves
import Derived.Shelf.Abstract
import Derived.Lib.LaidIn
import Derived.RegionTactic
import Derived.KernelRfl
import Derived.OrdersIn
import Derived.Shelf.Strings.Trim
import Derived.Shelf.Small.Utf8
import Derived.Shelf.Small.Bits
import Derived.Shelf.Small.Strs
import Derived.Shelf.Strconv.Itoa0
import Derived.Shelf.Strings.Search1
import Derived.Shelf.Strings.Runes
import Derived.Shelf.Strings.AsciiSet
import Derived.Shelf.Unicode.DecodeSlow
import Derived.Shelf.Unicode.DecodeAny
import Derived.Deep.DeepCutAuto
import Derived.Laws.AppendOwn
import Derived.Deep.DeepAppendWide
import Derived.Laws.AppendOwnNone
import Derived.Test.YtblgfmjlajhipaaGreatDoorZd4
import Derived.Test.YtblgfmjlajhipaaGreatDoorZb5
import Derived.Test.YtblgfmjlajhipaaGreatDoorZb4
import Derived.Test.YtblgfmjlajhipaaGreatDoorKsa0
import Derived.Test.YtblgfmjlajhipaaGreatDoorKsa1
import Derived.Test.YtblgfmjlajhipaaGreatDoorZd3
import Derived.Test.YtblgfmjlajhipaaGreatDoorZd2
import Derived.Test.YtblgfmjlajhipaaGreatDoorZd1
import Derived.Test.YtblgfmjlajhipaaGreatDoorZd0
import Derived.Test.YtblgfmjlajhipaaGreatDoorZc8
import Derived.Test.YtblgfmjlajhipaaGreatDoorZc7
import Derived.Test.YtblgfmjlajhipaaGreatDoorZc6
import Derived.Test.YtblgfmjlajhipaaGreatDoorZb7
import Derived.Test.YtblgfmjlajhipaaGreatDoorZa7
import Derived.Test.YtblgfmjlajhipaaGreatDoorZa6
import Derived.Test.YtblgfmjlajhipaaGreatDoorZa5
import Derived.Test.YtblgfmjlajhipaaGreatDoorZa4
import Derived.Test.YtblgfmjlajhipaaGreatDoorZa3
import Derived.Test.YtblgfmjlajhipaaGreatDoorZa0
import Derived.Test.YtblgfmjlajhipaaGreatDoorZa1
import Derived.Test.YtblgfmjlajhipaaGreatDoorZa2
import Derived.Test.YtblgfmjlajhipaaGreatDoorZb6
import Derived.Test.YtblgfmjlajhipaaGreatDoorZc5
import Derived.Test.YtblgfmjlajhipaaGreatDoorZc4
import Derived.Test.YtblgfmjlajhipaaGreatDoorZc3
import Derived.Test.YtblgfmjlajhipaaGreatDoorZc2
import Derived.Test.YtblgfmjlajhipaaGreatDoorZc1
import Derived.Test.YtblgfmjlajhipaaGreatDoorZc0
import Derived.Test.YtblgfmjlajhipaaGreatDoorZb9
import Derived.Test.YtblgfmjlajhipaaGreatDoorZb8
import Derived.Test.YtblgfmjlajhipaaGreatDoorZc9
import Derived.Test.YtblgfmjlajhipaaGreatDoorZb0
import Derived.Test.YtblgfmjlajhipaaGreatDoorZa9
import Derived.Test.YtblgfmjlajhipaaGreatDoorZa8
import Derived.Test.YtblgfmjlajhipaaGreatDoorZb3
import Derived.Test.YtblgfmjlajhipaaGreatDoorZb2
set_option maxHeartbeats 16000000
set_option linter.unusedVariables false
namespace Go.Proofs.YtblgfmjlajhipaaGreatDoor
open Go.ChangeShapes Go.WideShapes Go.ChangeAt Go.RowKit Go.Deep Go.Shelf
section
variable {H:Type} {enc:TypeId × Value→H} {W:World}
theorem bulk_part {d:DataW H} {l:List (DataW H)} (h:d ∈ l):Rows.uptoBulk d≤Rows.uptoBulkAll l:=by
 induction l with
 | nil=>cases h
 | cons x r ih =>
  simp only [Rows.uptoBulkAll];cases List.mem_cons.1 h with
  | inl e=>subst e;omega
  | inr e=>have:=ih e;omega
theorem take_val {cs:List Value} {i:Nat} {v:Value} (h:(cs.drop i).take 1=[v]):cs[i]? =some v:=by
 have:=congrArg (fun l=>l[0]?) h;simpa using this
theorem two_vals {cs:List Value} {a b:Value} (hl:cs.length=2) (h0:cs[0]? =some a) (h1:cs[1]? =some b):cs=[a,b]:=by
 match cs,hl with
 | [x,y],_=>simp at h0 h1;subst h0 h1;rfl
set_option maxRecDepth 100000 in
theorem trod_pair {n:Nat} {cs:List Value} {d:DataW H} {q:List MemPlace} (h:DataW.trod enc Tryz.prog W 0 (fun _=>true) true n 35 cs=some (d,q)) :
  ∃p:Int × Int,cs=[.int .i64 p.1,.int .i64 p.2]∧I64 p.1∧I64 p.2:=by
 obtain ⟨xs,m,-,-,hl,hxl,k⟩:=DataW.trod_array Tryz.underlying35 h;have c0:Tryz.prog.cellsOf 3=1:=by kernel_rfl
 have c2:Tryz.prog.cellsOf 35=2:=by kernel_rfl
 rw [c2] at hl;have key:∀i,i<2→∃z:Int,I64 z∧cs[i]? =some (.int .i64 z):=by
  intro i hi;have e:=k i hi;rw [c0,Nat.mul_one] at e;cases hy:xs[i]? with
  | none=>simp [hxl,hi] at hy
  | some y =>
   rw [hy] at e;obtain ⟨z,hz,-,hw⟩:=DataW.trod_int Tryz.underlying3 e;exact ⟨z,wf_rng hw,take_val hz⟩
 obtain ⟨x,x1,x2⟩:=key 0 (by decide);obtain ⟨y,y1,y2⟩:=key 1 (by decide);refine ⟨(x,y),?_,x1,y1⟩;exact two_vals hl x2 y2
theorem list_of {β:Type} {α:Type} (g:β→α) (Q:β→Prop) (f:Nat→α):∀k,(∀i,i<k→∃b,f i=g b∧Q b)→∃l:List β,l.map g=(List.range k).map f∧∀b ∈ l,Q b
 | 0,_=>⟨[],rfl,by simp⟩
 | k+1,h=>by
  obtain ⟨l,h1,h2⟩:=list_of g Q f k (fun i hi=>h i (by omega));obtain ⟨b,h3,h4⟩:=h k (by omega);refine ⟨l++[b],by rw [List.range_succ,List.map_append,List.map_append,h1,List.map_singleton,List.map_singleton,h3],fun x hx=> ?_⟩;rcases List.mem_append.1 hx with hx|hx
  ·exact h2 x hx
  ·rw [List.mem_singleton.1 hx];exact h4
theorem row_some {r:List Value} {c:Nat} (h:r.length=c) (h0:0<c):∃v,r[0]? =some v:=⟨r[0]'(by omega),List.getElem?_eq_getElem _⟩
set_option maxRecDepth 100000 in
theorem arg_rows {β:Type} {base:Nat} {t e:TypeId} {c m:Nat} {v:Value} {d:DataW H} {p:List MemPlace} (g:β→List Value) (Q:β→Nat→Prop) (hQ:∀b k k',Q b k→k≤k' →Q b k') (hg:∀b,(g b).length=c) (hc0:0<c)
  (ht:Tryz.prog.underlying t=some (.slice e)) (hc:Tryz.prog.cellsOf e=c)
  (hE:∀n cs d q,DataW.trod enc Tryz.prog W 0 (fun _=>true) true n e cs=some (d,q)→∃b,cs=g b∧Q b (Rows.uptoBulk d))
  (hval:Value.okWide Tryz.prog W .any base t v) (h:DataW.Trod enc Tryz.prog W 0 (fun _=>true) true t v d p) :
  ∃pp n cap,∃l:List β,v=.slice pp n cap∧CutC c m W v n (l.map g)∧∀b ∈ l,Q b (Rows.uptoBulk d):=by
 obtain ⟨a0,len0,cap0,rfl⟩:=okWide_slice ht hval;obtain ⟨fuel,hf⟩:=h;rcases open_slice ht hf with ⟨hx,hd⟩|⟨a,len,cap,mm,n,D,Pl,hx,hb,hl,hm,hmm,hd,hel⟩
 ·simp [Value.cells] at hx;obtain ⟨rfl,rfl,rfl⟩:=hx;exact ⟨_,_,_,[],rfl,⟨none,0,rfl,by omega,by omega,by simp,fun i h=>absurd h (by simp)⟩,by simp⟩
 ·simp [Value.cells] at hx;obtain ⟨rfl,rfl,rfl⟩:=hx;simp only [if_true] at hmm;subst hmm;simp only [Prod.mk.injEq] at hd;obtain ⟨rfl,-⟩:=hd;rw [hc] at hel;have hcc:∀i,i<len0→∃b,W.cells? 0 (a.add (i*c)) c=some (g b)∧Q b (Rows.uptoBulk (.slice ((List.range len0).map D) ((List.range (mm-len0)).map fun j=>D (len0+j)))):=by
   intro i hi;obtain ⟨cs,h1,h2⟩:=hel i (by omega);obtain ⟨b,rfl,hq⟩:=hE _ _ _ _ h2;refine ⟨b,h1,hQ _ _ _ hq ?_⟩;have:=bulk_part (d:=D i) (l:=(List.range len0).map D) (List.mem_map.2 ⟨i,List.mem_range.2 hi,rfl⟩);simp only [Rows.uptoBulk];omega
  obtain ⟨l,h1,h2⟩:=list_of (fun b:β=>some (g b)) (fun b=>Q b (Rows.uptoBulk (.slice ((List.range len0).map D) ((List.range (mm-len0)).map fun j=>D (len0+j))))) (fun i=>W.cells? 0 (a.add (i*c)) c) (min len0 m) (fun i hi=>by
   obtain ⟨b,k1,k2⟩:=hcc i (by omega);exact ⟨b,k1,k2⟩)
  have hll:l.length=min len0 m:=by have:=congrArg List.length h1;simpa using this
  refine ⟨_,_,_,l,rfl,⟨some a,mm,rfl,by omega,by unfold maxLen at hm;omega,by rw [List.length_map];exact hll,fun i hi=> ?_⟩,h2⟩;rw [List.length_map] at hi;have eA:∀i (hi:i<l.length),W.cells? 0 (a.add (i*c)) c=some (g l[i]):=fun i hi=>by
   have:=congrArg (fun z=>z[i]?) h1;simp only [List.getElem?_map,List.getElem?_eq_getElem hi,Option.map_some,List.getElem?_range (by omega:i<min len0 m)] at this;exact (Option.some.inj this).symm
  have e1:=eA i hi;have e0:=eA 0 (by omega);obtain ⟨-,-,hcell0⟩:=World.cells?_some e0;obtain ⟨-,-,hcell⟩:=World.cells?_some e1;obtain ⟨g0,off,spot⟩:=a;have k0:=hcell 0 hc0;have hspot:spot=none:=by
   have k9:=hcell0 0 hc0;obtain ⟨v0,hv0⟩:∃v0,(g (l[0]'(by omega)))[0]? =some v0:=row_some (hg _) hc0;rw [hv0] at k9;have:=World.cell?_spot k9;simpa [Addr.add] using this
  subst hspot;have hadd:∀a b:Nat,(⟨g0,a,none⟩:Addr).add b=⟨g0,a+b,none⟩:=fun a b=>Addr.add_lit ..
  simp only [hadd] at hcell k0;refine ⟨g0,off,rfl,?_,fun j u hu=> ?_⟩
  ·obtain ⟨v0,hv0⟩:∃v0,(g l[i])[0]? =some v0:=row_some (hg _) hc0;rw [hv0] at k0;rcases Nat.lt_or_ge g0 W.heap.size with hlt|hlt
   ·exact hlt
   ·simp [World.cell?,Array.getElem?_eq_none hlt] at k0
  ·rw [List.getElem_map] at hu;have hj:j<c:=by
    rcases Nat.lt_or_ge j c with h|h
    ·exact h
    ·rw [List.getElem?_eq_none (by rw [hg];exact h)] at hu;cases hu
   rw [hcell j hj,hu]
section
variable {base:Nat} {v:Value} {d:DataW H} {p:List MemPlace} {m:Nat}
set_option maxRecDepth 100000 in
theorem arg_pairs (hval:Value.okWide Tryz.prog W .any base 57 v) (h:DataW.Trod enc Tryz.prog W 0 (fun _=>true) true 57 v d p) :
  ∃pp n cap,∃l:List (Int × Int),v=.slice pp n cap∧CutC 2 m W v n (l.map fun p=>[.int .i64 p.1,.int .i64 p.2])∧∀b ∈ l,I64 b.1∧I64 b.2 :=
 arg_rows (c:=2) (fun p:Int × Int=>[.int .i64 p.1,.int .i64 p.2]) (fun b _=>I64 b.1∧I64 b.2) (fun _ _ _ h _=>h) (fun _=>rfl) (by decide) Tryz.underlying57 (by kernel_rfl) (fun _ _ _ _ h=>trod_pair h) hval h
theorem SzD.mono {l:List Dk} {k j:Nat} (h:SzD l k) (hk:k≤j):SzD l j:=fun b hb=>⟨Nat.le_trans (h b hb).1 hk,Nat.le_trans (h b hb).2 hk⟩
theorem SzK.mono {l:List Bk} {k j:Nat} (h:SzK l k) (hk:k≤j):SzK l j:=fun b hb=>by have:=h b hb;unfold Sz4 at *;omega
end
end
end Go.Proofs.YtblgfmjlajhipaaGreatDoor
namespace Go.Proofs.YtblgfmjlajhipaaGreatDoor
open Go.RowKit Go.Shelf
open Dgt
theorem days_fit (q:List (Int × Int)):SzD ((daysD q).map rawD) 1100000:=fun d hd=>by
 obtain ⟨e,he,rfl⟩:=List.mem_map.1 hd;obtain ⟨p,-,rfl⟩:=List.mem_map.1 he;have hb0:=Int.emod_nonneg p.2 (show (6:Int)≠0 by decide);have hb1:=Int.emod_lt_of_pos p.2 (show (0:Int)<6 by decide);exact rawR_sz ((quoR_sz (ofR_sz (n:=p.2%6-1) (by omega) (by omega)) (ofR_sz (n:=1000) (by decide) (by decide))).mono (by decide))
end Go.Proofs.YtblgfmjlajhipaaGreatDoor
namespace Go.Proofs.YtblgfmjlajhipaaGreatDoor
open Go.RowKit Go.Shelf Go.Maps
open Dgt
def sumN (g:List DR) (fr:Int):Nat→Rt
 | 0=>ofR 0
 | k+1=>addR (sumN g fr k) (onT g (fr+k))
theorem onT_in {g:List DR} (hg:Gr g) {d:Int} (h:d≤3652058):onT g d=onL (normG g) zeroR d:=by
 unfold onT;rw [if_neg (by omega),on_eq g d hg.pos]
theorem sumN_q {g:List DR} (hg:Gr g) (fr:Int):∀k:Nat,fr+k≤3652059→(sumN g fr k).Ok∧(sumN g fr k).q=sumOn (normG g) fr k
 | 0,_=>⟨ofR_ok 0,by show (ofR 0).q=0;rw [q_of];rfl⟩
 | k+1,h=>by
  obtain ⟨h1,h2⟩:=sumN_q hg fr k (by omega);have h3:=(onT_ok hg (fr+k)).1;refine ⟨addR_ok h1 h3,?_⟩;show (addR (sumN g fr k) (onT g (fr+k))).q=sumOn (normG g) fr k+(onL (normG g) zeroR (fr+k)).q;rw [q_add h1 h3,h2,onT_in hg (by omega)]
theorem sumN_over {g:List DR} (hg:Gr g) (fr:Int) (k:Nat) (h:fr+k≤3652059):sumN g fr k=overT (normG g) fr (fr+k):=by
 have h1:=sumN_q hg fr k h;have h2:=@over_q _ fr (fr+k) (norm_gr hg);refine q_inj h1.1 h2.1 ?_;rw [h1.2,h2.2,over_sum (normG_chg g hg.pos)]
theorem over_two {g:List DR} (hg:Gr g) (fr:Int) (j k:Nat):addR (overT (normG g) fr (fr+j)) (overT (normG g) (fr+j) (fr+j+k))=overT (normG g) fr (fr+j+k):=by
 have h1:=@over_q _ fr (fr+j) (norm_gr hg);have h2:=@over_q _ (fr+j) (fr+j+k) (norm_gr hg);have h3:=@over_q _ fr (fr+j+k) (norm_gr hg);refine q_inj (addR_ok h1.1 h2.1) h3.1 ?_;rw [q_add h1.1 h2.1,h1.2,h2.2,h3.2,over_parts (normG_chg g hg.pos)]
theorem sumN_sz {g:List DR} (hg:Gr g) (fr:Int):∀k:Nat,Rz (sumN g fr k) (8+51*k)
 | 0=>(ofR_sz (n:=0) (by decide) (by decide)).mono (by decide)
 | k+1=>(addR_sz (sumN_sz hg fr k) (fitT_sz (onT_ok hg (fr+k)).2)).mono (by omega)
theorem pow_big {n k:Nat} (h:n<2^20) (hk:20≤k):n<2^k:=Nat.lt_of_lt_of_le h (Nat.pow_le_pow_right (by decide) hk)
theorem fit_gd {a:Rt} {D c:Nat} (ha:a.Ok) (hD:0<D) (h:Gd D (c:Rat) a.q) (h1:D<2^20) (h2:c*D<2^20):fitT a=true :=
 gd_fit ha hD h ((fun K (hK:20≤K)=>pow_big h1 hK:∀K,20≤K→D<2^K) 400 (by decide)) ((fun K (hK:20≤K)=>pow_big h2 hK:∀K,20≤K→c*D<2^K) 400 (by decide))
theorem gd_day (p:Int × Int):Gd 1000 5 (dayOf p).2.q:=by
 have hb0:=Int.emod_nonneg p.2 (show (6:Int)≠0 by decide);have hb1:=Int.emod_lt_of_pos p.2 (show (0:Int)<6 by decide);obtain ⟨n,hn⟩:∃n,p.2%6-1=n:=⟨_,rfl⟩;have h1: -1≤n:=by omega
 have h2:n≤4:=by omega
 have e:(dayOf p).2.q=(n:Rat)/1000:=by
  unfold dayOf fracT;rw [hn,q_quo (ofR_ok n) (ofR_ok 1000) (of_num (by decide)),q_of,q_of];rfl
 have h3:((-1:Int):Rat)≤(n:Rat):=by exact_mod_cast h1
 rw [show ((-1:Int):Rat)= -1 from rfl] at h3;have h4:(n:Rat)≤4:=by exact_mod_cast h2
 rw [e];exact ⟨⟨n,by grind⟩,by grind,by grind⟩
theorem day_ok (p:Int × Int):(dayOf p).2.Ok:=by
 unfold dayOf fracT;exact quoR_ok (ofR_ok _) (by decide)
theorem days_gr (q:List (Int × Int)):Gr (daysD q):=by
 have key:∀e ∈ daysD q,∃p,e=dayOf p:=fun e he=>by
  obtain ⟨p,-,rfl⟩:=List.mem_map.1 he;exact ⟨p,rfl⟩
 refine ⟨fun e he=> ?_,fun e he=> ?_,fun e he=> ?_⟩<;>obtain ⟨p,rfl⟩:=key e he
 ·have h0:=Int.emod_nonneg p.1 (show (50:Int)≠0 by decide);have h1:=Int.emod_lt_of_pos p.1 (show (0:Int)<50 by decide);show 0≤730000+p.1%50∧730000+p.1%50≤3652058;omega
 ·exact day_ok p
 ·exact fit_gd (D:=1000) (c:=5) (day_ok p) (by decide) (by exact_mod_cast gd_day p) (by decide) (by decide)
theorem gd_on (q:List (Int × Int)) (d:Int):Gd 1000 5 (onT (daysD q) d).q:=by
 have hz:Gd 1000 5 (zeroR).q:=by rw [q_zero];exact Gd.zero 1000 (by decide)
 have hr:∀d,Gd 1000 5 (rateOf (daysD q) d).q:=fun d=>by
  rcases rateOf_mem d (g:=daysD q) with e|⟨e,he,-,e2⟩
  ·rw [e];exact hz
  ·rw [e2];obtain ⟨p,-,rfl⟩:=List.mem_map.1 he;exact gd_day p
 unfold onT;split
 ·rw [of_zero];exact hz
 ·rcases onF_spec (daysD q) d (days_gr q).pos with ⟨h1,-⟩|⟨-,-,h3,-⟩
  ·rw [h1];exact hz
  ·rw [h3];exact hr _
theorem gd_sum (q:List (Int × Int)) (fr:Int):∀k:Nat,fr+k≤3652059→Gd 1000 ((5*k:Nat):Rat) (sumN (daysD q) fr k).q
 | 0,_=>by show Gd 1000 _ (ofR 0).q;rw [q_of];exact Gd.zero 1000 (by simp)
 | k+1,h=>by
  show Gd 1000 _ (addR (sumN (daysD q) fr k) (onT (daysD q) (fr+k))).q;rw [q_add (sumN_q (days_gr q) fr k (by omega)).1 (onT_ok (days_gr q) _).1];have:=(gd_sum q fr k (by omega)).add (gd_on q (fr+k));refine this.bound ?_;simp;grind
theorem fit_sum (q:List (Int × Int)) (fr:Int) (k:Nat) (h:fr+k≤3652059) (hk:k≤200):fitT (overT (normG (daysD q)) fr (fr+k))=true:=by
 rw [←sumN_over (days_gr q) fr k h];refine fit_gd (D:=1000) (c:=5*k) (sumN_q (days_gr q) fr k h).1 (by decide) (gd_sum q fr k h) (by decide) ?_;exact Nat.lt_of_le_of_lt (Nat.mul_le_mul_right 1000 (show 5*k≤1000 by omega)) (by decide)
end Go.Proofs.YtblgfmjlajhipaaGreatDoor
