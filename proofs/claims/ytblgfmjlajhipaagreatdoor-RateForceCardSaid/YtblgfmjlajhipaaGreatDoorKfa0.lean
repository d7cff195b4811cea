/- RateForce: contracts and the law's walk. Each theorem names its conditions. -/
import Derived.Deep.LoopGhost
import Derived.Deep.QuietTactic
import Derived.BigQuiet
import Derived.Test.YtblgfmjlajhipaaGreatDoorProg
import Derived.WalkKit
import Derived.WalkSpells
import Derived.WalkLawsBesides
import Derived.IntWalk
import Derived.Lib.Hide
import Derived.Laws.BitsAllLaws
import Derived.StillTailTactics
import Derived.Deep.OwnRows
import Derived.Lib.ConvBytes
import Derived.Below
import Derived.RangeFuncNested
import Derived.RangeFuncCalls
import Derived.RangeFuncLeaves
import Derived.Shelf.Abstract
import Derived.Lib.LaidIn
import Derived.RegionTactic
import Derived.KernelRfl
import Derived.OrdersIn
import Derived.Shelf.Strings.Trim
import Derived.Shelf.Small.Utf8
import Derived.Shelf.Small.Bits
import Derived.Shelf.Small.Strs
import Derived.Shelf.Strconv.Itoa0
import Derived.Shelf.Strings.Search1
import Derived.Shelf.Strings.Runes
import Derived.Shelf.Strings.AsciiSet
import Derived.Shelf.Unicode.DecodeSlow
import Derived.Shelf.Unicode.DecodeAny
import Derived.Ground.SlgmProg
import Derived.Shelf.SortM.Plain
import Derived.Shelf.SortM.SortNone
import Derived.Laws.AppendOwnNone
import Derived.OwnWalk
import Derived.Laws.AppendOwn
import Derived.Lib.IndexBytes
import Derived.Test.YtblgfmjlajhipaaGreatDoorRows
import Derived.ProofKit
import Derived.OpenShut
import Derived.ChangeSame
import Derived.Test.YtblgfmjlajhipaaGreatDoorZb4
import Derived.Test.YtblgfmjlajhipaaGreatDoorZb0
import Derived.Test.YtblgfmjlajhipaaGreatDoorZa9
import Derived.Test.YtblgfmjlajhipaaGreatDoorZa8
import Derived.Test.YtblgfmjlajhipaaGreatDoorZa7
import Derived.Test.YtblgfmjlajhipaaGreatDoorZa6
import Derived.Test.YtblgfmjlajhipaaGreatDoorZa5
import Derived.Test.YtblgfmjlajhipaaGreatDoorZa4
import Derived.Test.YtblgfmjlajhipaaGreatDoorZa3
import Derived.Test.YtblgfmjlajhipaaGreatDoorZa0
import Derived.Test.YtblgfmjlajhipaaGreatDoorZa1
import Derived.Test.YtblgfmjlajhipaaGreatDoorZa2
import Derived.Test.YtblgfmjlajhipaaGreatDoorZb3
import Derived.Test.YtblgfmjlajhipaaGreatDoorZb2
import Derived.Test.YtblgfmjlajhipaaGreatDoorZb1
import Derived.Test.YtblgfmjlajhipaaGreatDoorZb5
import Derived.Test.YtblgfmjlajhipaaGreatDoorZb6
set_option maxHeartbeats 16000000
set_option linter.unusedVariables false
namespace Go.Proofs.YtblgfmjlajhipaaGreatDoor
open Go.RowKit Go.Shelf
open Dgt
theorem tmod_lt0 {a m:Int} (hm:0<m) (h:a.tmod m<0):a.tmod m+m=a%m:=by
 have h1:=Int.tmod_add_mul_tdiv a m;have h2:=Int.emod_add_mul_ediv a m;have h3:=Int.emod_nonneg a (show m≠0 by omega);have h4:=Int.emod_lt_of_pos a hm;have h5:=Int.tmod_lt_of_pos a hm;have h6: -m<a.tmod m:=by
  have:=Int.lt_tmod_of_pos a hm;omega
 have h7:m*(a.tdiv m-a/m)=a%m-a.tmod m:=by rw [Int.mul_sub];omega
 have h8:a.tdiv m-a/m=1:=by
  rcases Int.lt_trichotomy (a.tdiv m-a/m) 1 with h|h|h
  ·have:m*(a.tdiv m-a/m)≤m*0:=Int.mul_le_mul_of_nonneg_left (by omega) (by omega);omega
  ·exact h
  ·have:m*2≤m*(a.tdiv m-a/m):=Int.mul_le_mul_of_nonneg_left (by omega) (by omega);omega
 rw [h8] at h7;omega
theorem tmod_ge0 {a m:Int} (hm:0<m) (h:¬a.tmod m<0):a.tmod m=a%m:=by
 have h1:=Int.tmod_add_mul_tdiv a m;have h2:=Int.emod_add_mul_ediv a m;have h3:=Int.emod_nonneg a (show m≠0 by omega);have h4:=Int.emod_lt_of_pos a hm;have h5:=Int.tmod_lt_of_pos a hm;have h7:m*(a.tdiv m-a/m)=a%m-a.tmod m:=by rw [Int.mul_sub];omega
 have h8:a.tdiv m-a/m=0:=by
  rcases Int.lt_trichotomy (a.tdiv m-a/m) 0 with h|h|h
  ·have:m*(a.tdiv m-a/m)≤m*(-1):=Int.mul_le_mul_of_nonneg_left (by omega) (by omega);omega
  ·exact h
  ·have:m*1≤m*(a.tdiv m-a/m):=Int.mul_le_mul_of_nonneg_left (by omega) (by omega);omega
 rw [h8] at h7;omega
theorem Mod_any (a m:Int) (w:World) (ha: -9223372036854775808≤a) (ha2:a≤9223372036854775807) (hm:0<m) (hm2:m≤4611686018427387904) :
  Calls Tryz.prog 18 #[.int .i64 a,.int .i64 m] w fun e w' =>∃r:Nat,e=.returned (.int .i64 (r:Int))∧(r:Int)=a%m∧(r:Int)<m∧w=w' :=by
 obtain ⟨t,ht⟩:∃t,a.tmod m=t:=⟨_,rfl⟩;have h5:=Int.tmod_lt_of_pos a hm;have h6:=Int.lt_tmod_of_pos a hm;have h4:=Int.emod_lt_of_pos a hm;have h3:=Int.emod_nonneg a (show m≠0 by omega);rw [ht] at h5 h6;obtain ⟨r,hr⟩:∃r:Nat,a%m=(r:Int):=⟨(a%m).toNat,by omega⟩;have q0:¬m=0:=by omega
 have q1:IntKind.i64.wrap t=t:=IntWalk.i64_in _ (by omega)
 by_cases h:t<0
 ·have hq:=tmod_lt0 hm (by rw [ht];exact h);rw [ht,hr] at hq;have q2:IntKind.i64.wrap (t+m)=(r:Int):=by rw [hq];exact IntWalk.i64_in _ (by omega)
  have HR:Hid ((r:Int)=a%m∧(r:Int)<m):=hD ⟨hr.symm,by omega⟩;clear h3 h4 h5 h6 hr ha ha2;go_enter Tryz.func18,Tryz.ntmps18;go_wp2_with fail;go_ret;exact ⟨r,by first|rfl|(simp [hq]),HR.out.1,HR.out.2,rfl⟩
 ·have hq:=tmod_ge0 hm (by rw [ht];exact h);rw [ht,hr] at hq;have HR:Hid ((r:Int)=a%m∧(r:Int)<m):=hD ⟨hr.symm,by omega⟩;clear h3 h4 h5 h6 hr ha ha2;go_enter Tryz.func18,Tryz.ntmps18;go_wp2_with fail;go_ret;exact ⟨r,by first|rfl|(simp [hq]),HR.out.1,HR.out.2,rfl⟩
end Go.Proofs.YtblgfmjlajhipaaGreatDoor
namespace Go.Proofs.YtblgfmjlajhipaaGreatDoor
open Go.ChangeShapes Go.WideShapes Go.ChangeAt Go.RowKit
section
variable {H:Type} {enc:TypeId × Value→H} {P:Program}
theorem post_of_below {f:Func} {s:ChangeSpec} {apart fresh handsOn again:Bool} {W W' :World} {args:Array Value} {v:Value} {ds gs:List (DataW H)} {before pa pv:List MemPlace}
  (hW:DataW.Whole enc P f.params.toList s.vars apart W args.toList ds gs before)
  (hres:∀(b:Nat) (sp:Nat→Bool) (hd:Bool),DataW.TrodAll enc P W' b sp hd f.resultTypes.toList (v.resultList f.resultTypes.size) (s.fn H (ds++gs)).results [])
  (hargs:∀sp:Nat→Bool,(∀p ∈ before,sp p.block=true)→DataW.TrodAll enc P W' 0 sp true f.params.toList args.toList (s.fn H (ds++gs)).args pa)
  (hvars:∀sp:Nat→Bool,(∀p ∈ before,sp p.block=true)→DataW.TrodVars enc P W' sp s.vars (s.fn H (ds++gs)).vars pv)
  (hps:before=pa++pv) (hb:Below W.heap.size W W')
  (hok:∀(j:Nat) (t:TypeId) (r:Value),f.resultTypes[j]? =some t→(v.resultList f.resultTypes.size)[j]? =some r→Value.okWide P W' .any 0 t r) :
  s.post enc P f apart fresh handsOn again W args v W' :=by
 have hlt:∀p ∈ before,p.block<W.heap.size:=fun p hp=>hW.lt p hp
 have hold:∀p ∈ before,(fun b=>decide (b<W.heap.size)) p.block=true:=fun p hp=>by simpa using hlt p hp
 refine ⟨ds,gs,before,[],pa,pv,hW,hres _ _ _,hargs _ hold,hvars _ hold,World.keptBut_mono (fun p hp=>⟨hp,?_⟩) (hb.frame (· ∈ before)),fun _=> ?_⟩
 ·rw [hps,List.mem_append] at hp
  exact Or.inr hp
 ·obtain ⟨_,_,_,_,_,hz,hn⟩:=hW
  refine ⟨hok,_,_,([]++pa)++pv,⟨[]++pa,pv,trodAll_append (hargs _ (fun _ _=>rfl)) (hres _ _ _),hvars _ (fun _ _=>rfl),rfl,?_,?_⟩,?_⟩
  ·intro b off hp
   have hin:MemPlace.cell b off ∈ before:=by rw [hps];simpa using hp
   rw [hb.frozen (hlt _ hin)]
   exact hz b off hin
  ·intro ha
   have:=hn ha
   rw [hps] at this
   simpa using this
  ·intro p hp _
   rw [hps]
   simpa using hp
end
section
variable {H:Type} {enc:TypeId × Value→H} {P:Program} {w:World} {base b0:Nat} {sp:Nat→Bool} {held:Bool} {r:Reach}
theorem mapM_all {α β:Type} (f:α→Option β) (g:α→β):∀(l:List α),(∀i ∈ l,f i=some (g i))→l.mapM f=some (l.map g)
 | [],_=>rfl
 | a::l,h=>by
  rw [List.mapM_cons,h a (by simp),mapM_all f g l (fun i hi=>h i (by simp [hi]))]
  rfl
theorem take_one {α:Type} (l:List α) (i:Nat) (h:i<l.length):(l.drop i).take 1=[l[i]]:=by
 rw [List.drop_eq_getElem_cons h];rfl
theorem list2 {α:Type} (l:List α) (h:l.length=2):∃a b,l=[a,b]:=by
 match l,h with
 | [a,b],_=>exact ⟨a,b,rfl⟩
theorem open_ints {n:Nat} {k:IntKind} {t e:TypeId} {v:Value} {d:DataW H} {p:List MemPlace} (ht:P.underlying t=some (.array n e)) (he:P.underlying e=some (.int k)) (hce:P.cellsOf e=1) (hct:P.cellsOf t=n)
  (hval:Value.okWide P w r b0 t v) (h0:DataW.Trod enc P w base sp held t v d p) :
  ∃xs:List Int,xs.length=n∧v=.agg (xs.map (Value.int k)).toArray∧d=.agg (xs.map fun x=>.lit (.int k x))∧p=[]∧∀x ∈ xs,(Lit.int k x).wf=true:=by
 obtain ⟨cs,rfl,hsz⟩:∃cs,v=.agg cs∧cs.size=P.cellsOf t:=by
  cases v<;>simp [Value.okWide,ht] at hval
  exact ⟨_,rfl,hval.1⟩
 rw [hct] at hsz
 obtain ⟨fuel,hf⟩:=h0
 obtain ⟨ys,m,-,hx,-,hyl,hall⟩:=DataW.trod_array ht hf
 have hlen:(Value.agg cs).cells.toList.length=n:=by simpa [Value.cells] using hsz
 have hone:∀i,i<n→∃z:Int,(∃h:i<cs.toList.length,cs.toList[i]=.int k z)∧ys[i]? =some (.lit (.int k z),[])∧(Lit.int k z).wf=true:=by
  intro i hi
  have h1:=hall i hi
  have hil:i<cs.toList.length:=by simpa using hsz ▸ hi
  rw [hce,Nat.mul_one] at h1
  rw [show (Value.agg cs).cells.toList=cs.toList from rfl,take_one _ _ hil] at h1
  cases hy:ys[i]? with
  | none=>simp [hyl,hi] at hy
  | some y =>
   rw [hy] at h1
   obtain ⟨z,hz,hyz,hw⟩:=DataW.trod_int he h1
   exact ⟨z,⟨hil,by simpa using hz⟩,by rw [hyz],hw⟩
 obtain ⟨f,hfz⟩:∃f:Nat→Int,∀i,i<n→(∃h:i<cs.toList.length,cs.toList[i]=.int k (f i))∧ys[i]? =some (.lit (.int k (f i)),[])∧(Lit.int k (f i)).wf=true :=
  ⟨fun i=>if h:i<n then (hone i h).choose else 0,fun i hi=>by simp only [hi,dif_pos];exact (hone i hi).choose_spec⟩
 have e1:cs.toList=((List.range n).map f).map (Value.int k):=by
  refine List.ext_getElem (by simp [hsz]) fun i h1 h2=> ?_
  have hi:i<n:=by simpa using h2
  simp only [List.getElem_map,List.getElem_range]
  exact (hfz i hi).1.2
 have e2:ys=((List.range n).map f).map fun x=>(.lit (.int k x),[]):=by
  refine List.ext_getElem? fun i=> ?_
  by_cases hi:i<n
  ·rw [(hfz i hi).2.1];simp [hi]
  ·simp [hi,hyl]
 refine ⟨(List.range n).map f,by simp,?_,?_,?_,?_⟩
 ·rw [←e1]
 ·rw [Prod.mk.injEq] at hx
  rw [hx.1,e2];simp [List.map_map,Function.comp_def]
 ·rw [Prod.mk.injEq] at hx
  rw [hx.2,e2];simp
 ·intro x hx
  obtain ⟨i,hi,rfl⟩:=List.mem_map.1 hx
  exact (hfz i (by simpa using hi)).2.2
theorem shut_ints {n:Nat} {k:IntKind} {t e:TypeId} (ht:P.underlying t=some (.array n e)) (he:P.underlying e=some (.int k)) (hce:P.cellsOf e=1) (hct:P.cellsOf t=n) {xs:List Int} (hl:xs.length=n)
  (hw:∀x ∈ xs,(Lit.int k x).wf=true):DataW.Trod enc P w base sp held t (.agg (xs.map (Value.int k)).toArray) (.agg (xs.map fun x=>.lit (.int k x))) []:=by
 refine ⟨2,?_⟩
 have hm:((List.range n).mapM fun i=>DataW.trod enc P w base sp held 1 e (((xs.map (Value.int k)).drop (i*P.cellsOf e)).take (P.cellsOf e)))=some ((List.range n).map fun i=>((.lit (.int k (xs.getD i 0)):DataW H),([]:List MemPlace))):=by
  refine mapM_all _ _ _ fun i hi=> ?_
  have hi' :i<xs.length:=by rw [hl];simpa using hi
  rw [hce,Nat.mul_one,take_one _ _ (by simpa using hi')]
  simp [DataW.trod,he,hi',hw _ (List.getElem_mem hi')]
 have hm2:(List.range n).map (fun i=>((.lit (.int k (xs.getD i 0)):DataW H),([]:List MemPlace)))=xs.map fun x=>(.lit (.int k x),[]):=by
  refine List.ext_getElem (by simp [hl]) fun i h1 h2=> ?_
  have:i<xs.length:=by simpa using h2
  simp [this]
 rw [hm2] at hm
 show DataW.trod enc P w base sp held 2 t (xs.map (Value.int k))=_
 unfold DataW.trod
 rw [ht]
 split<;>simp_all [List.map_map,Function.comp_def]
end
end Go.Proofs.YtblgfmjlajhipaaGreatDoor
namespace Go.Proofs.YtblgfmjlajhipaaGreatDoor
open Go.RowKit Go.Shelf
open Dgt
theorem flat_len {n:Nat}:∀{l:List (List Value)},(∀r ∈ l,r.length=n)→l.flatten.length=l.length*n
 | [],_=>by simp
 | r::t,hn=>by
  rw [List.flatten_cons,List.length_append,hn r (by simp),flat_len (fun r hr=>hn r (by simp [hr])),List.length_cons,Nat.add_mul];omega
theorem LstC.cut {n:Nat} {W:World} {p:Option Addr} {len cap:Nat} {l:List (List Value)} (h:LstC n W (.slice p len cap) l) (m:Nat) (hm:m≤l.length):LstC n W (.slice p m cap) (l.take m):=by
 obtain ⟨p',cap',h1,h2,h3,h4⟩:=h;simp only [Value.slice.injEq] at h1;obtain ⟨rfl,rfl,rfl⟩:=h1;have hl:(l.take m).length=m:=by rw [List.length_take];omega
 refine ⟨p,cap,by rw [hl],by omega,by omega,fun i hi=> ?_⟩;obtain ⟨g,off,k1,k2,k3⟩:=h4 i (by omega);exact ⟨g,off,k1,k2,fun j u hu=>k3 j u (by rw [List.getElem_take] at hu;exact hu)⟩
end Go.Proofs.YtblgfmjlajhipaaGreatDoor
namespace Go.Proofs.YtblgfmjlajhipaaGreatDoor
open Go.RowKit Go.Shelf
def CutC (c m:Nat) (W:World) (v:Value) (n:Nat) (l:List (List Value)):Prop :=
 ∃p cap,v=.slice p n cap∧n≤cap∧n≤9223372036854775807∧l.length=min n m∧∀i (h:i<l.length),∃g off,p=some ⟨g,off,none⟩∧g<W.heap.size∧∀j u,l[i][j]? =some u→W.cell? ⟨g,off+i*c+j,none⟩=some u
theorem CutC.cut {c m:Nat} {W:World} {p:Option Addr} {n cap:Nat} {l:List (List Value)} (h:CutC c m W (.slice p n cap) n l) (hm:m≤1000):LstC c W (.slice p l.length cap) l:=by
 obtain ⟨p',cap',h1,h2,h3,h4,h5⟩:=h;simp only [Value.slice.injEq] at h1;obtain ⟨rfl,-,rfl⟩:=h1;exact ⟨p,cap,rfl,by omega,by omega,h5⟩
theorem CutC.up {c m:Nat} {A W:World} {v:Value} {n:Nat} {l:List (List Value)} (h:CutC c m A v n l) (hb:Below A.heap.size A W):CutC c m W v n l:=by
 obtain ⟨p,cap,h1,h2,h3,h4,h5⟩:=h;refine ⟨p,cap,h1,h2,h3,h4,fun i hi=> ?_⟩;obtain ⟨g,off,k1,k2,k3⟩:=h5 i hi;exact ⟨g,off,k1,Nat.lt_of_lt_of_le k2 hb.size,fun j u hu=>by rw [clU hb k2];exact k3 j u hu⟩
end Go.Proofs.YtblgfmjlajhipaaGreatDoor
namespace Go.Proofs.YtblgfmjlajhipaaGreatDoor
open Go.RowKit Go.Shelf
open Dgt
theorem q_quo {a b:Rt} (ha:a.Ok) (hb:b.Ok) (h:b.num≠0):(quoR a b).q=a.q/b.q:=by
 have hq:b.q≠0:=fun e=>h ((q_eq_zero hb).1 e)
 have e:(quoR a b).q*b.q=a.q:=by
  unfold quoR;rw [q_low _ (Nat.mul_pos ha.pos (by omega))];unfold Rt.q;rw [Rat.mkRat_mul_mkRat,iv_mul];have:iv (((a.neg != b.neg)) != b.neg) (a.num*b.den*b.num)=iv a.neg a.num*((b.num*b.den:Nat):Int):=by
   unfold iv;cases a.neg<;>cases b.neg<;>simp<;>grind
  rw [this];rw [show a.den*b.num*b.den=a.den*(b.num*b.den) by rw [Nat.mul_assoc]];exact Rat.mkRat_mul_right (by have:=Nat.mul_pos (show 0<b.num by omega) hb.pos;omega)
 rw [←e,Rat.mul_div_cancel hq]
theorem up_ext:∀{l m:List Int},Up l→Up m→(∀x,x ∈ l↔x ∈ m)→l=m
 | [],[],_,_,_=>rfl
 | [],y::t,_,_,h=>by have:=(h y).2 (by simp);simp at this
 | x::t,[],_,_,h=>by have:=(h x).1 (by simp);simp at this
 | x::t,y::u,.cons hx ht,.cons hy hu,h=>by
  have e:x=y:=by
   rcases List.mem_cons.1 ((h x).1 (by simp)) with e|e
   ·exact e
   ·rcases List.mem_cons.1 ((h y).2 (by simp)) with e2|e2
    ·exact e2.symm
    ·have:=hx y e2;have:=hy x e;omega
  subst e
  congr 1
  refine up_ext ht hu fun z=> ?_
  constructor
  ·intro hz;rcases List.mem_cons.1 ((h z).1 (List.mem_cons_of_mem _ hz)) with e|e
   ·have:=hx z hz;omega
   ·exact e
  ·intro hz;rcases List.mem_cons.1 ((h z).2 (List.mem_cons_of_mem _ hz)) with e|e
   ·have:=hy z hz;omega
   ·exact e
theorem rateOf_cons_ne {e:DR} {t:List DR} {d:Int} (h:∀x ∈ t,x.1≠d) (s:Rt):t.foldl (fun s e=>if e.1=d then e.2 else s) s=s:=by
 induction t generalizing s with
 | nil=>rfl
 | cons x u ih=>rw [List.foldl_cons,if_neg (h x (by simp))];exact ih (fun y hy=>h y (List.mem_cons_of_mem _ hy)) s
theorem rateOf_chg {n:List DR} {last:Rt} {d:Int} (h:Chg n last d) {e:DR} (he:e ∈ n):∀s:Rt,n.foldl (fun s x=>if x.1=e.1 then x.2 else s) s=e.2:=by
 induction h with
 | nil=>simp at he
 | @cons y t last d h1 h2 h3 ih =>
  intro s;rw [List.foldl_cons];rcases List.mem_cons.1 he with rfl|he
  ·rw [if_pos rfl];exact rateOf_cons_ne (e:=e) (fun x hx=>by have:=h3.lt x hx;omega) _
  ·exact ih he _
theorem daysOf_chg {n:List DR} {last:Rt} {d:Int} (h:Chg n last d):daysOf n=n.map (·.1):=by
 refine up_ext (days_up n) ?_ (fun x=>by rw [mem_days,List.mem_map])
 induction h with
 | nil=>exact .nil
 | cons h1 h2 h3 ih=>exact .cons (fun y hy=>by obtain ⟨e,he,rfl⟩:=List.mem_map.1 hy;exact h3.lt e he) ih
theorem normL_chg {g n:List DR} {last:Rt} {d:Int} (h:Chg n last d) (hr:∀e ∈ n,rateOf g e.1=e.2):normL g (n.map (·.1)) last=n:=by
 induction h with
 | nil=>rfl
 | @cons y t last d h1 h2 h3 ih =>
  rw [List.map_cons];unfold normL;rw [hr y (by simp),if_neg h2,ih (fun e he=>hr e (List.mem_cons_of_mem _ he))]
theorem norm_norm {n:List DR} {d:Int} (h:Chg n zeroR d):normG n=n:=by
 unfold normG;rw [daysOf_chg h];exact normL_chg h (fun e he=>rateOf_chg h he _)
theorem onL_entry {n:List DR} {last:Rt} {d:Int} (h:Chg n last d):∀{e:DR},e ∈ n→onL n last e.1=e.2:=by
 induction h with
 | nil=>intro e he;simp at he
 | @cons y t last d h1 h2 h3 ih =>
  intro e he;unfold onL;rcases List.mem_cons.1 he with rfl|he
  ·rw [if_pos (Int.le_refl _)];exact onL_late (fun x hx=>h3.lt x hx)
  ·rw [if_pos (by have:=h3.lt e he;omega)];exact ih he
section
variable {D E:Nat} {B C x y:Rat}
theorem q_den {a:Rt} (ha:a.Ok):a.q*a.den=iv a.neg a.num:=by
 have h0:(a.den:Rat)≠0:=by
  intro h;have hp:=ha.pos;have e:(a.den:Rat)=((0:Nat):Rat):=by simpa using h
  rw [Rat.natCast_inj] at e;omega
 unfold Rt.q;rw [Rat.mkRat_eq_div];exact Rat.div_mul_cancel h0
theorem gd_parts {a:Rt} {c:Nat} (ha:a.Ok) (hD:0<D) (h:Gd D (c:Rat) a.q):a.den∣D∧a.num≤c*D:=by
 obtain ⟨z,hz⟩:=h.int;have hq:=q_den ha;have e:((iv a.neg a.num*(D:Int):Int):Rat)=((z*(a.den:Int):Int):Rat):=by
  rw [Rat.intCast_mul,Rat.intCast_mul,Rat.intCast_natCast,Rat.intCast_natCast];grind
 rw [Rat.intCast_inj] at e;have e2:a.num*D=z.natAbs*a.den:=by
  have:=congrArg Int.natAbs e
  rwa [Int.natAbs_mul,Int.natAbs_mul,iv_natAbs,Int.natAbs_natCast,Int.natAbs_natCast] at this
 have hd:a.den∣D:=(Nat.Coprime.dvd_of_dvd_mul_left (show Nat.Coprime a.den a.num from by
  have:=ha.one;unfold Nat.Coprime;rw [Nat.gcd_comm];exact this)) ⟨z.natAbs,by rw [e2,Nat.mul_comm]⟩
 refine ⟨hd,?_⟩;have z1:z≤c*D:=by
  have:((z:Int):Rat)≤((c*D:Int):Rat):=by
   rw [←hz,Rat.intCast_mul,Rat.intCast_natCast,Rat.intCast_natCast];exact Rat.mul_le_mul_of_nonneg_right h.hi (by rw [←Rat.intCast_natCast, ←Rat.intCast_zero,Rat.intCast_le_intCast];omega)
  rwa [Rat.intCast_le_intCast] at this
 have z2: -(c*D:Int)≤z:=by
  have:((-(c*D:Int):Int):Rat)≤(z:Rat):=by
   rw [←hz,Rat.intCast_neg,Rat.intCast_mul,Rat.intCast_natCast,Rat.intCast_natCast, ←Rat.neg_mul];exact Rat.mul_le_mul_of_nonneg_right h.lo (by rw [←Rat.intCast_natCast, ←Rat.intCast_zero,Rat.intCast_le_intCast];omega)
  rwa [Rat.intCast_le_intCast] at this
 have hz3:z.natAbs≤c*D:=by
  have:((c*D:Nat):Int)=(c:Int)*D:=by simp
  omega
 have hle:=Nat.le_of_dvd hD hd;have:a.num*D≤z.natAbs*D:=by rw [e2];exact Nat.mul_le_mul_left _ hle
 exact Nat.le_trans (Nat.le_of_mul_le_mul_right this hD) hz3
end
theorem gd_fit {a:Rt} {D c:Nat} (ha:a.Ok) (hD:0<D) (h:Gd D (c:Rat) a.q) (h1:D<2^400) (h2:c*D<2^400):fitT a=true:=by
 obtain ⟨k1,k2⟩:=gd_parts ha hD h;have:=Nat.le_of_dvd hD k1;unfold fitT;rw [decide_eq_true (bits_lt (Nat.lt_of_le_of_lt k2 h2)),decide_eq_true (bits_lt (Nat.lt_of_le_of_lt this h1))];rfl
section
variable {m:List BT}
end
section
variable {m:List BT} {x:Rt}
end
theorem drs_raw {g:List DR} (h:Gr g):drs (g.map rawD)=g:=by
 unfold drs;rw [List.filter_eq_self.2]
 ·rw [List.map_map]
  conv=>rhs;rw [←List.map_id g]
  refine List.map_congr_left fun e he=> ?_
  show (e.1,(rawR e.2).val)=e;rw [rawR_val (h.ok e he)]
 ·intro d hd;obtain ⟨e,he,rfl⟩:=List.mem_map.1 hd;unfold goodD rawD;have:=h.day e he;simp only [decide_eq_true this.1,decide_eq_true this.2,fitsR_raw (h.ok e he),h.fit e he,Bool.and_self]
section
variable {n:List DR} {fr to:Int}
end
theorem cells4_one (b:Dk):∀u ∈ b.cells,u.oneCell' =true:=by intro u hu;simp [Dk.cells] at hu;rcases hu with rfl|rfl|rfl|rfl<;>rfl
end Go.Proofs.YtblgfmjlajhipaaGreatDoor
