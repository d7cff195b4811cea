/- RateAt: contracts and the law's walk. Each theorem names its conditions. -/
import Derived.Test.YtblgfmjlajhipaaGreatDoorRows
import Derived.WalkKit
import Derived.ProofKit
import Derived.OpenShut
import Derived.Below
import Derived.ChangeSame
import Derived.Deep.LoopGhost
import Derived.Deep.QuietTactic
import Derived.BigQuiet
import Derived.Test.YtblgfmjlajhipaaGreatDoorProg
import Derived.WalkSpells
import Derived.WalkLawsBesides
import Derived.IntWalk
import Derived.Lib.Hide
import Derived.Laws.BitsAllLaws
import Derived.StillTailTactics
import Derived.Deep.OwnRows
import Derived.Lib.ConvBytes
import Derived.Shelf.Strings.Trim
import Derived.Shelf.Small.Utf8
import Derived.Shelf.Small.Bits
import Derived.Shelf.Small.Strs
import Derived.Shelf.Strconv.Itoa0
import Derived.Shelf.Strings.Search1
import Derived.Shelf.Strings.Runes
import Derived.Shelf.Strings.AsciiSet
import Derived.Shelf.Unicode.DecodeSlow
import Derived.Shelf.Unicode.DecodeAny
import Derived.Ground.SlgmProg
import Derived.Shelf.SortM.Plain
import Derived.Shelf.SortM.SortNone
import Derived.Test.YtblgfmjlajhipaaGreatDoorKta1
import Derived.Test.YtblgfmjlajhipaaGreatDoorZb4
import Derived.Test.YtblgfmjlajhipaaGreatDoorZb5
import Derived.Test.YtblgfmjlajhipaaGreatDoorZa6
import Derived.Test.YtblgfmjlajhipaaGreatDoorZa5
import Derived.Test.YtblgfmjlajhipaaGreatDoorZa4
import Derived.Test.YtblgfmjlajhipaaGreatDoorZa3
import Derived.Test.YtblgfmjlajhipaaGreatDoorZa0
import Derived.Test.YtblgfmjlajhipaaGreatDoorZa1
import Derived.Test.YtblgfmjlajhipaaGreatDoorKta0
import Derived.Test.YtblgfmjlajhipaaGreatDoorZa2
import Derived.Test.YtblgfmjlajhipaaGreatDoorZa7
import Derived.Test.YtblgfmjlajhipaaGreatDoorZb6
set_option maxHeartbeats 16000000
set_option linter.unusedVariables false
namespace Go.Proofs.YtblgfmjlajhipaaGreatDoor
open Go.RowKit Go.Shelf
open Dgt
theorem tmod_lt0 {a m:Int} (hm:0<m) (h:a.tmod m<0):a.tmod m+m=a%m:=by
 have h1:=Int.tmod_add_mul_tdiv a m;have h2:=Int.emod_add_mul_ediv a m;have h3:=Int.emod_nonneg a (show m≠0 by omega);have h4:=Int.emod_lt_of_pos a hm;have h5:=Int.tmod_lt_of_pos a hm;have h6: -m<a.tmod m:=by
  have:=Int.lt_tmod_of_pos a hm;omega
 have h7:m*(a.tdiv m-a/m)=a%m-a.tmod m:=by rw [Int.mul_sub];omega
 have h8:a.tdiv m-a/m=1:=by
  rcases Int.lt_trichotomy (a.tdiv m-a/m) 1 with h|h|h
  ·have:m*(a.tdiv m-a/m)≤m*0:=Int.mul_le_mul_of_nonneg_left (by omega) (by omega);omega
  ·exact h
  ·have:m*2≤m*(a.tdiv m-a/m):=Int.mul_le_mul_of_nonneg_left (by omega) (by omega);omega
 rw [h8] at h7;omega
theorem tmod_ge0 {a m:Int} (hm:0<m) (h:¬a.tmod m<0):a.tmod m=a%m:=by
 have h1:=Int.tmod_add_mul_tdiv a m;have h2:=Int.emod_add_mul_ediv a m;have h3:=Int.emod_nonneg a (show m≠0 by omega);have h4:=Int.emod_lt_of_pos a hm;have h5:=Int.tmod_lt_of_pos a hm;have h7:m*(a.tdiv m-a/m)=a%m-a.tmod m:=by rw [Int.mul_sub];omega
 have h8:a.tdiv m-a/m=0:=by
  rcases Int.lt_trichotomy (a.tdiv m-a/m) 0 with h|h|h
  ·have:m*(a.tdiv m-a/m)≤m*(-1):=Int.mul_le_mul_of_nonneg_left (by omega) (by omega);omega
  ·exact h
  ·have:m*1≤m*(a.tdiv m-a/m):=Int.mul_le_mul_of_nonneg_left (by omega) (by omega);omega
 rw [h8] at h7;omega
theorem Mod_any (a m:Int) (w:World) (ha: -9223372036854775808≤a) (ha2:a≤9223372036854775807) (hm:0<m) (hm2:m≤4611686018427387904) :
  Calls Tryz.prog 18 #[.int .i64 a,.int .i64 m] w fun e w' =>∃r:Nat,e=.returned (.int .i64 (r:Int))∧(r:Int)=a%m∧(r:Int)<m∧w=w' :=by
 obtain ⟨t,ht⟩:∃t,a.tmod m=t:=⟨_,rfl⟩;have h5:=Int.tmod_lt_of_pos a hm;have h6:=Int.lt_tmod_of_pos a hm;have h4:=Int.emod_lt_of_pos a hm;have h3:=Int.emod_nonneg a (show m≠0 by omega);rw [ht] at h5 h6;obtain ⟨r,hr⟩:∃r:Nat,a%m=(r:Int):=⟨(a%m).toNat,by omega⟩;have q0:¬m=0:=by omega
 have q1:IntKind.i64.wrap t=t:=IntWalk.i64_in _ (by omega)
 by_cases h:t<0
 ·have hq:=tmod_lt0 hm (by rw [ht];exact h);rw [ht,hr] at hq;have q2:IntKind.i64.wrap (t+m)=(r:Int):=by rw [hq];exact IntWalk.i64_in _ (by omega)
  have HR:Hid ((r:Int)=a%m∧(r:Int)<m):=hD ⟨hr.symm,by omega⟩;clear h3 h4 h5 h6 hr ha ha2;go_enter Tryz.func18,Tryz.ntmps18;go_wp2_with fail;go_ret;exact ⟨r,by first|rfl|(simp [hq]),HR.out.1,HR.out.2,rfl⟩
 ·have hq:=tmod_ge0 hm (by rw [ht];exact h);rw [ht,hr] at hq;have HR:Hid ((r:Int)=a%m∧(r:Int)<m):=hD ⟨hr.symm,by omega⟩;clear h3 h4 h5 h6 hr ha ha2;go_enter Tryz.func18,Tryz.ntmps18;go_wp2_with fail;go_ret;exact ⟨r,by first|rfl|(simp [hq]),HR.out.1,HR.out.2,rfl⟩
end Go.Proofs.YtblgfmjlajhipaaGreatDoor
namespace Go.Proofs.YtblgfmjlajhipaaGreatDoor
open Go.ChangeShapes Go.WideShapes Go.ChangeAt Go.RowKit
section
variable {H:Type} {enc:TypeId × Value→H} {P:Program}
theorem post_of_below {f:Func} {s:ChangeSpec} {apart fresh handsOn again:Bool} {W W' :World} {args:Array Value} {v:Value} {ds gs:List (DataW H)} {before pa pv:List MemPlace}
  (hW:DataW.Whole enc P f.params.toList s.vars apart W args.toList ds gs before)
  (hres:∀(b:Nat) (sp:Nat→Bool) (hd:Bool),DataW.TrodAll enc P W' b sp hd f.resultTypes.toList (v.resultList f.resultTypes.size) (s.fn H (ds++gs)).results [])
  (hargs:∀sp:Nat→Bool,(∀p ∈ before,sp p.block=true)→DataW.TrodAll enc P W' 0 sp true f.params.toList args.toList (s.fn H (ds++gs)).args pa)
  (hvars:∀sp:Nat→Bool,(∀p ∈ before,sp p.block=true)→DataW.TrodVars enc P W' sp s.vars (s.fn H (ds++gs)).vars pv)
  (hps:before=pa++pv) (hb:Below W.heap.size W W')
  (hok:∀(j:Nat) (t:TypeId) (r:Value),f.resultTypes[j]? =some t→(v.resultList f.resultTypes.size)[j]? =some r→Value.okWide P W' .any 0 t r) :
  s.post enc P f apart fresh handsOn again W args v W' :=by
 have hlt:∀p ∈ before,p.block<W.heap.size:=fun p hp=>hW.lt p hp
 have hold:∀p ∈ before,(fun b=>decide (b<W.heap.size)) p.block=true:=fun p hp=>by simpa using hlt p hp
 refine ⟨ds,gs,before,[],pa,pv,hW,hres _ _ _,hargs _ hold,hvars _ hold,World.keptBut_mono (fun p hp=>⟨hp,?_⟩) (hb.frame (· ∈ before)),fun _=> ?_⟩
 ·rw [hps,List.mem_append] at hp
  exact Or.inr hp
 ·obtain ⟨_,_,_,_,_,hz,hn⟩:=hW
  refine ⟨hok,_,_,([]++pa)++pv,⟨[]++pa,pv,trodAll_append (hargs _ (fun _ _=>rfl)) (hres _ _ _),hvars _ (fun _ _=>rfl),rfl,?_,?_⟩,?_⟩
  ·intro b off hp
   have hin:MemPlace.cell b off ∈ before:=by rw [hps];simpa using hp
   rw [hb.frozen (hlt _ hin)]
   exact hz b off hin
  ·intro ha
   have:=hn ha
   rw [hps] at this
   simpa using this
  ·intro p hp _
   rw [hps]
   simpa using hp
end
section
variable {H:Type} {enc:TypeId × Value→H} {P:Program} {w:World} {base b0:Nat} {sp:Nat→Bool} {held:Bool} {r:Reach}
theorem mapM_all {α β:Type} (f:α→Option β) (g:α→β):∀(l:List α),(∀i ∈ l,f i=some (g i))→l.mapM f=some (l.map g)
 | [],_=>rfl
 | a::l,h=>by
  rw [List.mapM_cons,h a (by simp),mapM_all f g l (fun i hi=>h i (by simp [hi]))]
  rfl
theorem take_one {α:Type} (l:List α) (i:Nat) (h:i<l.length):(l.drop i).take 1=[l[i]]:=by
 rw [List.drop_eq_getElem_cons h];rfl
theorem list2 {α:Type} (l:List α) (h:l.length=2):∃a b,l=[a,b]:=by
 match l,h with
 | [a,b],_=>exact ⟨a,b,rfl⟩
theorem list3 {α:Type} (l:List α) (h:l.length=3):∃a b c,l=[a,b,c]:=by
 match l,h with
 | [a,b,c],_=>exact ⟨a,b,c,rfl⟩
theorem open_ints {n:Nat} {k:IntKind} {t e:TypeId} {v:Value} {d:DataW H} {p:List MemPlace} (ht:P.underlying t=some (.array n e)) (he:P.underlying e=some (.int k)) (hce:P.cellsOf e=1) (hct:P.cellsOf t=n)
  (hval:Value.okWide P w r b0 t v) (h0:DataW.Trod enc P w base sp held t v d p) :
  ∃xs:List Int,xs.length=n∧v=.agg (xs.map (Value.int k)).toArray∧d=.agg (xs.map fun x=>.lit (.int k x))∧p=[]∧∀x ∈ xs,(Lit.int k x).wf=true:=by
 obtain ⟨cs,rfl,hsz⟩:∃cs,v=.agg cs∧cs.size=P.cellsOf t:=by
  cases v<;>simp [Value.okWide,ht] at hval
  exact ⟨_,rfl,hval.1⟩
 rw [hct] at hsz
 obtain ⟨fuel,hf⟩:=h0
 obtain ⟨ys,m,-,hx,-,hyl,hall⟩:=DataW.trod_array ht hf
 have hlen:(Value.agg cs).cells.toList.length=n:=by simpa [Value.cells] using hsz
 have hone:∀i,i<n→∃z:Int,(∃h:i<cs.toList.length,cs.toList[i]=.int k z)∧ys[i]? =some (.lit (.int k z),[])∧(Lit.int k z).wf=true:=by
  intro i hi
  have h1:=hall i hi
  have hil:i<cs.toList.length:=by simpa using hsz ▸ hi
  rw [hce,Nat.mul_one] at h1
  rw [show (Value.agg cs).cells.toList=cs.toList from rfl,take_one _ _ hil] at h1
  cases hy:ys[i]? with
  | none=>simp [hyl,hi] at hy
  | some y =>
   rw [hy] at h1
   obtain ⟨z,hz,hyz,hw⟩:=DataW.trod_int he h1
   exact ⟨z,⟨hil,by simpa using hz⟩,by rw [hyz],hw⟩
 obtain ⟨f,hfz⟩:∃f:Nat→Int,∀i,i<n→(∃h:i<cs.toList.length,cs.toList[i]=.int k (f i))∧ys[i]? =some (.lit (.int k (f i)),[])∧(Lit.int k (f i)).wf=true :=
  ⟨fun i=>if h:i<n then (hone i h).choose else 0,fun i hi=>by simp only [hi,dif_pos];exact (hone i hi).choose_spec⟩
 have e1:cs.toList=((List.range n).map f).map (Value.int k):=by
  refine List.ext_getElem (by simp [hsz]) fun i h1 h2=> ?_
  have hi:i<n:=by simpa using h2
  simp only [List.getElem_map,List.getElem_range]
  exact (hfz i hi).1.2
 have e2:ys=((List.range n).map f).map fun x=>(.lit (.int k x),[]):=by
  refine List.ext_getElem? fun i=> ?_
  by_cases hi:i<n
  ·rw [(hfz i hi).2.1];simp [hi]
  ·simp [hi,hyl]
 refine ⟨(List.range n).map f,by simp,?_,?_,?_,?_⟩
 ·rw [←e1]
 ·rw [Prod.mk.injEq] at hx
  rw [hx.1,e2];simp [List.map_map,Function.comp_def]
 ·rw [Prod.mk.injEq] at hx
  rw [hx.2,e2];simp
 ·intro x hx
  obtain ⟨i,hi,rfl⟩:=List.mem_map.1 hx
  exact (hfz i (by simpa using hi)).2.2
theorem shut_ints {n:Nat} {k:IntKind} {t e:TypeId} (ht:P.underlying t=some (.array n e)) (he:P.underlying e=some (.int k)) (hce:P.cellsOf e=1) (hct:P.cellsOf t=n) {xs:List Int} (hl:xs.length=n)
  (hw:∀x ∈ xs,(Lit.int k x).wf=true):DataW.Trod enc P w base sp held t (.agg (xs.map (Value.int k)).toArray) (.agg (xs.map fun x=>.lit (.int k x))) []:=by
 refine ⟨2,?_⟩
 have hm:((List.range n).mapM fun i=>DataW.trod enc P w base sp held 1 e (((xs.map (Value.int k)).drop (i*P.cellsOf e)).take (P.cellsOf e)))=some ((List.range n).map fun i=>((.lit (.int k (xs.getD i 0)):DataW H),([]:List MemPlace))):=by
  refine mapM_all _ _ _ fun i hi=> ?_
  have hi' :i<xs.length:=by rw [hl];simpa using hi
  rw [hce,Nat.mul_one,take_one _ _ (by simpa using hi')]
  simp [DataW.trod,he,hi',hw _ (List.getElem_mem hi')]
 have hm2:(List.range n).map (fun i=>((.lit (.int k (xs.getD i 0)):DataW H),([]:List MemPlace)))=xs.map fun x=>(.lit (.int k x),[]):=by
  refine List.ext_getElem (by simp [hl]) fun i h1 h2=> ?_
  have:i<xs.length:=by simpa using h2
  simp [this]
 rw [hm2] at hm
 show DataW.trod enc P w base sp held 2 t (xs.map (Value.int k))=_
 unfold DataW.trod
 rw [ht]
 split<;>simp_all [List.map_map,Function.comp_def]
end
end Go.Proofs.YtblgfmjlajhipaaGreatDoor
namespace Go.Proofs.YtblgfmjlajhipaaGreatDoor
open Go.RowKit Go.Shelf
open Dgt
theorem flat_len {n:Nat}:∀{l:List (List Value)},(∀r ∈ l,r.length=n)→l.flatten.length=l.length*n
 | [],_=>by simp
 | r::t,hn=>by
  rw [List.flatten_cons,List.length_append,hn r (by simp),flat_len (fun r hr=>hn r (by simp [hr])),List.length_cons,Nat.add_mul];omega
end Go.Proofs.YtblgfmjlajhipaaGreatDoor
namespace Go.Proofs.YtblgfmjlajhipaaGreatDoor
open Go.RowKit Go.Shelf
def CutC (c m:Nat) (W:World) (v:Value) (n:Nat) (l:List (List Value)):Prop :=
 ∃p cap,v=.slice p n cap∧n≤cap∧n≤9223372036854775807∧l.length=min n m∧∀i (h:i<l.length),∃g off,p=some ⟨g,off,none⟩∧g<W.heap.size∧∀j u,l[i][j]? =some u→W.cell? ⟨g,off+i*c+j,none⟩=some u
theorem CutC.up {c m:Nat} {A W:World} {v:Value} {n:Nat} {l:List (List Value)} (h:CutC c m A v n l) (hb:Below A.heap.size A W):CutC c m W v n l:=by
 obtain ⟨p,cap,h1,h2,h3,h4,h5⟩:=h;refine ⟨p,cap,h1,h2,h3,h4,fun i hi=> ?_⟩;obtain ⟨g,off,k1,k2,k3⟩:=h5 i hi;exact ⟨g,off,k1,Nat.lt_of_lt_of_le k2 hb.size,fun j u hu=>by rw [clU hb k2];exact k3 j u hu⟩
end Go.Proofs.YtblgfmjlajhipaaGreatDoor
namespace Go.Proofs.YtblgfmjlajhipaaGreatDoor
open Go.RowKit Go.Shelf
open Dgt
theorem q_zero:zeroR.q=0:=by decide
theorem q_quo {a b:Rt} (ha:a.Ok) (hb:b.Ok) (h:b.num≠0):(quoR a b).q=a.q/b.q:=by
 have hq:b.q≠0:=fun e=>h ((q_eq_zero hb).1 e)
 have e:(quoR a b).q*b.q=a.q:=by
  unfold quoR;rw [q_low _ (Nat.mul_pos ha.pos (by omega))];unfold Rt.q;rw [Rat.mkRat_mul_mkRat,iv_mul];have:iv (((a.neg != b.neg)) != b.neg) (a.num*b.den*b.num)=iv a.neg a.num*((b.num*b.den:Nat):Int):=by
   unfold iv;cases a.neg<;>cases b.neg<;>simp<;>grind
  rw [this];rw [show a.den*b.num*b.den=a.den*(b.num*b.den) by rw [Nat.mul_assoc]];exact Rat.mkRat_mul_right (by have:=Nat.mul_pos (show 0<b.num by omega) hb.pos;omega)
 rw [←e,Rat.mul_div_cancel hq]
theorem sgQ_le0 {x:Rat}:sgQ x≤0↔x≤0:=by
 have h:=sgQ_gt0 (x:=x)
 constructor
 ·intro h1;have:¬0<x:=fun e=>by have:=h.2 e;omega
  grind
 ·intro h1;have:¬0<sgQ x:=fun e=>by have:=h.1 e;grind
  omega
section
variable {F R:Nat→Rat} {n:Nat} {x y:Rat}
def invF (F R:Nat→Rat) (K:Nat) (y:Rat):Rat:=F K+(y-begF F R K)/R K
theorem rate_pos {K:Nat} (h:Inc F n) (hr:∀k,k<n→0≤R k) (hk:Kth F R n y K) (hk1:K+1<n):0<R K:=by
 have h1:=hk.above hk1;have h2:=hk.below;have h3:begF F R (K+1)=begF F R K+(F (K+1)-F K)*R K:=rfl;have h4:=hr K hk.lt;rcases tri (R K) with h5|h5|h5
 ·rw [h5] at h3;grind
 ·exact h5
 ·grind
theorem div_pos' {a b:Rat} (ha:0<a) (hb:0<b):0<a/b:=by
 rw [Rat.div_def];exact Rat.mul_pos ha (Rat.inv_pos.2 hb)
theorem mul_div_self {a b:Rat} (hb:0<b):b*(a/b)=a:=by
 rw [Rat.mul_comm];exact Rat.div_mul_cancel (by grind)
theorem inv_bounds {K:Nat} (h:Inc F n) (hr:∀k,k<n→0≤R k) (hk:Kth F R n y K) (hp:0<R K):F K<invF F R K y∧(K+1<n→invF F R K y≤F (K+1)):=by
 unfold invF;have h1:=div_pos' (show 0<y-begF F R K by have:=hk.below;grind) hp;refine ⟨by grind,fun e=> ?_⟩;have h3:begF F R (K+1)=begF F R K+(F (K+1)-F K)*R K:=rfl;have h4:=hk.above e;have h5:=mul_div_self (a:=y-begF F R K) hp
 generalize (y-begF F R K)/R K=t at h1 h5 ⊢
 have h6:R K*t≤R K*(F (K+1)-F K):=by grind
 have:=Rat.le_of_mul_le_mul_left h6 hp
 grind
theorem ref_found {K:Nat} (h:Inc F n) (hr:∀k,k<n→0≤R k) (hk:Kth F R n y K) {k:Nat} (hkn:k<n) (hp:0<R k) (ht:k+1=n∨F k+(y-valF F R n (F k))/R k≤F (k+1)):K≤k:=by
 rcases Nat.lt_or_ge k K with hlt|hge
 ·exfalso
  rcases ht with ht|ht
  ·have:=hk.lt;omega
  ·have hK:=hk.lt;rw [val_beg h hkn] at ht;have h3:begF F R (k+1)=begF F R k+(F (k+1)-F k)*R k:=rfl;have h5:=mul_div_self (a:=y-begF F R k) hp
   generalize (y-begF F R k)/R k=t at ht h5
   have h6:=Rat.mul_le_mul_of_nonneg_left (show t≤F (k+1)-F k by grind) (show 0≤R k by grind);have h7:=beg_mono h hr (i:=k+1) (j:=K) (by omega) hK;have:=hk.below
   grind
 ·exact hge
theorem ref_test {K:Nat} (h:Inc F n) (hr:∀k,k<n→0≤R k) (hk:Kth F R n y K) (hp:0<R K):K+1=n∨F K+(y-valF F R n (F K))/R K≤F (K+1):=by
 by_cases e:K+1<n
 ·right;rw [val_beg h hk.lt];exact (inv_bounds h hr hk hp).2 e
 ·left;have:=hk.lt;omega
end
section
variable {D E:Nat} {B C x y:Rat}
theorem Gd.bound (h:Gd D B x) (hb:B≤C):Gd D C x:=⟨h.int,by have:=h.lo;grind,by have:=h.hi;grind⟩
theorem Gd.times (h:Gd D B x) (k:Nat):Gd (D*k) B x:=by
 obtain ⟨z,hz⟩:=h.int;refine ⟨⟨z*k,by rw [Rat.intCast_mul,natc,Rat.intCast_natCast];grind⟩,h.lo,h.hi⟩
theorem q_den {a:Rt} (ha:a.Ok):a.q*a.den=iv a.neg a.num:=by
 have h0:(a.den:Rat)≠0:=by
  intro h;have hp:=ha.pos;have e:(a.den:Rat)=((0:Nat):Rat):=by simpa using h
  rw [Rat.natCast_inj] at e;omega
 unfold Rt.q;rw [Rat.mkRat_eq_div];exact Rat.div_mul_cancel h0
theorem gd_parts {a:Rt} {c:Nat} (ha:a.Ok) (hD:0<D) (h:Gd D (c:Rat) a.q):a.den∣D∧a.num≤c*D:=by
 obtain ⟨z,hz⟩:=h.int;have hq:=q_den ha;have e:((iv a.neg a.num*(D:Int):Int):Rat)=((z*(a.den:Int):Int):Rat):=by
  rw [Rat.intCast_mul,Rat.intCast_mul,Rat.intCast_natCast,Rat.intCast_natCast];grind
 rw [Rat.intCast_inj] at e;have e2:a.num*D=z.natAbs*a.den:=by
  have:=congrArg Int.natAbs e
  rwa [Int.natAbs_mul,Int.natAbs_mul,iv_natAbs,Int.natAbs_natCast,Int.natAbs_natCast] at this
 have hd:a.den∣D:=(Nat.Coprime.dvd_of_dvd_mul_left (show Nat.Coprime a.den a.num from by
  have:=ha.one;unfold Nat.Coprime;rw [Nat.gcd_comm];exact this)) ⟨z.natAbs,by rw [e2,Nat.mul_comm]⟩
 refine ⟨hd,?_⟩;have z1:z≤c*D:=by
  have:((z:Int):Rat)≤((c*D:Int):Rat):=by
   rw [←hz,Rat.intCast_mul,Rat.intCast_natCast,Rat.intCast_natCast];exact Rat.mul_le_mul_of_nonneg_right h.hi (by rw [←Rat.intCast_natCast, ←Rat.intCast_zero,Rat.intCast_le_intCast];omega)
  rwa [Rat.intCast_le_intCast] at this
 have z2: -(c*D:Int)≤z:=by
  have:((-(c*D:Int):Int):Rat)≤(z:Rat):=by
   rw [←hz,Rat.intCast_neg,Rat.intCast_mul,Rat.intCast_natCast,Rat.intCast_natCast, ←Rat.neg_mul];exact Rat.mul_le_mul_of_nonneg_right h.lo (by rw [←Rat.intCast_natCast, ←Rat.intCast_zero,Rat.intCast_le_intCast];omega)
  rwa [Rat.intCast_le_intCast] at this
 have hz3:z.natAbs≤c*D:=by
  have:((c*D:Nat):Int)=(c:Int)*D:=by simp
  omega
 have hle:=Nat.le_of_dvd hD hd;have:a.num*D≤z.natAbs*D:=by rw [e2];exact Nat.mul_le_mul_left _ hle
 exact Nat.le_trans (Nat.le_of_mul_le_mul_right this hD) hz3
end
theorem gd_fit {a:Rt} {D c:Nat} (ha:a.Ok) (hD:0<D) (h:Gd D (c:Rat) a.q) (h1:D<2^400) (h2:c*D<2^400):fitT a=true:=by
 obtain ⟨k1,k2⟩:=gd_parts ha hD h;have:=Nat.le_of_dvd hD k1;unfold fitT;rw [decide_eq_true (bits_lt (Nat.lt_of_le_of_lt k2 h2)),decide_eq_true (bits_lt (Nat.lt_of_le_of_lt this h1))];rfl
section
variable {m:List BT}
end
section
variable {m:List BT} {x:Rt}
theorem part_sz (h:Sch m) (hz:Rz x 50) (k:Nat):Rz (partT m k x) 101:=by
 unfold partT
 split
 ·exact (ofR_sz (n:=0) (by decide) (by decide)).mono (by decide)
 ·refine subR_sz (i:=50) (j:=50) ?_ (h.frSz _);unfold endT;split
  ·exact h.frSz _
  ·exact hz
theorem val_sz (h:Sch m) (hz:Rz x 50):∀j,Rz (valT m x j) (8+152*j)
 | 0=>(ofR_sz (n:=0) (by decide) (by decide)).mono (by decide)
 | j+1=>(addR_sz (val_sz h hz j) (mulR_sz (h.rtSz j) (part_sz h hz j))).mono (by omega)
end
section
variable {m:List BT} {x y:Rt}
theorem num0_q (h:Sch m) (k:Nat):(rtT m k).num=0↔rtQ m k=0:=by unfold rtQ;rw [q_eq_zero (h.rtOk k)]
def refX (m:List BT) (y:Rt) (k:Nat):Rt:=addR (frT m k) (quoR (subR y (valT m (frT m k) m.length)) (rtT m k))
def refHit (m:List BT) (y:Rt) (k:Nat):Bool:=decide (sgnR (rtT m k)≠0)&&(decide (k+1=m.length)||decide (cmpR (refX m y k) (frT m (k+1))≤0))
theorem refX_q (h:Sch m) (hy:y.Ok) {k:Nat} (hr:(rtT m k).num≠0):(refX m y k).q=frQ m k+(y.q-valF (frQ m) (rtQ m) m.length (frQ m k))/rtQ m k∧(refX m y k).Ok:=by
 have h1:=subR_ok hy (val_ok h (h.frOk k) m.length);have h2:(quoR (subR y (valT m (frT m k) m.length)) (rtT m k)).Ok:=quoR_ok h1 (by omega);refine ⟨?_,addR_ok (h.frOk k) h2⟩;unfold refX;rw [q_add (h.frOk k) h2,q_quo h1 (h.rtOk k) hr,q_sub hy (val_ok h (h.frOk k) _),q_val h (h.frOk k)];rfl
theorem ref_beg (h:Sch m) {k:Nat} (hk:k<m.length):valT m (frT m k) m.length=begT m k:=by
 refine q_inj (val_ok h (h.frOk k) _) (beg_ok h k) ?_;rw [q_val h (h.frOk k),q_beg h];exact val_beg h.inc hk
theorem ref_before (h:Sch m) (hf:fallsT m=false) (hy:y.Ok) (hp:0<y.q) {k:Nat} (hk:k<kT m y-1):refHit m y k=false:=by
 have hK:=kth h hf hy hp;rw [Bool.eq_false_iff];intro hc;unfold refHit at hc;simp only [Bool.and_eq_true,Bool.or_eq_true,decide_eq_true_eq] at hc;have hn:(rtT m k).num≠0:=fun e=>hc.1 (by unfold sgnR;rw [if_pos e])
 have hkn:k<m.length:=by have:=hK.lt;omega
 obtain ⟨e1,e2⟩:=refX_q h hy hn;have hr:=rate_nn h hf k hkn;have hr2:rtQ m k≠0:=fun e=>hn ((num0_q h k).2 e)
 have:=ref_found h.inc (rate_nn h hf) hK hkn (by grind) (by
  rcases hc.2 with hc|hc
  ·exact .inl hc
  ·right
   rw [cmpR_q e2 (h.frOk _),sgQ_le0,e1] at hc;unfold frQ at hc ⊢;grind)
 omega
theorem ref_at (h:Sch m) (hf:fallsT m=false) (hy:y.Ok) (hp:0<y.q) (hr:(rtT m (kT m y-1)).num≠0):refHit m y (kT m y-1)=true:=by
 have hK:=kth h hf hy hp;obtain ⟨e1,e2⟩:=refX_q h hy hr;have hr1:=rate_nn h hf _ hK.lt;have hr2:rtQ m (kT m y-1)≠0:=fun e=>hr ((num0_q h _).2 e)
 unfold refHit;rw [decide_eq_true,Bool.true_and]
 ·rcases ref_test h.inc (rate_nn h hf) hK (by grind) with h1|h1
  ·rw [decide_eq_true h1,Bool.true_or]
  ·rw [Bool.or_eq_true];right;refine decide_eq_true ?_;rw [cmpR_q e2 (h.frOk _),sgQ_le0,e1];unfold frQ at h1 ⊢;grind
 ·intro hs;unfold sgnR at hs;rw [if_neg hr] at hs
  split at hs<;>cases hs
theorem ref_last (h:Sch m) (hf:fallsT m=false) (hy:y.Ok) (hp:0<y.q) (hr:(rtT m (kT m y-1)).num=0):kT m y=m.length:=by
 have hK:=kth h hf hy hp;have h0:=k_pos h hy hp;have hle:kT m y≤m.length:=cntB_le;rcases Nat.lt_or_ge (kT m y-1+1) m.length with h1|h1
 ·have:=rate_pos h.inc (rate_nn h hf) hK h1;rw [(num0_q h _).1 hr] at this;exact absurd this Rat.lt_irrefl
 ·omega
theorem ref_none (h:Sch m) (hf:fallsT m=false) (hy:y.Ok) (hp:0<y.q) (hr:(rtT m (kT m y-1)).num=0) {k:Nat} (hk:k<m.length):refHit m y k=false:=by
 have hl:=ref_last h hf hy hp hr
 by_cases e:k=kT m y-1
 ·unfold refHit;rw [e,decide_eq_false,Bool.false_and];intro hc;apply hc;unfold sgnR;rw [if_pos hr]
 ·exact ref_before h hf hy hp (by omega)
theorem refX_inv (h:Sch m) (hf:fallsT m=false) (hy:y.Ok) (hp:0<y.q):refX m y (kT m y-1)=invT m y:=by
 unfold refX invT;rw [ref_beg h (kth h hf hy hp).lt]
theorem inv_ok (h:Sch m) (hy:y.Ok) (hr:(rtT m (kT m y-1)).num≠0):(invT m y).Ok:=by
 unfold invT;exact addR_ok (h.frOk _) (quoR_ok (subR_ok hy (beg_ok h _)) (by omega))
end
theorem toBelow {P:Program} {f:FuncId} {args:Array Value} {w:World} {v:Value} (h:Calls P f args w fun e w' =>e=.returned v∧w=w'):Calls P f args w fun e w' =>e=.returned v∧Below w.heap.size w w' :=
 h.mono fun e w' ⟨h1,h2⟩=>⟨h1,by subst h2;exact Below.refl _ _⟩
set_option maxRecDepth 100000 in
theorem rFits_any (r:Rw) (zs:r.n.size≤9000000) (zd:r.d.size≤9000000) (wq:World) :
  Gv 82 #[.agg #[.bool r.neg,.string r.n,.string r.d]] wq (.bool (fitsR r)):=by
 unfold Gv;obtain ⟨R,hR⟩:∃xq,r.right=xq:=⟨_,rfl⟩;have HR:=hD hR;clear hR;obtain ⟨x,hx⟩:∃x,bitsN (numS r.n)=x:=⟨_,rfl⟩;obtain ⟨y,hy⟩:∃x,bitsN (numS r.d)=x:=⟨_,rfl⟩;obtain ⟨P,hP⟩:∃xq,decide ((x:Int)≤400)=xq:=⟨_,rfl⟩;have HP:=hD hP;clear hP;obtain ⟨Q,hQ⟩:∃xq,decide ((y:Int)≤400)=xq:=⟨_,rfl⟩;have HQ:=hD hQ;clear hQ;have HF:Hid (fitsR r=(R&&P&&Q)):=hD (by unfold fitsR;rw [HR.out,hx,hy, ←HP.out, ←HQ.out];congr 1;congr 1;exact decide_eq_decide.2 (by omega);exact decide_eq_decide.2 (by omega));have C1:Hid (∀w,Gv 85 #[.agg #[.bool r.neg,.string r.n,.string r.d]] w (.bool R)):=hD fun w=>by
  have h:=rRatRight_any r.neg r.n r.d w zs zd;rw [show rightR r.neg r.n r.d=R from HR.out] at h;exact h
 have C2:Hid (∀w,Gv 112 #[.string r.n] w (.int .i64 (x:Int))):=hD fun w=>by
  have h:=toBelow (rBits_any r.n w (by omega));rw [hx] at h;exact h
 have C3:Hid (∀w,Gv 112 #[.string r.d] w (.int .i64 (y:Int))):=hD fun w=>by
  have h:=toBelow (rBits_any r.d w (by omega));rw [hy] at h;exact h
 rw [HF.out];clear HF hx hy HR zs zd;have HB:=hD (Below.refl wq.heap.size wq);obtain ⟨n0,hn0⟩:∃n,n=wq.heap.size:=⟨_,rfl⟩;rw [←hn0];have HN0:=hD hn0;clear hn0;go_enter Tryz.func82,Tryz.ntmps82;obtain ⟨W1,bk1,hW1,hbk1,HX1_1,HB,HG1_1,hup⟩:=boxn HB HN0 (.cells #[.bool r.neg,.string r.n,.string r.d] 29);clear hup;obtain ⟨k2a,k2b,k2c⟩:=c3 HX1_1;go_wp2_with fail;clear hW1 hbk1 k2a k2b k2c;refine (C1.out _).mono ?_;rintro e w2 ⟨rfl,hb⟩;have HX1_1:=uH hb HX1_1;have HB:=mH HB hb;clear hb;cases R
 case false =>
  go_wp2_with fail;go_ret;exact ⟨rfl,by rw [HN0.out];exact HB.out⟩
 case true =>
  have q3:=HP.out;have k4:w2.cell? ⟨bk1,1,none⟩=some (.string r.n):=by rw [Lib.cell_of_heap HX1_1.out];rfl
  go_wp2_with fail;clear q3 k4;refine (C2.out _).mono ?_;rintro e w3 ⟨rfl,hb⟩;have HX1_1:=uH hb HX1_1;have HB:=mH HB hb;clear hb;cases P
  case false =>
   have q5:=HP.out;go_wp2_with fail;clear q5;go_ret;exact ⟨rfl,by rw [HN0.out];exact HB.out⟩
  case true =>
   have q6:=HP.out;have k7:w3.cell? ⟨bk1,2,none⟩=some (.string r.d):=by rw [Lib.cell_of_heap HX1_1.out];rfl
   go_wp2_with fail;clear q6 k7;refine (C3.out _).mono ?_;rintro e w4 ⟨rfl,hb⟩;have HX1_1:=uH hb HX1_1;have HB:=mH HB hb;clear hb;have q8:=HQ.out;go_wp2_with fail;clear q8;go_ret;exact ⟨rfl,by rw [HN0.out];exact HB.out⟩
end Go.Proofs.YtblgfmjlajhipaaGreatDoor
