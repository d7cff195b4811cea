/- RatePieces: contracts and the law's walk. Each theorem names its conditions. -/
import Derived.Test.YtblgfmjlajhipaaGreatDoorRows
import Derived.WalkKit
import Derived.ProofKit
import Derived.OpenShut
import Derived.Below
import Derived.ChangeSame
import Derived.Deep.LoopGhost
import Derived.Deep.QuietTactic
import Derived.BigQuiet
import Derived.Test.YtblgfmjlajhipaaGreatDoorProg
import Derived.WalkSpells
import Derived.WalkLawsBesides
import Derived.IntWalk
import Derived.Lib.Hide
import Derived.Laws.BitsAllLaws
import Derived.StillTailTactics
import Derived.Deep.OwnRows
import Derived.Lib.ConvBytes
import Derived.Shelf.Strings.Trim
import Derived.Shelf.Small.Utf8
import Derived.Shelf.Small.Bits
import Derived.Shelf.Small.Strs
import Derived.Shelf.Strconv.Itoa0
import Derived.Shelf.Strings.Search1
import Derived.Shelf.Strings.Runes
import Derived.Shelf.Strings.AsciiSet
import Derived.Shelf.Unicode.DecodeSlow
import Derived.Shelf.Unicode.DecodeAny
import Derived.Ground.SlgmProg
import Derived.Shelf.SortM.Plain
import Derived.Shelf.SortM.SortNone
import Derived.RangeFuncKeeps
import Derived.OwnWalkIn
import Derived.TacticsInMore
import Derived.LoopNIn
import Derived.LoopIn
import Derived.Ground.GgzProg
import Derived.Maps.Own
import Derived.Maps.OwnOps
import Derived.Maps.OwnSet
import Derived.Maps.Views
import Derived.Shelf.SlIterI.Nil
import Derived.Deep.DeepCutAuto
import Derived.Laws.AppendOwn
import Derived.Deep.DeepAppendWide
import Derived.Deep.Slices
import Derived.Deep.Strs
import Derived.ChangeArms
import Derived.Test.YtblgfmjlajhipaaGreatDoorCards
import Derived.Test.YtblgfmjlajhipaaGreatDoorTie
import Derived.LaidMore
import Derived.Deep.DeepHandedRow
import Derived.Deep.DeepWitnessRowRef
import Derived.Stop.LaidErr
import Derived.Test.YtblgfmjlajhipaaGreatDoorKpa1
import Derived.Test.YtblgfmjlajhipaaGreatDoorZb4
import Derived.Test.YtblgfmjlajhipaaGreatDoorZb5
import Derived.Test.YtblgfmjlajhipaaGreatDoorZa6
import Derived.Test.YtblgfmjlajhipaaGreatDoorZa5
import Derived.Test.YtblgfmjlajhipaaGreatDoorZa4
import Derived.Test.YtblgfmjlajhipaaGreatDoorZa3
import Derived.Test.YtblgfmjlajhipaaGreatDoorZa0
import Derived.Test.YtblgfmjlajhipaaGreatDoorZa1
import Derived.Test.YtblgfmjlajhipaaGreatDoorKpa0
import Derived.Test.YtblgfmjlajhipaaGreatDoorZa2
import Derived.Test.YtblgfmjlajhipaaGreatDoorZb9
import Derived.Test.YtblgfmjlajhipaaGreatDoorZd2
import Derived.Test.YtblgfmjlajhipaaGreatDoorZd1
import Derived.Test.YtblgfmjlajhipaaGreatDoorZd0
import Derived.Test.YtblgfmjlajhipaaGreatDoorZc8
import Derived.Test.YtblgfmjlajhipaaGreatDoorZc7
import Derived.Test.YtblgfmjlajhipaaGreatDoorZc6
import Derived.Test.YtblgfmjlajhipaaGreatDoorZb7
import Derived.Test.YtblgfmjlajhipaaGreatDoorZa7
import Derived.Test.YtblgfmjlajhipaaGreatDoorZb6
import Derived.Test.YtblgfmjlajhipaaGreatDoorZc5
import Derived.Test.YtblgfmjlajhipaaGreatDoorZc4
import Derived.Test.YtblgfmjlajhipaaGreatDoorZc3
import Derived.Test.YtblgfmjlajhipaaGreatDoorZc2
import Derived.Test.YtblgfmjlajhipaaGreatDoorZc1
import Derived.Test.YtblgfmjlajhipaaGreatDoorZc0
import Derived.Test.YtblgfmjlajhipaaGreatDoorZb8
import Derived.Test.YtblgfmjlajhipaaGreatDoorZc9
import Derived.Test.YtblgfmjlajhipaaGreatDoorZd4
set_option maxHeartbeats 16000000
set_option linter.unusedVariables false
namespace Go.Proofs.YtblgfmjlajhipaaGreatDoor
open Go.RowKit Go.Shelf
open Dgt
theorem tmod_lt0 {a m:Int} (hm:0<m) (h:a.tmod m<0):a.tmod m+m=a%m:=by
 have h1:=Int.tmod_add_mul_tdiv a m;have h2:=Int.emod_add_mul_ediv a m;have h3:=Int.emod_nonneg a (show m≠0 by omega);have h4:=Int.emod_lt_of_pos a hm;have h5:=Int.tmod_lt_of_pos a hm;have h6: -m<a.tmod m:=by
  have:=Int.lt_tmod_of_pos a hm;omega
 have h7:m*(a.tdiv m-a/m)=a%m-a.tmod m:=by rw [Int.mul_sub];omega
 have h8:a.tdiv m-a/m=1:=by
  rcases Int.lt_trichotomy (a.tdiv m-a/m) 1 with h|h|h
  ·have:m*(a.tdiv m-a/m)≤m*0:=Int.mul_le_mul_of_nonneg_left (by omega) (by omega);omega
  ·exact h
  ·have:m*2≤m*(a.tdiv m-a/m):=Int.mul_le_mul_of_nonneg_left (by omega) (by omega);omega
 rw [h8] at h7;omega
theorem tmod_ge0 {a m:Int} (hm:0<m) (h:¬a.tmod m<0):a.tmod m=a%m:=by
 have h1:=Int.tmod_add_mul_tdiv a m;have h2:=Int.emod_add_mul_ediv a m;have h3:=Int.emod_nonneg a (show m≠0 by omega);have h4:=Int.emod_lt_of_pos a hm;have h5:=Int.tmod_lt_of_pos a hm;have h7:m*(a.tdiv m-a/m)=a%m-a.tmod m:=by rw [Int.mul_sub];omega
 have h8:a.tdiv m-a/m=0:=by
  rcases Int.lt_trichotomy (a.tdiv m-a/m) 0 with h|h|h
  ·have:m*(a.tdiv m-a/m)≤m*(-1):=Int.mul_le_mul_of_nonneg_left (by omega) (by omega);omega
  ·exact h
  ·have:m*1≤m*(a.tdiv m-a/m):=Int.mul_le_mul_of_nonneg_left (by omega) (by omega);omega
 rw [h8] at h7;omega
theorem Mod_any (a m:Int) (w:World) (ha: -9223372036854775808≤a) (ha2:a≤9223372036854775807) (hm:0<m) (hm2:m≤4611686018427387904) :
  Calls Tryz.prog 18 #[.int .i64 a,.int .i64 m] w fun e w' =>∃r:Nat,e=.returned (.int .i64 (r:Int))∧(r:Int)=a%m∧(r:Int)<m∧w=w' :=by
 obtain ⟨t,ht⟩:∃t,a.tmod m=t:=⟨_,rfl⟩;have h5:=Int.tmod_lt_of_pos a hm;have h6:=Int.lt_tmod_of_pos a hm;have h4:=Int.emod_lt_of_pos a hm;have h3:=Int.emod_nonneg a (show m≠0 by omega);rw [ht] at h5 h6;obtain ⟨r,hr⟩:∃r:Nat,a%m=(r:Int):=⟨(a%m).toNat,by omega⟩;have q0:¬m=0:=by omega
 have q1:IntKind.i64.wrap t=t:=IntWalk.i64_in _ (by omega)
 by_cases h:t<0
 ·have hq:=tmod_lt0 hm (by rw [ht];exact h);rw [ht,hr] at hq;have q2:IntKind.i64.wrap (t+m)=(r:Int):=by rw [hq];exact IntWalk.i64_in _ (by omega)
  have HR:Hid ((r:Int)=a%m∧(r:Int)<m):=hD ⟨hr.symm,by omega⟩;clear h3 h4 h5 h6 hr ha ha2;go_enter Tryz.func18,Tryz.ntmps18;go_wp2_with fail;go_ret;exact ⟨r,by first|rfl|(simp [hq]),HR.out.1,HR.out.2,rfl⟩
 ·have hq:=tmod_ge0 hm (by rw [ht];exact h);rw [ht,hr] at hq;have HR:Hid ((r:Int)=a%m∧(r:Int)<m):=hD ⟨hr.symm,by omega⟩;clear h3 h4 h5 h6 hr ha ha2;go_enter Tryz.func18,Tryz.ntmps18;go_wp2_with fail;go_ret;exact ⟨r,by first|rfl|(simp [hq]),HR.out.1,HR.out.2,rfl⟩
end Go.Proofs.YtblgfmjlajhipaaGreatDoor
namespace Go.Proofs.YtblgfmjlajhipaaGreatDoor
open Go.ChangeShapes Go.WideShapes Go.ChangeAt Go.RowKit
section
variable {H:Type} {enc:TypeId × Value→H} {P:Program}
theorem post_of_below {f:Func} {s:ChangeSpec} {apart fresh handsOn again:Bool} {W W' :World} {args:Array Value} {v:Value} {ds gs:List (DataW H)} {before pa pv:List MemPlace}
  (hW:DataW.Whole enc P f.params.toList s.vars apart W args.toList ds gs before)
  (hres:∀(b:Nat) (sp:Nat→Bool) (hd:Bool),DataW.TrodAll enc P W' b sp hd f.resultTypes.toList (v.resultList f.resultTypes.size) (s.fn H (ds++gs)).results [])
  (hargs:∀sp:Nat→Bool,(∀p ∈ before,sp p.block=true)→DataW.TrodAll enc P W' 0 sp true f.params.toList args.toList (s.fn H (ds++gs)).args pa)
  (hvars:∀sp:Nat→Bool,(∀p ∈ before,sp p.block=true)→DataW.TrodVars enc P W' sp s.vars (s.fn H (ds++gs)).vars pv)
  (hps:before=pa++pv) (hb:Below W.heap.size W W')
  (hok:∀(j:Nat) (t:TypeId) (r:Value),f.resultTypes[j]? =some t→(v.resultList f.resultTypes.size)[j]? =some r→Value.okWide P W' .any 0 t r) :
  s.post enc P f apart fresh handsOn again W args v W' :=by
 have hlt:∀p ∈ before,p.block<W.heap.size:=fun p hp=>hW.lt p hp
 have hold:∀p ∈ before,(fun b=>decide (b<W.heap.size)) p.block=true:=fun p hp=>by simpa using hlt p hp
 refine ⟨ds,gs,before,[],pa,pv,hW,hres _ _ _,hargs _ hold,hvars _ hold,World.keptBut_mono (fun p hp=>⟨hp,?_⟩) (hb.frame (· ∈ before)),fun _=> ?_⟩
 ·rw [hps,List.mem_append] at hp
  exact Or.inr hp
 ·obtain ⟨_,_,_,_,_,hz,hn⟩:=hW
  refine ⟨hok,_,_,([]++pa)++pv,⟨[]++pa,pv,trodAll_append (hargs _ (fun _ _=>rfl)) (hres _ _ _),hvars _ (fun _ _=>rfl),rfl,?_,?_⟩,?_⟩
  ·intro b off hp
   have hin:MemPlace.cell b off ∈ before:=by rw [hps];simpa using hp
   rw [hb.frozen (hlt _ hin)]
   exact hz b off hin
  ·intro ha
   have:=hn ha
   rw [hps] at this
   simpa using this
  ·intro p hp _
   rw [hps]
   simpa using hp
end
section
variable {H:Type} {enc:TypeId × Value→H} {P:Program} {w:World} {base b0:Nat} {sp:Nat→Bool} {held:Bool} {r:Reach}
theorem mapM_all {α β:Type} (f:α→Option β) (g:α→β):∀(l:List α),(∀i ∈ l,f i=some (g i))→l.mapM f=some (l.map g)
 | [],_=>rfl
 | a::l,h=>by
  rw [List.mapM_cons,h a (by simp),mapM_all f g l (fun i hi=>h i (by simp [hi]))]
  rfl
theorem take_one {α:Type} (l:List α) (i:Nat) (h:i<l.length):(l.drop i).take 1=[l[i]]:=by
 rw [List.drop_eq_getElem_cons h];rfl
theorem list3 {α:Type} (l:List α) (h:l.length=3):∃a b c,l=[a,b,c]:=by
 match l,h with
 | [a,b,c],_=>exact ⟨a,b,c,rfl⟩
theorem open_ints {n:Nat} {k:IntKind} {t e:TypeId} {v:Value} {d:DataW H} {p:List MemPlace} (ht:P.underlying t=some (.array n e)) (he:P.underlying e=some (.int k)) (hce:P.cellsOf e=1) (hct:P.cellsOf t=n)
  (hval:Value.okWide P w r b0 t v) (h0:DataW.Trod enc P w base sp held t v d p) :
  ∃xs:List Int,xs.length=n∧v=.agg (xs.map (Value.int k)).toArray∧d=.agg (xs.map fun x=>.lit (.int k x))∧p=[]∧∀x ∈ xs,(Lit.int k x).wf=true:=by
 obtain ⟨cs,rfl,hsz⟩:∃cs,v=.agg cs∧cs.size=P.cellsOf t:=by
  cases v<;>simp [Value.okWide,ht] at hval
  exact ⟨_,rfl,hval.1⟩
 rw [hct] at hsz
 obtain ⟨fuel,hf⟩:=h0
 obtain ⟨ys,m,-,hx,-,hyl,hall⟩:=DataW.trod_array ht hf
 have hlen:(Value.agg cs).cells.toList.length=n:=by simpa [Value.cells] using hsz
 have hone:∀i,i<n→∃z:Int,(∃h:i<cs.toList.length,cs.toList[i]=.int k z)∧ys[i]? =some (.lit (.int k z),[])∧(Lit.int k z).wf=true:=by
  intro i hi
  have h1:=hall i hi
  have hil:i<cs.toList.length:=by simpa using hsz ▸ hi
  rw [hce,Nat.mul_one] at h1
  rw [show (Value.agg cs).cells.toList=cs.toList from rfl,take_one _ _ hil] at h1
  cases hy:ys[i]? with
  | none=>simp [hyl,hi] at hy
  | some y =>
   rw [hy] at h1
   obtain ⟨z,hz,hyz,hw⟩:=DataW.trod_int he h1
   exact ⟨z,⟨hil,by simpa using hz⟩,by rw [hyz],hw⟩
 obtain ⟨f,hfz⟩:∃f:Nat→Int,∀i,i<n→(∃h:i<cs.toList.length,cs.toList[i]=.int k (f i))∧ys[i]? =some (.lit (.int k (f i)),[])∧(Lit.int k (f i)).wf=true :=
  ⟨fun i=>if h:i<n then (hone i h).choose else 0,fun i hi=>by simp only [hi,dif_pos];exact (hone i hi).choose_spec⟩
 have e1:cs.toList=((List.range n).map f).map (Value.int k):=by
  refine List.ext_getElem (by simp [hsz]) fun i h1 h2=> ?_
  have hi:i<n:=by simpa using h2
  simp only [List.getElem_map,List.getElem_range]
  exact (hfz i hi).1.2
 have e2:ys=((List.range n).map f).map fun x=>(.lit (.int k x),[]):=by
  refine List.ext_getElem? fun i=> ?_
  by_cases hi:i<n
  ·rw [(hfz i hi).2.1];simp [hi]
  ·simp [hi,hyl]
 refine ⟨(List.range n).map f,by simp,?_,?_,?_,?_⟩
 ·rw [←e1]
 ·rw [Prod.mk.injEq] at hx
  rw [hx.1,e2];simp [List.map_map,Function.comp_def]
 ·rw [Prod.mk.injEq] at hx
  rw [hx.2,e2];simp
 ·intro x hx
  obtain ⟨i,hi,rfl⟩:=List.mem_map.1 hx
  exact (hfz i (by simpa using hi)).2.2
theorem shut_ints {n:Nat} {k:IntKind} {t e:TypeId} (ht:P.underlying t=some (.array n e)) (he:P.underlying e=some (.int k)) (hce:P.cellsOf e=1) (hct:P.cellsOf t=n) {xs:List Int} (hl:xs.length=n)
  (hw:∀x ∈ xs,(Lit.int k x).wf=true):DataW.Trod enc P w base sp held t (.agg (xs.map (Value.int k)).toArray) (.agg (xs.map fun x=>.lit (.int k x))) []:=by
 refine ⟨2,?_⟩
 have hm:((List.range n).mapM fun i=>DataW.trod enc P w base sp held 1 e (((xs.map (Value.int k)).drop (i*P.cellsOf e)).take (P.cellsOf e)))=some ((List.range n).map fun i=>((.lit (.int k (xs.getD i 0)):DataW H),([]:List MemPlace))):=by
  refine mapM_all _ _ _ fun i hi=> ?_
  have hi' :i<xs.length:=by rw [hl];simpa using hi
  rw [hce,Nat.mul_one,take_one _ _ (by simpa using hi')]
  simp [DataW.trod,he,hi',hw _ (List.getElem_mem hi')]
 have hm2:(List.range n).map (fun i=>((.lit (.int k (xs.getD i 0)):DataW H),([]:List MemPlace)))=xs.map fun x=>(.lit (.int k x),[]):=by
  refine List.ext_getElem (by simp [hl]) fun i h1 h2=> ?_
  have:i<xs.length:=by simpa using h2
  simp [this]
 rw [hm2] at hm
 show DataW.trod enc P w base sp held 2 t (xs.map (Value.int k))=_
 unfold DataW.trod
 rw [ht]
 split<;>simp_all [List.map_map,Function.comp_def]
end
end Go.Proofs.YtblgfmjlajhipaaGreatDoor
namespace Go.Proofs.YtblgfmjlajhipaaGreatDoor
open Go.RowKit Go.Shelf
def CutC (c m:Nat) (W:World) (v:Value) (n:Nat) (l:List (List Value)):Prop :=
 ∃p cap,v=.slice p n cap∧n≤cap∧n≤9223372036854775807∧l.length=min n m∧∀i (h:i<l.length),∃g off,p=some ⟨g,off,none⟩∧g<W.heap.size∧∀j u,l[i][j]? =some u→W.cell? ⟨g,off+i*c+j,none⟩=some u
theorem CutC.up {c m:Nat} {A W:World} {v:Value} {n:Nat} {l:List (List Value)} (h:CutC c m A v n l) (hb:Below A.heap.size A W):CutC c m W v n l:=by
 obtain ⟨p,cap,h1,h2,h3,h4,h5⟩:=h;refine ⟨p,cap,h1,h2,h3,h4,fun i hi=> ?_⟩;obtain ⟨g,off,k1,k2,k3⟩:=h5 i hi;exact ⟨g,off,k1,Nat.lt_of_lt_of_le k2 hb.size,fun j u hu=>by rw [clU hb k2];exact k3 j u hu⟩
end Go.Proofs.YtblgfmjlajhipaaGreatDoor
namespace Go.Proofs.YtblgfmjlajhipaaGreatDoor
open Go.RowKit Go.Shelf
open Dgt
theorem q_zero:zeroR.q=0:=by decide
theorem q_quo {a b:Rt} (ha:a.Ok) (hb:b.Ok) (h:b.num≠0):(quoR a b).q=a.q/b.q:=by
 have hq:b.q≠0:=fun e=>h ((q_eq_zero hb).1 e)
 have e:(quoR a b).q*b.q=a.q:=by
  unfold quoR;rw [q_low _ (Nat.mul_pos ha.pos (by omega))];unfold Rt.q;rw [Rat.mkRat_mul_mkRat,iv_mul];have:iv (((a.neg != b.neg)) != b.neg) (a.num*b.den*b.num)=iv a.neg a.num*((b.num*b.den:Nat):Int):=by
   unfold iv;cases a.neg<;>cases b.neg<;>simp<;>grind
  rw [this];rw [show a.den*b.num*b.den=a.den*(b.num*b.den) by rw [Nat.mul_assoc]];exact Rat.mkRat_mul_right (by have:=Nat.mul_pos (show 0<b.num by omega) hb.pos;omega)
 rw [←e,Rat.mul_div_cancel hq]
theorem sgQ_le0 {x:Rat}:sgQ x≤0↔x≤0:=by
 have h:=sgQ_gt0 (x:=x)
 constructor
 ·intro h1;have:¬0<x:=fun e=>by have:=h.2 e;omega
  grind
 ·intro h1;have:¬0<sgQ x:=fun e=>by have:=h.1 e;grind
  omega
theorem sumF_sub (f g:Nat→Rat):∀n,sumF (fun k=>f k-g k) n=sumF f n-sumF g n
 | 0=>by simp only [sumF_0];grind
 | n+1=>by rw [sumF_s,sumF_s,sumF_s,sumF_sub f g n];grind
theorem sumF_scale (c:Rat) (f:Nat→Rat):∀n,sumF (fun k=>c*f k) n=c*sumF f n
 | 0=>by simp only [sumF_0];grind
 | n+1=>by rw [sumF_s,sumF_s,sumF_scale c f n];grind
section
variable {F R:Nat→Rat} {n:Nat} {x y:Rat}
def margF (F R:Nat→Rat) (n:Nat) (x:Rat):Rat:=if cntF F x n=0 then 0 else R (cntF F x n-1)
theorem val_one (h:Inc F n) (hn:0<n) (hx:F 0≤x):sumF (fun k=>partQ F n k x) n=x-F 0:=by
 have e:sumF (fun k=>partQ F n k x) n=valF F (fun _=>1) n x:=sumF_congr (fun k _=>by grind);have hc:0<cntF F x n:=by
  apply Nat.pos_of_ne_zero;intro h0
  have:=cnt_above (F:=F) (x:=x) (n:=n) (k:=0) (by omega) hn;grind
 have tele:∀j,begF F (fun _=>1) j=F j-F 0:=by
  intro j;induction j with
  | zero=>unfold begF;rw [sumF_0];grind
  | succ j ih=>unfold begF at *;rw [sumF_s,ih];grind
 rw [e,val_cnt h hc,tele];grind
theorem val_grown (h:Inc F n) (hn:0<n) (hx:F 0≤x) (hxy:x≤y) {lo hi:Rat} (hl:∀k,k<n→lo≤R k) (hh:∀k,k<n→R k≤hi) :
  lo*(y-x)≤valF F R n y-valF F R n x∧valF F R n y-valF F R n x≤hi*(y-x):=by
 have e1:valF F R n y-valF F R n x=sumF (fun k=>R k*(partQ F n k y-partQ F n k x)) n:=by
  unfold valF;rw [←sumF_sub];exact sumF_congr fun k _=>by grind
 have e2:∀c:Rat,c*(y-x)=sumF (fun k=>c*(partQ F n k y-partQ F n k x)) n:=fun c=>by
  rw [sumF_scale,sumF_sub,val_one h hn (by grind),val_one h hn hx];grind
 have hp:∀k,0≤partQ F n k y-partQ F n k x:=fun k=>by have:=part_mono (F:=F) (n:=n) hxy k;grind
 rw [e1,e2,e2]
 constructor
 ·refine sumF_le fun k hk=> ?_
  have:=Rat.mul_nonneg (show 0≤R k-lo by have:=hl k hk;grind) (hp k);grind
 ·refine sumF_le fun k hk=> ?_
  have:=Rat.mul_nonneg (show 0≤hi-R k by have:=hh k hk;grind) (hp k);grind
theorem val_slope (h:Inc F n) (hc:0<cntF F x n) (hxy:x≤y) (hb:∀k,k<n→¬(x<F k∧F k<y)):valF F R n y-valF F R n x=margF F R n x*(y-x):=by
 have hle:=cnt_le (F:=F) (x:=x) (n:=n);rw [val_cnt h hc];unfold margF;rw [if_neg (by omega)];have h1:=cnt_at hc;rw [val_at (j:=cntF F x n-1) h (by omega) (by grind) (fun e=>by
  have h2:=cnt_above (F:=F) (x:=x) (n:=n) (k:=cntF F x n-1+1) (by omega) e;have h3:=hb _ e;grind)]
 grind
theorem div_pos' {a b:Rat} (ha:0<a) (hb:0<b):0<a/b:=by
 rw [Rat.div_def];exact Rat.mul_pos ha (Rat.inv_pos.2 hb)
end
section
variable {D E:Nat} {B C x y:Rat}
theorem Gd.bound (h:Gd D B x) (hb:B≤C):Gd D C x:=⟨h.int,by have:=h.lo;grind,by have:=h.hi;grind⟩
theorem Gd.times (h:Gd D B x) (k:Nat):Gd (D*k) B x:=by
 obtain ⟨z,hz⟩:=h.int;refine ⟨⟨z*k,by rw [Rat.intCast_mul,natc,Rat.intCast_natCast];grind⟩,h.lo,h.hi⟩
theorem q_den {a:Rt} (ha:a.Ok):a.q*a.den=iv a.neg a.num:=by
 have h0:(a.den:Rat)≠0:=by
  intro h;have hp:=ha.pos;have e:(a.den:Rat)=((0:Nat):Rat):=by simpa using h
  rw [Rat.natCast_inj] at e;omega
 unfold Rt.q;rw [Rat.mkRat_eq_div];exact Rat.div_mul_cancel h0
theorem gd_parts {a:Rt} {c:Nat} (ha:a.Ok) (hD:0<D) (h:Gd D (c:Rat) a.q):a.den∣D∧a.num≤c*D:=by
 obtain ⟨z,hz⟩:=h.int;have hq:=q_den ha;have e:((iv a.neg a.num*(D:Int):Int):Rat)=((z*(a.den:Int):Int):Rat):=by
  rw [Rat.intCast_mul,Rat.intCast_mul,Rat.intCast_natCast,Rat.intCast_natCast];grind
 rw [Rat.intCast_inj] at e;have e2:a.num*D=z.natAbs*a.den:=by
  have:=congrArg Int.natAbs e
  rwa [Int.natAbs_mul,Int.natAbs_mul,iv_natAbs,Int.natAbs_natCast,Int.natAbs_natCast] at this
 have hd:a.den∣D:=(Nat.Coprime.dvd_of_dvd_mul_left (show Nat.Coprime a.den a.num from by
  have:=ha.one;unfold Nat.Coprime;rw [Nat.gcd_comm];exact this)) ⟨z.natAbs,by rw [e2,Nat.mul_comm]⟩
 refine ⟨hd,?_⟩;have z1:z≤c*D:=by
  have:((z:Int):Rat)≤((c*D:Int):Rat):=by
   rw [←hz,Rat.intCast_mul,Rat.intCast_natCast,Rat.intCast_natCast];exact Rat.mul_le_mul_of_nonneg_right h.hi (by rw [←Rat.intCast_natCast, ←Rat.intCast_zero,Rat.intCast_le_intCast];omega)
  rwa [Rat.intCast_le_intCast] at this
 have z2: -(c*D:Int)≤z:=by
  have:((-(c*D:Int):Int):Rat)≤(z:Rat):=by
   rw [←hz,Rat.intCast_neg,Rat.intCast_mul,Rat.intCast_natCast,Rat.intCast_natCast, ←Rat.neg_mul];exact Rat.mul_le_mul_of_nonneg_right h.lo (by rw [←Rat.intCast_natCast, ←Rat.intCast_zero,Rat.intCast_le_intCast];omega)
  rwa [Rat.intCast_le_intCast] at this
 have hz3:z.natAbs≤c*D:=by
  have:((c*D:Nat):Int)=(c:Int)*D:=by simp
  omega
 have hle:=Nat.le_of_dvd hD hd;have:a.num*D≤z.natAbs*D:=by rw [e2];exact Nat.mul_le_mul_left _ hle
 exact Nat.le_trans (Nat.le_of_mul_le_mul_right this hD) hz3
end
theorem gd_fit {a:Rt} {D c:Nat} (ha:a.Ok) (hD:0<D) (h:Gd D (c:Rat) a.q) (h1:D<2^400) (h2:c*D<2^400):fitT a=true:=by
 obtain ⟨k1,k2⟩:=gd_parts ha hD h;have:=Nat.le_of_dvd hD k1;unfold fitT;rw [decide_eq_true (bits_lt (Nat.lt_of_le_of_lt k2 h2)),decide_eq_true (bits_lt (Nat.lt_of_le_of_lt this h1))];rfl
section
variable {m:List BT}
theorem Sch.zeroQ (h:Sch m):frQ m 0=0:=by unfold frQ;rw [h.zero,q_zero]
end
section
variable {m:List BT} {x:Rt}
theorem marg_ok (h:Sch m):(margT m x).Ok:=by
 unfold margT;split
 ·exact ofR_ok 0
 ·exact h.rtOk _
theorem q_marg:(margT m x).q=margF (frQ m) (rtQ m) m.length x.q:=by
 unfold margT margF cntT
 split
 ·rw [q_of];rfl
 ·rfl
end
end Go.Proofs.YtblgfmjlajhipaaGreatDoor
namespace Go.Proofs.YtblgfmjlajhipaaGreatDoor
open Go Go.RowKit
theorem alloc_lt (w:World) (o:Obj):w.heap.size<(w.alloc o).heap.size:=by rw [World.size_alloc];omega
section
variable {P:Program} {ops:Array Oper} {Q:Exit→Act→World→Prop} {T0:Array Value}
theorem wp_region_tailW {id:Nat} {w:World} (hm:P.follows .mixedOrders=true) (S:Nat→Value→World→Prop) (nw:Nat→Bool) (L:Nat) (b:Nat→Bool) (hL:L≤ops.size) (hov:overB (ops.extract 0 L) T0.size b=true) (hsl:slotsB ops T0.size=true) (hsl' :slotsB (ops.extract 0 L) T0.size=true) (hbk:backR ops=true) (htl:tailB ops L=true)
  (hup:∀j v w w',Below w.heap.size w w' →S j v w→S j v w')
  (hstep:∀i,i<L→∀o listed a w',RAt ops T0 (fun j v w=>j<L→S j v w) w i o listed a w' →
   ∀K:Act→World→Prop,(∀v w'',S i (gives o.dst v) w'' →Below w'.heap.size w' w'' →(nw i=true→∃g,gives o.dst v=.pointer (some ⟨g,0,none⟩)∧w'.heap.size≤g∧g<w''.heap.size)→K (a.put o.dst v) w'')→wpOp P ops Q i K a w')
  (htail:∀(s:Nat→Value) w',(∀j,j<L→S j (match dstOf ops j with|some d=>s d|none=>undef) w')→Below w.heap.size w w' →(∀i j,nw i=true→nw j=true→i≠j→i<L→j<L→(match dstOf ops i with|some d=>s d|none=>undef)≠(match dstOf ops j with|some d=>s d|none=>undef))→wpTail P ops Q (ops.size-L) L { tmps:=(over b s 0 T0.toList).toArray,defers:=[] } w') :
  (Code.region id ops true).wp P Q { tmps:=T0,defers:=[] } w:=by
 have hnd:∀m,L≤m→m<ops.size→needB ops m=true:=fun m h1 h2=>by
  have:=List.all_eq_true.1 htl m (by simpa using h2)
  simp only [Bool.or_eq_true,decide_eq_true_eq] at this
  rcases this with h|h
  ·omega
  ·exact h
 have hfin:∀listed a w',RSt ops T0 (fun _ j v w=>j<L→S j v w) (fun _ w' =>Below w.heap.size w w') listed a w' →NewAt ops nw listed a w' →(∀j,L≤j→listed.getD j false=false)→(∀j,j<L→listed.getD j false=true)→wpTail P ops Q (ops.size-L) L a w' :=by
  intro listed a w' hI hnw hun hall
  rw [hI.frame hL hsl' hov hun]
  have hin:∀j,(match dstOf ops j with|some d=>a.tmps.getD d undef|none=>undef)=inSlot a (dstOf ops j):=fun j=>by cases dstOf ops j<;>rfl
  refine htail _ w' (fun j hj=> ?_) hI.glob (fun i j hi hj hne hiL hjL=> ?_)
  ·rw [hin];exact hI.vals j (hall j hj) hj
  ·rw [hin,hin];exact hnw.ne i j hi hj hne (hall i hiL) (hall j hjL)
 refine wp_region_inv (fun listed a w' =>(RSt ops T0 (fun _ j v w=>j<L→S j v w) (fun _ w' =>Below w.heap.size w w') listed a w' ∧NewAt ops nw listed a w' ∧∀j,L≤j→listed.getD j false=false) ∨
  (∃m,L<m∧m≤ops.size∧listed.size=ops.size∧(∀j,j<ops.size→listed.getD j false=decide (j<m))∧wpTail P ops Q (ops.size-m) m a w')) hm ?_ ?_ ?_
 ·exact .inl ⟨⟨by simp,rfl,rfl,fun _ _=>rfl,fun j hj=>(by rw [getD_falses] at hj;cases hj),(Below.refl _ _).drew,fun j o _ hj=>by rw [getD_falses] at hj;cases hj⟩,⟨fun i _ hi=>(by rw [getD_falses] at hi;cases hi),fun i j _ _ _ hi _=>(by rw [getD_falses] at hi;cases hi)⟩,fun j _=>getD_falses _ _⟩
 ·rintro listed a w' hI i o ho hun hall
  have hio:i<ops.size:=(Array.getElem?_eq_some_iff.1 ho).1
  have hun' :listed.getD i false=false:=by
   rcases Nat.lt_or_ge i listed.size with h' |h'
   ·simp [h'] at hun ⊢;exact hun
   ·simp [Array.getElem?_eq_none h'] at hun
  have hset:∀m,listed.size=ops.size→(∀j,j<ops.size→listed.getD j false=decide (j<m))→i=m→∀j,j<ops.size→(listed.setIfInBounds i true).getD j false=decide (j<m+1):=by
   intro m hls hj him j hjs
   subst him
   by_cases hji:j=i
   ·subst hji;simp [hls,hio]
   ·rw [getD_set_ne false (Ne.symm hji),hj j hjs]
    simp;omega
  rcases hI with ⟨hI,hnw,hL'⟩|⟨m,hm1,hm2,hls,hlst,htl'⟩
  ·by_cases hiL:i<L
   ·refine hstep i hiL o listed a w' ⟨ho,hall,fun t ht=>hI.base t (fun j hj=>absurd hj (free_ne ht)),hI.vals,hI.glob,hun',hI.closed,hI.base⟩ _ fun v w'' h1 h2 h3=>.inl ⟨?_,hnw.put hsl hI.size ho hI.lsize h2 h3,fun j hj=>(getD_set_ne false (by omega)).trans (hL' j hj)⟩
    exact hI.put_one hsl ho hun' hall (fun _=>h1) (hI.glob.trans (h2.mono hI.glob.size)) fun j u _ _ hS hj=>hup j u w' w'' h2 (hS hj)
   ·have hb:=all_before (hnd i (by omega) hio) ho hall hI.closed
    have hiL:i=L:=by
     rcases Nat.lt_or_ge L i with h|h
     ·have:=hb L h
      rw [hL' L (Nat.le_refl _)] at this;cases this
     ·omega
    subst hiL
    have h:=hfin listed a w' hI hnw hL' hb
    rw [show ops.size-i=(ops.size-(i+1))+1 by omega] at h
    refine wpOp_mono (fun a' w'' h=>.inr ⟨i+1,by omega,by omega,by simpa using hI.lsize,hset i hI.lsize (fun j hj=> ?_) rfl,h⟩) h
    by_cases hji:j<i
    ·rw [hb j hji];simp [hji]
    ·rw [hL' j (by omega)];simp [hji]
  ·have him:i=m:=by
    have h1:=hlst i hio
    rw [hun'] at h1
    have h2:¬i<m:=by simpa using h1.symm
    rcases Nat.lt_or_ge m i with h|h
    ·have:=all_before (hnd i (by omega) hio) ho hall (fun j o ho' hj e he hb=>by
      have hjs:j<ops.size:=(Array.getElem?_eq_some_iff.1 ho').1
      have h3:=List.all_eq_true.1 hbk j (by simpa using hjs)
      rw [ho'] at h3
      have h4:=Array.all_eq_true'.1 (show (o.after.all fun e=> !Region.binds .any e||decide (e.on<j))=true from h3) e he
      rw [hb] at h4
      have h5:e.on<j:=by simpa using h4
      have h6:=hlst j hjs
      rw [hj] at h6
      have h7:j<m:=by simpa using h6.symm
      rw [hlst e.on (by omega)];simp;omega) m h
     rw [hlst m (by omega)] at this
     simp at this
    ·omega
   subst him
   have h:=htl'
   rw [show ops.size-i=(ops.size-(i+1))+1 by omega] at h
   exact wpOp_mono (fun a' w'' h=>.inr ⟨i+1,by omega,by omega,by simpa using hls,hset i hls hlst rfl,h⟩) h
 ·rintro listed a w' hI hr
  have hback:∀j o,ops[j]? =some o→∀e ∈ o.after,Region.binds .any e=true→e.on<j:=fun j o ho e he hb=>by
   have h1:=List.all_eq_true.1 hbk j (by simpa using (Array.getElem?_eq_some_iff.1 ho).1)
   rw [ho] at h1
   have h2:=Array.all_eq_true'.1 (show (o.after.all fun e=> !Region.binds .any e||decide (e.on<j))=true from h1) e he
   rw [hb] at h2
   simpa using h2
  rcases hI with ⟨hI,hnw,hL'⟩|⟨m,hm1,hm2,hls,hlst,htl'⟩
  ·have hup:∀j,j<ops.size→listed.getD j false=true:=fun j hj=>by
    have:=all_up hI.lsize hback hr j hj
    have hs:j<listed.size:=by rw [hI.lsize];exact hj
    simpa [hs] using this
   have hLs:L=ops.size:=by
    rcases Nat.lt_or_ge L ops.size with h|h
    ·have:=hup L h
     rw [hL' L (Nat.le_refl _)] at this;cases this
    ·omega
   have h:=hfin listed a w' hI hnw hL' (fun j hj=>hup j (by omega))
   rw [hLs,Nat.sub_self] at h
   exact h
  ·have hms:m=ops.size:=by
    rcases Nat.lt_or_ge m ops.size with h|h
    ·have:=all_up hls hback hr m h
     have hs:m<listed.size:=by rw [hls];exact h
     have h2:=hlst m h
     simp [hs] at this h2
     rw [this] at h2;cases h2
    ·omega
   rw [hms,Nat.sub_self] at htl'
   exact htl'
end
end Go.Proofs.YtblgfmjlajhipaaGreatDoor
namespace Go.Proofs.YtblgfmjlajhipaaGreatDoor
open Go.RowKit Go.Shelf
open Dgt
theorem mod2 (a m:Int) (w:World) (ha: -9223372036854775808≤a) (ha2:a≤9223372036854775807) (hm:0<m) (hm2:m≤4611686018427387904) :
  Gv 18 #[.int .i64 a,.int .i64 m] w (.int .i64 (a%m)):=by
 unfold Gv;refine (Mod_any a m w ha ha2 hm hm2).mono ?_;rintro e w' ⟨r,rfl,h,-,rfl⟩;exact ⟨by rw [h],Below.refl _ _⟩
def I64 (a:Int):Prop:= -9223372036854775808≤a∧a≤9223372036854775807
def LstP (W:World) (v:Value) (l:List (Int × Int)):Prop:=LstC 2 W v (l.map fun p=>[.int .i64 p.1,.int .i64 p.2])
theorem LstP.up {A W:World} {v:Value} {l:List (Int × Int)} (h:LstP A v l) (hb:Below A.heap.size A W):LstP W v l:=LstC.up h hb
theorem LstP.open {A:World} {v:Value} {l:List (Int × Int)} (h:LstP A v l):∃p cap,v=.slice p l.length cap∧l.length≤cap∧l.length≤1000∧∀i (h:i<l.length),∃g off,p=some ⟨g,off,none⟩∧∀W,Below A.heap.size A W→W.cell? ⟨g,off+i*2,none⟩=some (.int .i64 l[i].1)∧W.cell? ⟨g,off+i*2+1,none⟩=some (.int .i64 l[i].2):=by
 obtain ⟨p,cap,h1,h2,h3,h4⟩:=h;rw [List.length_map] at h1 h2 h3;refine ⟨p,cap,h1,h2,h3,fun i hi=> ?_⟩;obtain ⟨g,off,k1,k2,k3⟩:=h4 i (by rwa [List.length_map]);refine ⟨g,off,k1,fun W hb=> ?_⟩;rw [List.getElem_map] at k3;have key:∀j u,([.int .i64 l[i].1,.int .i64 l[i].2]:List Value)[j]? =some u→W.cell? ⟨g,off+i*2+j,none⟩=some u:=fun j u hu=>by rw [clU hb k2];exact k3 j u hu
 exact ⟨key 0 _ rfl,key 1 _ rfl⟩
end Go.Proofs.YtblgfmjlajhipaaGreatDoor
namespace Go.Proofs.YtblgfmjlajhipaaGreatDoor
open Go.ChangeShapes Go.WideShapes Go.ChangeAt Go.RowKit Go.Deep Go.Shelf
section
variable {H:Type} {enc:TypeId × Value→H} {W:World}
theorem bulk_part {d:DataW H} {l:List (DataW H)} (h:d ∈ l):Rows.uptoBulk d≤Rows.uptoBulkAll l:=by
 induction l with
 | nil=>cases h
 | cons x r ih =>
  simp only [Rows.uptoBulkAll];cases List.mem_cons.1 h with
  | inl e=>subst e;omega
  | inr e=>have:=ih e;omega
theorem take_val {cs:List Value} {i:Nat} {v:Value} (h:(cs.drop i).take 1=[v]):cs[i]? =some v:=by
 have:=congrArg (fun l=>l[0]?) h;simpa using this
theorem three_vals {cs:List Value} {a b c:Value} (hl:cs.length=3) (h0:cs[0]? =some a) (h1:cs[1]? =some b) (h2:cs[2]? =some c):cs=[a,b,c]:=by
 match cs,hl with
 | [x,y,z],_=>simp at h0 h1 h2;subst h0 h1 h2;rfl
theorem list_of {β:Type} {α:Type} (g:β→α) (Q:β→Prop) (f:Nat→α):∀k,(∀i,i<k→∃b,f i=g b∧Q b)→∃l:List β,l.map g=(List.range k).map f∧∀b ∈ l,Q b
 | 0,_=>⟨[],rfl,by simp⟩
 | k+1,h=>by
  obtain ⟨l,h1,h2⟩:=list_of g Q f k (fun i hi=>h i (by omega));obtain ⟨b,h3,h4⟩:=h k (by omega);refine ⟨l++[b],by rw [List.range_succ,List.map_append,List.map_append,h1,List.map_singleton,List.map_singleton,h3],fun x hx=> ?_⟩;rcases List.mem_append.1 hx with hx|hx
  ·exact h2 x hx
  ·rw [List.mem_singleton.1 hx];exact h4
theorem row_some {r:List Value} {c:Nat} (h:r.length=c) (h0:0<c):∃v,r[0]? =some v:=⟨r[0]'(by omega),List.getElem?_eq_getElem _⟩
set_option maxRecDepth 100000 in
theorem arg_rows {β:Type} {base:Nat} {t e:TypeId} {c m:Nat} {v:Value} {d:DataW H} {p:List MemPlace} (g:β→List Value) (Q:β→Nat→Prop) (hQ:∀b k k',Q b k→k≤k' →Q b k') (hg:∀b,(g b).length=c) (hc0:0<c)
  (ht:Tryz.prog.underlying t=some (.slice e)) (hc:Tryz.prog.cellsOf e=c)
  (hE:∀n cs d q,DataW.trod enc Tryz.prog W 0 (fun _=>true) true n e cs=some (d,q)→∃b,cs=g b∧Q b (Rows.uptoBulk d))
  (hval:Value.okWide Tryz.prog W .any base t v) (h:DataW.Trod enc Tryz.prog W 0 (fun _=>true) true t v d p) :
  ∃pp n cap,∃l:List β,v=.slice pp n cap∧CutC c m W v n (l.map g)∧∀b ∈ l,Q b (Rows.uptoBulk d):=by
 obtain ⟨a0,len0,cap0,rfl⟩:=okWide_slice ht hval;obtain ⟨fuel,hf⟩:=h;rcases open_slice ht hf with ⟨hx,hd⟩|⟨a,len,cap,mm,n,D,Pl,hx,hb,hl,hm,hmm,hd,hel⟩
 ·simp [Value.cells] at hx;obtain ⟨rfl,rfl,rfl⟩:=hx;exact ⟨_,_,_,[],rfl,⟨none,0,rfl,by omega,by omega,by simp,fun i h=>absurd h (by simp)⟩,by simp⟩
 ·simp [Value.cells] at hx;obtain ⟨rfl,rfl,rfl⟩:=hx;simp only [if_true] at hmm;subst hmm;simp only [Prod.mk.injEq] at hd;obtain ⟨rfl,-⟩:=hd;rw [hc] at hel;have hcc:∀i,i<len0→∃b,W.cells? 0 (a.add (i*c)) c=some (g b)∧Q b (Rows.uptoBulk (.slice ((List.range len0).map D) ((List.range (mm-len0)).map fun j=>D (len0+j)))):=by
   intro i hi;obtain ⟨cs,h1,h2⟩:=hel i (by omega);obtain ⟨b,rfl,hq⟩:=hE _ _ _ _ h2;refine ⟨b,h1,hQ _ _ _ hq ?_⟩;have:=bulk_part (d:=D i) (l:=(List.range len0).map D) (List.mem_map.2 ⟨i,List.mem_range.2 hi,rfl⟩);simp only [Rows.uptoBulk];omega
  obtain ⟨l,h1,h2⟩:=list_of (fun b:β=>some (g b)) (fun b=>Q b (Rows.uptoBulk (.slice ((List.range len0).map D) ((List.range (mm-len0)).map fun j=>D (len0+j))))) (fun i=>W.cells? 0 (a.add (i*c)) c) (min len0 m) (fun i hi=>by
   obtain ⟨b,k1,k2⟩:=hcc i (by omega);exact ⟨b,k1,k2⟩)
  have hll:l.length=min len0 m:=by have:=congrArg List.length h1;simpa using this
  refine ⟨_,_,_,l,rfl,⟨some a,mm,rfl,by omega,by unfold maxLen at hm;omega,by rw [List.length_map];exact hll,fun i hi=> ?_⟩,h2⟩;rw [List.length_map] at hi;have eA:∀i (hi:i<l.length),W.cells? 0 (a.add (i*c)) c=some (g l[i]):=fun i hi=>by
   have:=congrArg (fun z=>z[i]?) h1;simp only [List.getElem?_map,List.getElem?_eq_getElem hi,Option.map_some,List.getElem?_range (by omega:i<min len0 m)] at this;exact (Option.some.inj this).symm
  have e1:=eA i hi;have e0:=eA 0 (by omega);obtain ⟨-,-,hcell0⟩:=World.cells?_some e0;obtain ⟨-,-,hcell⟩:=World.cells?_some e1;obtain ⟨g0,off,spot⟩:=a;have k0:=hcell 0 hc0;have hspot:spot=none:=by
   have k9:=hcell0 0 hc0;obtain ⟨v0,hv0⟩:∃v0,(g (l[0]'(by omega)))[0]? =some v0:=row_some (hg _) hc0;rw [hv0] at k9;have:=World.cell?_spot k9;simpa [Addr.add] using this
  subst hspot;have hadd:∀a b:Nat,(⟨g0,a,none⟩:Addr).add b=⟨g0,a+b,none⟩:=fun a b=>Addr.add_lit ..
  simp only [hadd] at hcell k0;refine ⟨g0,off,rfl,?_,fun j u hu=> ?_⟩
  ·obtain ⟨v0,hv0⟩:∃v0,(g l[i])[0]? =some v0:=row_some (hg _) hc0;rw [hv0] at k0;rcases Nat.lt_or_ge g0 W.heap.size with hlt|hlt
   ·exact hlt
   ·simp [World.cell?,Array.getElem?_eq_none hlt] at k0
  ·rw [List.getElem_map] at hu;have hj:j<c:=by
    rcases Nat.lt_or_ge j c with h|h
    ·exact h
    ·rw [List.getElem?_eq_none (by rw [hg];exact h)] at hu;cases hu
   rw [hcell j hj,hu]
section
variable {base:Nat} {v:Value} {d:DataW H} {p:List MemPlace} {m:Nat}
theorem SzD.mono {l:List Dk} {k j:Nat} (h:SzD l k) (hk:k≤j):SzD l j:=fun b hb=>⟨Nat.le_trans (h b hb).1 hk,Nat.le_trans (h b hb).2 hk⟩
theorem SzK.mono {l:List Bk} {k j:Nat} (h:SzK l k) (hk:k≤j):SzK l j:=fun b hb=>by have:=h b hb;unfold Sz4 at *;omega
end
end
end Go.Proofs.YtblgfmjlajhipaaGreatDoor
namespace Go.Proofs.YtblgfmjlajhipaaGreatDoor
open Go.RowKit Go.Shelf
open Dgt
abbrev T3:=Int × Int × Int
def mrate (q:T3):Rt:=fracT (q.1%61-10) (q.2.2%3*30+20)
def mstep (q:T3):Rt:=fracT (q.2.1%40+1) (q.2.2%4+1)
def mnum (l:List T3) (k:Nat):T3:=l.getD k (0,0,0)
def mfrom (l:List T3):Nat→Rt
 | 0=>ofR 0
 | k+1=>addR (mfrom l k) (mstep (mnum l k))
def madeK (l:List T3) (n:Nat):List BT:=(List.range n).map fun j=>(mfrom l j,mrate (mnum l j))
theorem madeK_s (l:List T3) (n:Nat):madeK l (n+1)=madeK l n++[(mfrom l n,mrate (mnum l n))]:=by unfold madeK;rw [List.range_succ,List.map_append];rfl
def madeN (l:List T3):Nat:=if l.length=0 then 1 else min l.length 8
def madeB (l:List T3):List BT:=madeK l (madeN l)
theorem frac_ok (n:Int) {d:Int} (h:d≠0):(fracT n d).Ok:=by
 unfold fracT;exact quoR_ok (ofR_ok n) (Nat.pos_of_ne_zero (of_num h))
theorem frac_q (n:Int) {d:Int} (h:d≠0):(fracT n d).q=(n:Rat)/d:=by
 unfold fracT;rw [q_quo (ofR_ok n) (ofR_ok d) (of_num h),q_of,q_of]
theorem rat_pos {d:Int} (h:0<d):(0:Rat)<(d:Rat):=by exact_mod_cast h
theorem frac_gd {n d:Int} {D B:Nat} (hd:0<d) (hD:∃k:Int,(D:Int)=d*k) (h1: -(B*d:Int)≤n) (h2:n≤B*d):Gd D (B:Rat) (fracT n d).q:=by
 obtain ⟨k,hk⟩:=hD;have hp:=rat_pos hd;rw [frac_q n (by omega)];have hm:(n:Rat)/d*d=n:=Rat.div_mul_cancel (by grind)
 generalize (n:Rat)/d=t at hm
 refine ⟨⟨n*k,?_⟩,?_,?_⟩
 ·have:((D:Int):Rat)=((d*k:Int):Rat):=by rw [hk]
  rw [Rat.intCast_natCast,Rat.intCast_mul] at this;rw [Rat.intCast_mul];grind
 ·have h3:((-(B*d:Int):Int):Rat)≤(n:Rat):=by exact_mod_cast h1
  rw [Rat.intCast_neg,Rat.intCast_mul,Rat.intCast_natCast, ←hm] at h3;refine Rat.le_of_mul_le_mul_right (c:=(d:Rat)) ?_ hp
  grind
 ·have h3:((n:Int):Rat)≤((B*d:Int):Rat):=by exact_mod_cast h2
  rw [Rat.intCast_mul,Rat.intCast_natCast, ←hm] at h3;exact Rat.le_of_mul_le_mul_right h3 hp
theorem pow_far {n k:Nat} (h:n<2^100) (hk:100≤k):n<2^k:=Nat.lt_of_lt_of_le h (Nat.pow_le_pow_right (by decide) hk)
theorem fit_far {a:Rt} {D c:Nat} (ha:a.Ok) (hD:0<D) (h:Gd D (c:Rat) a.q) (h1:D<2^100) (h2:c*D<2^100):fitT a=true :=
 gd_fit ha hD h ((fun K (hK:100≤K)=>pow_far h1 hK:∀K,100≤K→D<2^K) 400 (by decide)) ((fun K (hK:100≤K)=>pow_far h2 hK:∀K,100≤K→c*D<2^K) 400 (by decide))
theorem mod_in (a:Int) {m:Int} (h:0<m):0≤a%m∧a%m<m:=⟨Int.emod_nonneg a (by omega),Int.emod_lt_of_pos a h⟩
theorem three {a:Int} (h:0≤a∧a<3):a=0∨a=1∨a=2:=by omega
theorem four {a:Int} (h:0≤a∧a<4):a=0∨a=1∨a=2∨a=3:=by omega
theorem mrate_gd (q:T3):(mrate q).Ok∧Gd 400 ((3:Nat):Rat) (mrate q).q:=by
 have h1:=mod_in q.1 (show (0:Int)<61 by decide);have h2:=three (mod_in q.2.2 (show (0:Int)<3 by decide));refine ⟨frac_ok _ (by omega),frac_gd (by omega) ?_ (by omega) (by omega)⟩;rcases h2 with h2|h2|h2<;>rw [h2]
 ·exact ⟨20,rfl⟩
 ·exact ⟨8,rfl⟩
 ·exact ⟨5,rfl⟩
theorem mstep_gd (q:T3):(mstep q).Ok∧Gd 12 ((40:Nat):Rat) (mstep q).q∧0<(mstep q).q:=by
 have h1:=mod_in q.2.1 (show (0:Int)<40 by decide);have h2:=four (mod_in q.2.2 (show (0:Int)<4 by decide));refine ⟨frac_ok _ (by omega),frac_gd (by omega) ?_ (by omega) (by omega),?_⟩
 ·rcases h2 with h2|h2|h2|h2<;>rw [h2]
  ·exact ⟨12,rfl⟩
  ·exact ⟨6,rfl⟩
  ·exact ⟨4,rfl⟩
  ·exact ⟨3,rfl⟩
 ·unfold mstep;rw [frac_q _ (by omega)];exact div_pos' (rat_pos (by omega)) (rat_pos (by omega))
theorem mfrom_gd (l:List T3):∀k:Nat,(mfrom l k).Ok∧Gd 12 ((40*k:Nat):Rat) (mfrom l k).q
 | 0=>⟨ofR_ok 0,by show Gd 12 _ (ofR 0).q;rw [q_of];exact Gd.zero 12 (by simp)⟩
 | k+1=>by
  obtain ⟨h1,h2⟩:=mfrom_gd l k;obtain ⟨k1,k2,-⟩:=mstep_gd (mnum l k);refine ⟨addR_ok h1 k1,?_⟩;show Gd 12 _ (addR (mfrom l k) (mstep (mnum l k))).q;rw [q_add h1 k1];refine (h2.add k2).bound ?_;rw [←natA,Rat.natCast_le_natCast];omega
where natA {a b:Nat}:((a+b:Nat):Rat)=(a:Rat)+b:=by rw [Rat.natCast_add]
theorem mfrom_inc (l:List T3) (k:Nat):(mfrom l k).q<(mfrom l (k+1)).q:=by
 show _<(addR (mfrom l k) (mstep (mnum l k))).q;rw [q_add (mfrom_gd l k).1 (mstep_gd _).1];have:=(mstep_gd (mnum l k)).2.2
 grind
theorem madeK_len (l:List T3) (n:Nat):(madeK l n).length=n:=by unfold madeK;simp
theorem madeK_at (l:List T3) {n k:Nat} (h:k<n):frT (madeK l n) k=mfrom l k∧rtT (madeK l n) k=mrate (mnum l k):=by
 unfold frT rtT madeK;rw [List.getElem?_map,List.getElem?_range h];exact ⟨rfl,rfl⟩
theorem madeN_in (l:List T3):0<madeN l∧madeN l≤8:=by unfold madeN;split<;>omega
theorem fit_rate {a:Rt} (ha:a.Ok) (h:Gd 400 ((3:Nat):Rat) a.q):fitT a=true:=fit_far ha (by decide) h (by decide) (by decide)
theorem fit_from {a:Rt} {k:Nat} (ha:a.Ok) (hk:k≤8) (h:Gd 12 ((40*k:Nat):Rat) a.q):fitT a=true :=
 fit_far ha (by decide) h (by decide) (Nat.lt_of_le_of_lt (Nat.mul_le_mul_right 12 (show 40*k≤320 by omega)) (by decide))
structure Mild (m:List BT):Prop where
 sch:Sch m
 fr:∀k,Gd 12 ((320:Nat):Rat) (frQ m k)
 rt:∀k,Gd 400 ((3:Nat):Rat) (rtQ m k)
theorem gd_z {D B:Nat}:Gd D (B:Rat) (zeroR).q:=by rw [q_zero];exact Gd.zero D (by exact_mod_cast Nat.zero_le B)
theorem made_mild (l:List T3):Mild (madeB l):=by
 obtain ⟨h1,h8⟩:=madeN_in l;unfold madeB
 generalize madeN l=n at h1 h8
 have hlen:=madeK_len l n;have hmem:∀b ∈ madeK l n,∃j,j<n∧b=(mfrom l j,mrate (mnum l j)):=fun b hb=>by
  unfold madeK at hb;obtain ⟨j,hj,rfl⟩:=List.mem_map.1 hb;exact ⟨j,List.mem_range.1 hj,rfl⟩
 refine ⟨⟨by omega,by omega,fun b hb=> ?_,fun b hb=> ?_,?_,fun k hk=> ?_⟩,fun k=> ?_,fun k=> ?_⟩
 ·obtain ⟨j,-,rfl⟩:=hmem b hb;exact ⟨(mfrom_gd l j).1,(mrate_gd _).1⟩
 ·obtain ⟨j,hj,rfl⟩:=hmem b hb;exact ⟨fit_from (mfrom_gd l j).1 (by omega) (mfrom_gd l j).2,fit_rate (mrate_gd _).1 (mrate_gd _).2⟩
 ·rw [(madeK_at l h1).1];rfl
 ·rw [hlen] at hk;unfold frQ;rw [(madeK_at l (show k<n by omega)).1,(madeK_at l hk).1];exact mfrom_inc l k
 ·unfold frQ;rcases Nat.lt_or_ge k n with h|h
  ·rw [(madeK_at l h).1];exact (mfrom_gd l k).2.bound (by rw [Rat.natCast_le_natCast];omega)
  ·unfold frT;rw [List.getElem?_eq_none (by omega)];exact gd_z
 ·unfold rtQ;rcases Nat.lt_or_ge k n with h|h
  ·rw [(madeK_at l h).2];exact (mrate_gd _).2
  ·unfold rtT;rw [List.getElem?_eq_none (by omega)];exact gd_z
def amtT (m:List BT) (q:T3):Rt:=addR (frT m (q.1%(m.length:Int)).toNat) (fracT (q.2.1%41-20) (q.2.2%5+1))
theorem five {a:Int} (h:0≤a∧a<5):a=0∨a=1∨a=2∨a=3∨a=4:=by omega
theorem amt_gd {m:List BT} (h:Mild m) (q:T3):(amtT m q).Ok∧Gd 60 ((340:Nat):Rat) (amtT m q).q:=by
 have h1:=mod_in q.2.1 (show (0:Int)<41 by decide);have h2:=mod_in q.2.2 (show (0:Int)<5 by decide);have ho:(fracT (q.2.1%41-20) (q.2.2%5+1)).Ok:=frac_ok _ (by omega);have hg:Gd 60 ((20:Nat):Rat) (fracT (q.2.1%41-20) (q.2.2%5+1)).q:=by
  refine frac_gd (by omega) ?_ (by omega) (by omega);rcases five h2 with h2|h2|h2|h2|h2<;>rw [h2]
  ·exact ⟨60,rfl⟩
  ·exact ⟨30,rfl⟩
  ·exact ⟨20,rfl⟩
  ·exact ⟨15,rfl⟩
  ·exact ⟨12,rfl⟩
 unfold amtT;refine ⟨addR_ok (h.sch.frOk _) ho,?_⟩;rw [q_add (h.sch.frOk _) ho];refine (((h.fr _).times 5).add hg).bound ?_;rw [←Rat.natCast_add,Rat.natCast_le_natCast];decide
theorem posQ_gd {D:Nat} {B x:Rat} (h:Gd D B x):Gd D B (posQ x):=by
 unfold posQ;split
 ·exact Gd.zero D (by have:=h.lo;have:=h.hi;grind)
 ·exact h
theorem part_gd {m:List BT} (h:Mild m) {e B:Nat} {x:Rat} (hx:Gd (12*e) (B:Rat) x) (hB:320≤B) (n k:Nat):Gd (12*e) ((B+320:Nat):Rat) (partQ (frQ m) n k x):=by
 have hf:∀k,Gd (12*e) ((320:Nat):Rat) (frQ m k):=fun k=>(h.fr k).times e
 unfold partQ;refine posQ_gd ?_;rw [Rat.natCast_add];refine Gd.sub ?_ (hf k);unfold endQ;split
 ·exact (hf _).bound (by rw [Rat.natCast_le_natCast];exact hB)
 ·exact hx
theorem sum_gd {D:Nat} {B:Nat} {f:Nat→Rat}:∀n:Nat,(∀k,k<n→Gd D (B:Rat) (f k))→Gd D ((n*B:Nat):Rat) (sumF f n)
 | 0,_=>by rw [sumF_0];exact Gd.zero D (by simp)
 | n+1,h=>by
  rw [sumF_s];have:=(sum_gd n (fun k hk=>h k (by omega))).add (h n (by omega));rw [←Rat.natCast_add] at this
  rwa [Nat.succ_mul]
theorem val_gd {m:List BT} (h:Mild m) {e B:Nat} {x:Rat} (hx:Gd (12*e) (B:Rat) x) (hB:320≤B) {n:Nat} (hn:n≤8):Gd (400*(12*e)) ((24*(B+320):Nat):Rat) (valF (frQ m) (rtQ m) n x):=by
 unfold valF;have:=sum_gd (D:=400*(12*e)) (B:=3*(B+320)) (f:=fun k=>rtQ m k*partQ (frQ m) n k x) n (fun k hk=>by
  rw [Rat.natCast_mul];exact (h.rt k).mul (part_gd h hx hB n k))
 refine this.bound ?_;rw [Rat.natCast_le_natCast]
 calc n*(3*(B+320))≤8*(3*(B+320)):=Nat.mul_le_mul_right _ hn
  _=24*(B+320):=by omega
theorem at_fit {m:List BT} (h:Mild m) {x:Rt} (hx:x.Ok) {e B:Nat} (he:0<e) (hg:Gd (12*e) (B:Rat) x.q) (hB:320≤B) (h1:400*(12*e)<2^100) (h2:24*(B+320)*(400*(12*e))<2^100):fitT (valT m x m.length)=true:=by
 refine fit_far (val_ok h.sch hx _) (by omega) ?_ h1 h2;rw [q_val h.sch hx];exact val_gd h hg hB h.sch.le
theorem amt_fit {m:List BT} (h:Mild m) (q:T3):fitT (amtT m q)=true:=fit_far (amt_gd h q).1 (by decide) (amt_gd h q).2 (by decide) (by decide)
theorem amt_val {m:List BT} (h:Mild m) {u:Rt} (hu:u.Ok) (hg:Gd 60 ((340:Nat):Rat) u.q):fitT (valT m u m.length)=true :=
 at_fit h hu (e:=5) (B:=340) (by decide) hg (by decide) (by decide) (by decide)
theorem adm_at {m:List BT} (h:Sch m) {x:Rt} (hx:x.Ok) (hf:fitT x=true):admV (m.map rawB) (rawR x)=0:=by
 unfold admV;rw [if_pos (ck_of h),if_pos (rawR_right hx),if_pos (by rw [fitsR_raw hx];exact hf)]
theorem atV_sch {m:List BT} (h:Sch m) {x:Rt} (hx:x.Ok) (hf:fitT x=true) (hv:fitT (valT m x m.length)=true):atV (m.map rawB) (rawR x)=(rawR (valT m x m.length),0):=by
 rw [atV_adm,if_pos (adm_at h hx hf),valsB_raw h,rawR_val hx,List.length_map,if_pos hv]
theorem margV_sch {m:List BT} (h:Sch m) {x:Rt} (hx:x.Ok) (hf:fitT x=true):margV (m.map rawB) (rawR x)=(rawR (margT m x),0):=by
 unfold margV;rw [if_pos (adm_at h hx hf),valsB_raw h,rawR_val hx]
end Go.Proofs.YtblgfmjlajhipaaGreatDoor
namespace Go.Proofs.YtblgfmjlajhipaaGreatDoor
open Go Go.RowKit Go.Shelf
open Dgt
structure Sto (W W' :World) (b:Nat):Prop where
 keep:∀c o,b≠c→Hid (W.heap[c]? =some o)→Hid (W'.heap[c]? =some o)
 bel:∀{n A},n≤b→Hid (Below n A W)→Hid (Below n A W')
 row:∀{B e size v n xs},Hid (W.ownsRow B e size v n xs)→Hid (∀g,v.ownBlock=some g→b≠g)→Hid (W'.ownsRow B e size v n xs)
theorem Sto.one {W:World} {b k:Nat} {u:Value}:Sto W (W.setCell ⟨b,k,none⟩ u) b :=
 ⟨fun c o hne h=>hD (row_else h.out hne u),fun hz hb=>hD (hb.out.setCell (p:=⟨b,k,none⟩) hz u),fun h hne=>hD (own_cell h.out hne.out)⟩
theorem Sto.trans {W V U:World} {b:Nat} (h:Sto W V b) (k:Sto V U b):Sto W U b :=
 ⟨fun c o hne x=>k.keep c o hne (h.keep c o hne x),fun hz hb=>k.bel hz (h.bel hz hb),fun x hne=>k.row (h.row x hne) hne⟩
theorem gN {a n b:Nat} (hn:Hid (n=a)) (hg:Hid (n≤b)):a≤b:=by rw [←hn.out];exact hg.out
theorem allR {W W' :World} {b:Nat} {o:Obj} {B:Nat} {e:TypeId} {size:Nat} {v:Value} {n:Nat} {xs:List Value} (hW:W.alloc o=W') (hb:W.heap.size=b) (h:Hid (W.ownsRow B e size v n xs)):Hid (W'.ownsRow B e size v n xs)∧Hid (∀g,v.ownBlock=some g→b≠g):=by
 subst hW hb;exact ⟨hD (h.out.alloc o),hD (own_new h.out)⟩
theorem allB {A W W' :World} {b:Nat} {o:Obj} (hW:W.alloc o=W') (hb:W.heap.size=b) (h:Hid (Below A.heap.size A W)):Hid (Below A.heap.size A W')∧Hid (A.heap.size≤b):=by
 subst hW hb;exact ⟨hD (h.out.alloc h.out.size o),hD h.out.size⟩
theorem k1_ {W:World} {b i:Nat} {cs:Array Value} {u:Value} {t:TypeId} (h:Hid (W.heap[b]? =some (.cells cs t (0,0)))) (hi:cs[i]? =some u):W.cell? ⟨b,i,none⟩=some u:=by rw [Lib.cell_of_heap h.out];exact hi
theorem put3_0_3 {W:World} {b:Nat} {x0 x1 x2:Value} {t:TypeId} (h:Hid (W.heap[b]? =some (.cells #[x0,x1,x2] t (0,0)))) (u0 u1 u2:Value) :
  ∃W',(((W.setCell ⟨b,0,none⟩ u0).setCell ⟨b,1,none⟩ u1).setCell ⟨b,2,none⟩ u2)=W' ∧Hid (W'.heap[b]? =some (.cells #[u0,u1,u2] t (0,0)))∧Sto W W' b∧W.frozen? ⟨b,0,none⟩=false∧W.frozen? ⟨b,1,none⟩=false∧W.frozen? ⟨b,2,none⟩=false∧W.cell? ⟨b,0,none⟩=some x0∧W.cell? ⟨b,1,none⟩=some x1∧W.cell? ⟨b,2,none⟩=some x2 :=
 ⟨_,rfl,hD (by simp [World.setCell,Array.getElem?_modify,h.out]),((Sto.one.trans Sto.one).trans Sto.one),frz0 h.out 0,frz0 h.out 1,frz0 h.out 2,k1_ h rfl,k1_ h rfl,k1_ h rfl⟩
theorem put4_0_4 {W:World} {b:Nat} {x0 x1 x2 x3:Value} {t:TypeId} (h:Hid (W.heap[b]? =some (.cells #[x0,x1,x2,x3] t (0,0)))) (u0 u1 u2 u3:Value) :
  ∃W',((((W.setCell ⟨b,0,none⟩ u0).setCell ⟨b,1,none⟩ u1).setCell ⟨b,2,none⟩ u2).setCell ⟨b,3,none⟩ u3)=W' ∧Hid (W'.heap[b]? =some (.cells #[u0,u1,u2,u3] t (0,0)))∧Sto W W' b∧W.frozen? ⟨b,0,none⟩=false∧W.frozen? ⟨b,1,none⟩=false∧W.frozen? ⟨b,2,none⟩=false∧W.frozen? ⟨b,3,none⟩=false∧W.cell? ⟨b,0,none⟩=some x0∧W.cell? ⟨b,1,none⟩=some x1∧W.cell? ⟨b,2,none⟩=some x2∧W.cell? ⟨b,3,none⟩=some x3 :=
 ⟨_,rfl,hD (by simp [World.setCell,Array.getElem?_modify,h.out]),(((Sto.one.trans Sto.one).trans Sto.one).trans Sto.one),frz0 h.out 0,frz0 h.out 1,frz0 h.out 2,frz0 h.out 3,k1_ h rfl,k1_ h rfl,k1_ h rfl,k1_ h rfl⟩
theorem put4_3_1 {W:World} {b:Nat} {x0 x1 x2 x3:Value} {t:TypeId} (h:Hid (W.heap[b]? =some (.cells #[x0,x1,x2,x3] t (0,0)))) (u0:Value) :
  ∃W',(W.setCell ⟨b,3,none⟩ u0)=W' ∧Hid (W'.heap[b]? =some (.cells #[x0,x1,x2,u0] t (0,0)))∧Sto W W' b∧W.frozen? ⟨b,3,none⟩=false∧W.cell? ⟨b,3,none⟩=some x3 :=
 ⟨_,rfl,hD (by simp [World.setCell,Array.getElem?_modify,h.out]),Sto.one,frz0 h.out 3,k1_ h rfl⟩
end Go.Proofs.YtblgfmjlajhipaaGreatDoor
