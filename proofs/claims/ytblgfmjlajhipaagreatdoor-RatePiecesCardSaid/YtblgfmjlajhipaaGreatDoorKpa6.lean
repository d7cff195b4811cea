/- RatePieces: contracts and the law's walk. Each theorem names its conditions. -/
import Derived.RangeFuncKeeps
import Derived.OwnWalkIn
import Derived.TacticsInMore
import Derived.LoopNIn
import Derived.LoopIn
import Derived.Shelf.SortM.Plain
import Derived.Shelf.SortM.SortNone
import Derived.Ground.GgzProg
import Derived.Ground.SlgmProg
import Derived.Maps.Own
import Derived.Maps.OwnOps
import Derived.Maps.OwnSet
import Derived.Maps.Views
import Derived.Shelf.SlIterI.Nil
import Derived.WalkKit
import Derived.Deep.LoopGhost
import Derived.Deep.QuietTactic
import Derived.BigQuiet
import Derived.Test.YtblgfmjlajhipaaGreatDoorProg
import Derived.WalkSpells
import Derived.WalkLawsBesides
import Derived.IntWalk
import Derived.Lib.Hide
import Derived.Laws.BitsAllLaws
import Derived.StillTailTactics
import Derived.Deep.OwnRows
import Derived.Lib.ConvBytes
import Derived.Below
import Derived.Shelf.Strings.Trim
import Derived.Shelf.Small.Utf8
import Derived.Shelf.Small.Bits
import Derived.Shelf.Small.Strs
import Derived.Shelf.Strconv.Itoa0
import Derived.Shelf.Strings.Search1
import Derived.Shelf.Strings.Runes
import Derived.Shelf.Strings.AsciiSet
import Derived.Shelf.Unicode.DecodeSlow
import Derived.Shelf.Unicode.DecodeAny
import Derived.Deep.DeepCutAuto
import Derived.Laws.AppendOwn
import Derived.Deep.DeepAppendWide
import Derived.Test.YtblgfmjlajhipaaGreatDoorKpa2
import Derived.Test.YtblgfmjlajhipaaGreatDoorKpa5
import Derived.Test.YtblgfmjlajhipaaGreatDoorZd1
import Derived.Test.YtblgfmjlajhipaaGreatDoorZd0
import Derived.Test.YtblgfmjlajhipaaGreatDoorZc8
import Derived.Test.YtblgfmjlajhipaaGreatDoorZc7
import Derived.Test.YtblgfmjlajhipaaGreatDoorZc6
import Derived.Test.YtblgfmjlajhipaaGreatDoorZb7
import Derived.Test.YtblgfmjlajhipaaGreatDoorZb5
import Derived.Test.YtblgfmjlajhipaaGreatDoorZa6
import Derived.Test.YtblgfmjlajhipaaGreatDoorZb4
import Derived.Test.YtblgfmjlajhipaaGreatDoorZa7
import Derived.Test.YtblgfmjlajhipaaGreatDoorZa5
import Derived.Test.YtblgfmjlajhipaaGreatDoorZa4
import Derived.Test.YtblgfmjlajhipaaGreatDoorZa3
import Derived.Test.YtblgfmjlajhipaaGreatDoorZa0
import Derived.Test.YtblgfmjlajhipaaGreatDoorZa1
import Derived.Test.YtblgfmjlajhipaaGreatDoorKpa0
import Derived.Test.YtblgfmjlajhipaaGreatDoorZa2
import Derived.Test.YtblgfmjlajhipaaGreatDoorZb6
import Derived.Test.YtblgfmjlajhipaaGreatDoorKpa1
import Derived.Test.YtblgfmjlajhipaaGreatDoorZc5
import Derived.Test.YtblgfmjlajhipaaGreatDoorZc4
import Derived.Test.YtblgfmjlajhipaaGreatDoorZc3
import Derived.Test.YtblgfmjlajhipaaGreatDoorZc2
import Derived.Test.YtblgfmjlajhipaaGreatDoorZc1
import Derived.Test.YtblgfmjlajhipaaGreatDoorZc0
import Derived.Test.YtblgfmjlajhipaaGreatDoorZb9
import Derived.Test.YtblgfmjlajhipaaGreatDoorZb8
import Derived.Test.YtblgfmjlajhipaaGreatDoorZc9
set_option maxHeartbeats 16000000
set_option linter.unusedVariables false
namespace Go.Proofs.YtblgfmjlajhipaaGreatDoor
open Go.RowKit Go.Shelf
open Dgt
def InvM (m:List BT):Prop:=∀k,k<m.length→rtQ m k=0∨∃p:Nat,0<p∧p≤50∧Gd p ((80:Nat):Rat) (1/rtQ m k)
theorem one_div {a d:Int} (ha:a≠0) (hd:0<d) (h:d≤80):Gd a.natAbs ((80:Nat):Rat) (1/((a:Rat)/d)):=by
 have hd' :=rat_pos hd;have ha' :(a:Rat)≠0:=by exact_mod_cast ha
 have e:1/((a:Rat)/d)=(d:Rat)/a:=by grind
 rw [e];have key:∀n:Nat,0<n→Gd n ((80:Nat):Rat) ((d:Rat)/(n:Int)):=fun n hn=>by
  have hp:(0:Int)<(n:Int):=by omega
  have hp' :=rat_pos hp;have hm:(d:Rat)/((n:Int):Rat)*((n:Int):Rat)=d:=Rat.div_mul_cancel (by grind);have h1:((n:Int):Rat)=(n:Rat):=Rat.intCast_natCast n;have hq:=div_pos' hd' hp';have h1n:(1:Rat)≤((n:Int):Rat):=by exact_mod_cast (show (1:Int)≤n by omega)
  have hdd:(d:Rat)≤((80:Int):Rat):=by exact_mod_cast h
  have e80:((80:Int):Rat)=((80:Nat):Rat):=rfl;rw [e80] at hdd
  generalize (d:Rat)/((n:Int):Rat)=t at hm hq
  have h2:=Rat.mul_le_mul_of_nonneg_left h1n (show 0≤t by grind);have h80:(0:Rat)≤((80:Nat):Rat):=by exact_mod_cast Nat.zero_le 80
  exact ⟨⟨d,by rw [←h1];exact hm⟩,by grind,by grind⟩
 rcases Int.lt_or_gt_of_ne ha with hlt|hgt
 ·have e2:(d:Rat)/a= -((d:Rat)/((a.natAbs:Nat):Int)):=by
   have:((a.natAbs:Nat):Int)= -a:=by omega
   rw [this,Rat.intCast_neg];grind
  rw [e2];exact (key a.natAbs (by omega)).neg
 ·have e2:((a.natAbs:Nat):Int)=a:=by omega
  have:=key a.natAbs (by omega)
  rwa [e2] at this
theorem made_inv (l:List T3):InvM (madeB l):=fun k hk=>by
 unfold madeB at hk ⊢;rw [madeK_len] at hk;unfold rtQ;rw [(madeK_at l hk).2]
 generalize mnum l k=q
 have h1:=mod_in q.1 (show (0:Int)<61 by decide);have h2:=mod_in q.2.2 (show (0:Int)<3 by decide);unfold mrate;rw [frac_q _ (by omega)]
 by_cases e:q.1%61-10=0
 ·left;rw [e];simp;grind
 ·exact .inr ⟨(q.1%61-10).natAbs,by omega,by omega,one_div e (by omega) (by omega)⟩
theorem raw_szk {m:List BT} (h:∀b ∈ m,Rz b.1 1000∧Rz b.2 1000):SzK (m.map rawB) 1100000:=fun b hb=>by
 obtain ⟨c,hc,rfl⟩:=List.mem_map.1 hb;have h1:=rawR_sz ((h c hc).1.mono (show 1000≤1000 by decide));have h2:=rawR_sz ((h c hc).2.mono (show 1000≤1000 by decide));exact ⟨⟨Nat.le_trans h1.1 (by decide),Nat.le_trans h1.2 (by decide)⟩,Nat.le_trans h2.1 (by decide),Nat.le_trans h2.2 (by decide)⟩
theorem sch_szk {m:List BT} (h:Sch m):SzK (m.map rawB) 1100000:=raw_szk fun b hb=>⟨(fitT_sz (h.fit b hb).1).mono (by decide),(fitT_sz (h.fit b hb).2).mono (by decide)⟩
theorem raw_szr {x:Rt} (h:Rz x 1000):(rawR x).n.size≤1100000∧(rawR x).d.size≤1100000:=⟨Nat.le_trans (rawR_sz h).1 (by decide),Nat.le_trans (rawR_sz h).2 (by decide)⟩
theorem fit_rz {x:Rt} (h:fitT x=true):Rz x 1000:=(fitT_sz h).mono (by decide)
section
variable (nm:ByteArray) (um ud:Int) (v:Value) (m:List BT)
theorem At_s (x:Rt) (h:Sch m) (hx:x.Ok) (hf:fitT x=true) (hv:fitT (valT m x m.length)=true) (wq:World) (hl:LstK wq v (m.map rawB)) :
  Gv 21 #[.agg #[.string nm,.int .i64 um,.int .i64 ud,v],rtV x] wq (.tuple #[rtV (valT m x m.length),.int .i64 0]):=by
 unfold Gv;have h1:=At_any nm um ud v (m.map rawB) (rawR x) (sch_szk h) (raw_szr (fit_rz hf)) wq hl;rw [atV_sch h hx hf hv] at h1;exact h1
theorem Marg_s (x:Rt) (h:Sch m) (hx:x.Ok) (hf:fitT x=true) (wq:World) (hl:LstK wq v (m.map rawB)) :
  Gv 25 #[.agg #[.string nm,.int .i64 um,.int .i64 ud,v],rtV x] wq (.tuple #[rtV (margT m x),.int .i64 0]):=by
 unfold Gv;have h1:=Marginal_any nm um ud v (m.map rawB) (rawR x) (sch_szk h) (raw_szr (fit_rz hf)) wq hl;rw [margV_sch h hx hf] at h1;exact h1
end
end Go.Proofs.YtblgfmjlajhipaaGreatDoor
namespace Go.Proofs.YtblgfmjlajhipaaGreatDoor
open Go Go.RowKit
section
variable {P:Program} {ops:Array Oper} {Q:Exit→Act→World→Prop} {T0:Array Value}
def BoxAt (ops:Array Oper) (w0:World) (i j:Nat) (Z N:Obj) (listed:Array Bool) (a:Act) (w:World):Prop :=
 listed.getD i false=true→∃g,inSlot a (dstOf ops i)=.pointer (some ⟨g,0,none⟩)∧w0.heap.size≤g∧w.heap[g]? =some (if listed.getD j false=true then N else Z)
theorem BoxAt.keep {w0:World} {i j k:Nat} {Z N:Obj} {listed:Array Bool} {a:Act} {w w' :World} {o:Oper} {v:Value} (h:BoxAt ops w0 i j Z N listed a w) (hsl:slotsB ops T0.size=true) (ho:ops[k]? =some o) (hki:k≠i) (hkj:k≠j)
  (hk:listed.getD i false=true→∀g o,inSlot a (dstOf ops i)=.pointer (some ⟨g,0,none⟩)→w.heap[g]? =some o→w'.heap[g]? =some o):BoxAt ops w0 i j Z N (listed.setIfInBounds k true) (a.put o.dst v) w' :=by
 intro hl
 rw [getD_set_ne false hki] at hl
 obtain ⟨g,h1,h2,h3⟩:=h hl
 refine ⟨g,by rw [slot_other hsl ho (Ne.symm hki)];exact h1,h2,?_⟩
 rw [getD_set_ne false hkj]
 exact hk hl g _ h1 h3
theorem NewAt.put2 {nw:Nat→Bool} {listed:Array Bool} {a:Act} {w w' :World} {i:Nat} {o:Oper} {v:Value} (h:NewAt ops nw listed a w) (hsl:slotsB ops T0.size=true) (ho:ops[i]? =some o) (hz:w.heap.size≤w'.heap.size) (hn:nw i=false) :
  NewAt ops nw (listed.setIfInBounds i true) (a.put o.dst v) w' :=by
 have key:∀j,nw j=true→j≠i:=fun j hj e=>by rw [e,hn] at hj;cases hj
 refine ⟨fun j hj hl=> ?_,fun j k hj hk hne hlj hlk=> ?_⟩
 ·have hji:=key j hj
  rw [slot_other hsl ho hji]
  rw [getD_set_ne false (Ne.symm hji)] at hl
  obtain ⟨g,h1,h2⟩:=h.low j hj hl
  exact ⟨g,h1,by omega⟩
 ·rw [slot_other hsl ho (key j hj),slot_other hsl ho (key k hk)]
  rw [getD_set_ne false (Ne.symm (key j hj))] at hlj
  rw [getD_set_ne false (Ne.symm (key k hk))] at hlk
  exact h.ne j k hj hk hne hlj hlk
theorem dep_up {i j:Nat} {o:Oper} {listed:Array Bool} (hd:(ops[j]?.map fun o=>o.after.any fun e=>Region.binds .any e&&(e.on==i))=some true) (ho:ops[j]? =some o) (h:∀e ∈ o.after,Region.binds .any e=true→listed.getD e.on false=true):listed.getD i false=true:=by
 rw [ho] at hd
 obtain ⟨e,he,h4⟩:=Array.any_eq_true'.1 (Option.some.inj hd)
 simp only [Bool.and_eq_true,beq_iff_eq] at h4
 have:=h e he h4.1
 rwa [h4.2] at this
theorem wp_region_two {id:Nat} {w:World} (hm:P.follows .mixedOrders=true) (E:Nat→Value) (i1 i2 j1 j2:Nat) (Z N1 N2:Obj) (b:Nat→Bool) (hne:i1≠i2∧i1≠j1∧i1≠j2∧i2≠j1∧i2≠j2∧j1≠j2) (hlt:i1<ops.size∧i2<ops.size∧j1<ops.size∧j2<ops.size)
  (hov:overB ops T0.size b=true) (hsl:slotsB ops T0.size=true) (hbk:backR ops=true)
  (hd1:(ops[j1]?.map fun o=>o.after.any fun e=>Region.binds .any e&&(e.on==i1))=some true) (hd2:(ops[j2]?.map fun o=>o.after.any fun e=>Region.binds .any e&&(e.on==i2))=some true)
  (hpure:∀i,i<ops.size→i≠i1→i≠i2→i≠j1→i≠j2→∀o listed a w',RAt ops T0 (fun j v _=>j≠i1→j≠i2→j≠j1→j≠j2→v=E j) w i o listed a w' →
   ∀K:Act→World→Prop,(∀v w'',gives o.dst v=E i→w'' =w' →K (a.put o.dst v) w'')→wpOp P ops Q i K a w')
  (hnew:∀i,i=i1∨i=i2→∀o a w',ops[i]? =some o→∀K:Act→World→Prop,(∀v w'' g,gives o.dst v=.pointer (some ⟨g,0,none⟩)→w'.heap.size=g→w''.heap[g]? =some Z→w''.heap.size=g+1→Below w'.heap.size w' w'' →K (a.put o.dst v) w'')→wpOp P ops Q i K a w')
  (hput:∀i j N,(i=i1∧j=j1∧N=N1)∨(i=i2∧j=j2∧N=N2)→∀o listed a w' g,RAt ops T0 (fun j v _=>j≠i1→j≠i2→j≠j1→j≠j2→v=E j) w j o listed a w' →inSlot a (dstOf ops i)=.pointer (some ⟨g,0,none⟩)→w.heap.size≤g→w'.heap[g]? =some Z →
   ∀K:Act→World→Prop,(∀v w'',w''.heap[g]? =some N→(∀c o,g≠c→w'.heap[c]? =some o→w''.heap[c]? =some o)→w''.heap.size=w'.heap.size→Below w.heap.size w w'' →K (a.put o.dst v) w'')→wpOp P ops Q j K a w')
  (hend:∀(s:Nat→Value) w' g1 g2,(∀j,j<ops.size→j≠i1→j≠i2→j≠j1→j≠j2→(match dstOf ops j with|some d=>s d|none=>undef)=E j)→(match dstOf ops i1 with|some d=>s d|none=>undef)=.pointer (some ⟨g1,0,none⟩)→(match dstOf ops i2 with|some d=>s d|none=>undef)=.pointer (some ⟨g2,0,none⟩) →
   w.heap.size≤g1→w.heap.size≤g2→g1≠g2→w'.heap[g1]? =some N1→w'.heap[g2]? =some N2→Below w.heap.size w w' →Q .normal { tmps:=(over b s 0 T0.toList).toArray,defers:=[] } w') :
  (Code.region id ops true).wp P Q { tmps:=T0,defers:=[] } w:=by
 obtain ⟨n1,n2,n3,n4,n5,n6⟩:=hne
 have hI0:∀i,i≠i1→i≠i2→((i==i1)||(i==i2))=false:=fun i h1 h2=>by simp [h1,h2]
 refine wp_region_inv (fun listed a w' =>RSt ops T0 (fun _ j v _=>j≠i1→j≠i2→j≠j1→j≠j2→v=E j) (fun _ w' =>Below w.heap.size w w') listed a w' ∧NewAt ops (fun i=>(i==i1)||(i==i2)) listed a w' ∧BoxAt ops w i1 j1 Z N1 listed a w' ∧BoxAt ops w i2 j2 Z N2 listed a w') hm ?_ ?_ ?_
 ·exact ⟨⟨by simp,rfl,rfl,fun _ _=>rfl,fun j hj=>(by rw [getD_falses] at hj;cases hj),(Below.refl _ _).drew,fun j o _ hj=>by rw [getD_falses] at hj;cases hj⟩,⟨fun i _ hi=>(by rw [getD_falses] at hi;cases hi),fun i j _ _ _ hi _=>(by rw [getD_falses] at hi;cases hi)⟩,fun h=>(by rw [getD_falses] at h;cases h),fun h=>(by rw [getD_falses] at h;cases h)⟩
 ·rintro listed a w' ⟨hI,hnw,hb1,hb2⟩ i o ho hun hall
  have hio:i<ops.size:=(Array.getElem?_eq_some_iff.1 ho).1
  have hun' :listed.getD i false=false:=by
   rcases Nat.lt_or_ge i listed.size with h' |h'
   ·simp [h'] at hun ⊢;exact hun
   ·simp [Array.getElem?_eq_none h'] at hun
  have hA:RAt ops T0 (fun j v _=>j≠i1→j≠i2→j≠j1→j≠j2→v=E j) w i o listed a w' :=⟨ho,hall,fun t ht=>hI.base t (fun j hj=>absurd hj (free_ne ht)),hI.vals,hI.glob,hun',hI.closed,hI.base⟩
  have key:∀v w'',(i≠i1→i≠i2→i≠j1→i≠j2→gives o.dst v=E i)→Below w.heap.size w w'' →RSt ops T0 (fun _ j v _=>j≠i1→j≠i2→j≠j1→j≠j2→v=E j) (fun _ w' =>Below w.heap.size w w') (listed.setIfInBounds i true) (a.put o.dst v) w'' :=fun v w'' h1 h2 =>
   hI.put_one hsl ho hun' hall h1 h2 (fun j u _ _ hS=>hS)
  have hbef:∀i j,(ops[j]?.map fun o=>o.after.any fun e=>Region.binds .any e&&(e.on==i))=some true→listed.getD i false=false→listed.getD j false=false:=fun i j hd hf=>by
   cases h:listed.getD j false with
   | false=>rfl
   | true =>
    cases hoj:ops[j]? with
    | none=>rw [hoj] at hd;cases hd
    | some oj =>
     have:=dep_up hd hoj (fun e he hb=>hI.closed j oj hoj h e he hb)
     rw [hf] at this;cases this
  by_cases e1:i=i1
  ·subst e1
   refine hnew i (.inl rfl) o a w' ho _ fun v w'' g hv hg hz hsz hb=>⟨key v w'' (fun h=>absurd rfl h) (hI.glob.trans (hb.mono hI.glob.size)),hnw.put hsl hI.size ho hI.lsize hb (fun _=>⟨g,hv,by omega,by omega⟩),fun _=>⟨g,by rw [slot_own hsl hI.size ho];exact hv,by have:=hI.glob.size;omega,?_⟩,hb2.keep hsl ho n1 n3 (fun _ g' o' _ h2=>(hb.block g' (Array.getElem?_eq_some_iff.1 h2).1).trans h2)⟩
   rw [getD_set_ne false n2,hbef i j1 hd1 hun']
   simpa using hz
  by_cases e2:i=i2
  ·subst e2
   refine hnew i (.inr rfl) o a w' ho _ fun v w'' g hv hg hz hsz hb=>⟨key v w'' (fun _ h=>absurd rfl h) (hI.glob.trans (hb.mono hI.glob.size)),hnw.put hsl hI.size ho hI.lsize hb (fun _=>⟨g,hv,by omega,by omega⟩),hb1.keep hsl ho (Ne.symm n1) n4 (fun _ g' o' _ h2=>(hb.block g' (Array.getElem?_eq_some_iff.1 h2).1).trans h2),fun _=>⟨g,by rw [slot_own hsl hI.size ho];exact hv,by have:=hI.glob.size;omega,?_⟩⟩
   rw [getD_set_ne false n5,hbef i j2 hd2 hun']
   simpa using hz
  by_cases e3:i=j1
  ·subst e3
   have hl1:=dep_up hd1 ho hall
   obtain ⟨g,hg1,hg2,hg3⟩:=hb1 hl1
   rw [hun'] at hg3
   refine hput i1 i N1 (.inl ⟨rfl,rfl,rfl⟩) o listed a w' g hA hg1 hg2 (by simpa using hg3) _ fun v w'' hN hk hsz hb=>⟨key v w'' (fun _ _ h=>absurd rfl h) hb,hnw.put2 hsl ho (by omega) (hI0 i (Ne.symm n2) (Ne.symm n4)),fun _=>⟨g,by rw [slot_other hsl ho n2];exact hg1,hg2,?_⟩,hb2.keep hsl ho (Ne.symm n4) n6 (fun hl2 g' o' h1 h2=>hk g' o' (fun e=> ?_) h2)⟩
   ·rw [show (listed.setIfInBounds i true).getD i false=true by simp [hI.lsize,hio]];simpa using hN
   ·subst e;exact hnw.ne i1 i2 (by simp) (by simp) n1 hl1 hl2 (hg1.trans h1.symm)
  by_cases e4:i=j2
  ·subst e4
   have hl2:=dep_up hd2 ho hall
   obtain ⟨g,hg1,hg2,hg3⟩:=hb2 hl2
   rw [hun'] at hg3
   refine hput i2 i N2 (.inr ⟨rfl,rfl,rfl⟩) o listed a w' g hA hg1 hg2 (by simpa using hg3) _ fun v w'' hN hk hsz hb=>⟨key v w'' (fun _ _ _ h=>absurd rfl h) hb,hnw.put2 hsl ho (by omega) (hI0 i (Ne.symm n3) (Ne.symm n5)),hb1.keep hsl ho (Ne.symm n3) (Ne.symm n6) (fun hl1 g' o' h1 h2=>hk g' o' (fun e=> ?_) h2),fun _=>⟨g,by rw [slot_other hsl ho n5];exact hg1,hg2,?_⟩⟩
   ·subst e;exact hnw.ne i1 i2 (by simp) (by simp) n1 hl1 hl2 (h1.trans hg1.symm)
   ·rw [show (listed.setIfInBounds i true).getD i false=true by simp [hI.lsize,hio]];simpa using hN
  refine hpure i hio e1 e2 e3 e4 o listed a w' hA _ fun v w'' hv hw=> ?_
  subst hw
  exact ⟨key v w'' (fun _ _ _ _=>hv) hI.glob,hnw.put2 hsl ho (Nat.le_refl _) (hI0 i e1 e2),hb1.keep hsl ho e1 e3 (fun _ _ _ _ h=>h),hb2.keep hsl ho e2 e4 (fun _ _ _ _ h=>h)⟩
 ·rintro listed a w' ⟨hI,hnw,hb1,hb2⟩ hr
  have hupl:∀j,j<ops.size→listed.getD j false=true:=fun j hj=>by
   have:=all_up hI.lsize (fun j o ho e he hb=>by
    have h1:=List.all_eq_true.1 hbk j (by simpa using (Array.getElem?_eq_some_iff.1 ho).1)
    rw [ho] at h1
    have h2:=Array.all_eq_true'.1 (show (o.after.all fun e=> !Region.binds .any e||decide (e.on<j))=true from h1) e he
    rw [hb] at h2
    simpa using h2) hr j hj
   have hs:j<listed.size:=by rw [hI.lsize];exact hj
   simpa [hs] using this
  have hT:a.tmps=fill ops (fun d=>a.tmps.getD d undef) ops.size T0:=by
   refine arr_ext (by rw [fill_size];exact hI.size) fun t=> ?_
   rw [fill_get ops _ T0 (fun j d h=>slots_lt hsl h) t]
   split
   ·rfl
   ·rename_i hno
    exact hI.base t fun j hj=>absurd ⟨j,dstOf_lt hj,hj⟩ hno
  have ha:a={ tmps:=fill ops (fun d=>a.tmps.getD d undef) ops.size T0,defers:=[] }:=by
   obtain ⟨tm,df⟩:=a
   have hd:df=[]:=hI.defers
   subst hd
   rw [←hT]
  have hin:∀j,(match dstOf ops j with|some d=>a.tmps.getD d undef|none=>undef)=inSlot a (dstOf ops j):=fun j=>by cases dstOf ops j<;>rfl
  obtain ⟨l1,l2,l3,l4⟩:=hlt
  obtain ⟨g1,a1,a2,a3⟩:=hb1 (hupl i1 l1)
  obtain ⟨g2,c1,c2,c3⟩:=hb2 (hupl i2 l2)
  rw [hupl j1 l3] at a3;rw [hupl j2 l4] at c3
  have hgg:g1≠g2:=fun e=>by
   subst e;exact hnw.ne i1 i2 (by simp) (by simp) n1 (hupl i1 l1) (hupl i2 l2) (a1.trans c1.symm)
  rw [ha,fill_over hsl hov]
  exact hend _ w' g1 g2 (fun j hj h1 h2 h3 h4=>by rw [hin];exact hI.vals j (hupl j hj) h1 h2 h3 h4) (by rw [hin];exact a1) (by rw [hin];exact c1) a2 c2 hgg (by simpa using a3) (by simpa using c3) hI.glob
end
end Go.Proofs.YtblgfmjlajhipaaGreatDoor
