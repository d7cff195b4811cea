/- Contracts that the proofs of this seat share. Each theorem names its conditions. -/
import Derived.RangeFuncNested
import Derived.RangeFuncCalls
import Derived.RangeFuncLeaves
import Derived.Shelf.Abstract
import Derived.Below
import Derived.Lib.LaidIn
import Derived.RegionTactic
import Derived.KernelRfl
import Derived.Lib.Hide
import Derived.OrdersIn
set_option maxHeartbeats 16000000
set_option linter.unusedVariables false
namespace Go.Proofs.YtblgfmjlajhipaaGreatDoor
open Go.RowKit
structure Fr (m:Nat→Prop) (A B:World):Prop where
 os:B.os=A.os
 tape:B.tape=A.tape
 output:B.output=A.output
 size:A.heap.size≤B.heap.size
 block:∀b,b<A.heap.size→¬m b→B.heap[b]? =A.heap[b]?
section
variable {m m' :Nat→Prop} {A B C:World}
theorem Fr.refl (m:Nat→Prop) (A:World):Fr m A A:=⟨rfl,rfl,rfl,Nat.le_refl _,fun _ _ _=>rfl⟩
theorem Fr.trans' (h:Fr m A B) (k:Fr m' B C) (hm:∀b,m' b→m b∨A.heap.size≤b):Fr m A C :=
 ⟨k.os.trans h.os,k.tape.trans h.tape,k.output.trans h.output,Nat.le_trans h.size k.size,fun b hb hn =>
  (k.block b (Nat.lt_of_lt_of_le hb h.size) (fun hc=>(hm b hc).elim hn (fun h' =>absurd hb (Nat.not_lt.2 h')))).trans (h.block b hb hn)⟩
theorem Fr.trans (h:Fr m A B) (k:Fr m B C):Fr m A C:=h.trans' k fun _ hb=>.inl hb
theorem Fr.mono (h:Fr m A B) (hm:∀b,m b→m' b):Fr m' A B:=⟨h.os,h.tape,h.output,h.size,fun b hb hn=>h.block b hb (fun hc=>hn (hm b hc))⟩
theorem Fr.drew (h:Fr m A B):Fr m A B.drew:=⟨h.os,h.tape,h.output,h.size,h.block⟩
theorem Fr.alloc (h:Fr m A B) (o:Obj):Fr m A (B.alloc o) :=
 ⟨h.os,h.tape,h.output,Nat.le_trans h.size (by simp),fun b hb hn=>(Below.heap_alloc B o b (Nat.lt_of_lt_of_le hb h.size)).trans (h.block b hb hn)⟩
theorem Fr.setCell (h:Fr m A B) {p:Addr} (hp:m p.block∨A.heap.size≤p.block) (u:Value):Fr m A (B.setCell p u) :=
 ⟨h.os,h.tape,h.output,by simpa [World.setCell] using h.size,fun b hb hn=>(Below.heap_setCell B p u b (by
  rintro rfl
  exact hp.elim hn (fun h' =>absurd hb (Nat.not_lt.2 h')))).trans (h.block b hb hn)⟩
theorem Fr.grown (h:Fr m A B) {row:Option Nat} (hg:B.grownBy C row) (hr:∀k,row=some k→m k∨A.heap.size≤k):Fr m A C :=
 ⟨hg.os.trans h.os,hg.tape.trans h.tape,hg.output.trans h.output,Nat.le_trans h.size hg.size,fun b hb hn =>
  (hg.block b (Nat.lt_of_lt_of_le hb h.size) (fun e=>(hr b e.symm).elim hn (fun h' =>absurd hb (Nat.not_lt.2 h')))).trans (h.block b hb hn)⟩
theorem Fr.putObj (h:Fr m A B) {l:Nat} (hl:m l∨A.heap.size≤l) (o:Obj):Fr m A (B.putObj l o) :=
 h.grown (grownBy_putObj' B l o) fun k e=>by cases e;exact hl
theorem Fr.of_below {n:Nat} (h:Below n A B) (hm:∀b,n≤b→b<A.heap.size→m b):Fr m A B :=
 ⟨h.os,h.tape,h.output,h.size,fun b hb hn=>h.block b (Nat.lt_of_not_le fun hc=>hn (hm b hc hb))⟩
theorem Fr.of_new (h:Below A.heap.size A B) (m:Nat→Prop):Fr m A B:=Fr.of_below h fun b h1 h2=>absurd h2 (Nat.not_lt.2 h1)
theorem Fr.below (h:Fr m A B) {n:Nat} (hn:n≤A.heap.size) (hm:∀b,b<n→¬m b):Below n A B :=
 ⟨h.os,h.tape,h.output,h.size,fun b hb=>h.block b (Nat.lt_of_lt_of_le hb hn) (hm b hb)⟩
theorem Fr.cell (h:Fr m A B) {p:Addr} (hp:p.block<A.heap.size) (hn:¬m p.block):B.cell? p=A.cell? p:=World.cell?_of_block (w:=A) (h.block _ hp hn)
theorem Fr.frozen (h:Fr m A B) {p:Addr} (hp:p.block<A.heap.size) (hn:¬m p.block):B.frozen? p=A.frozen? p:=World.frozen?_of_block (w:=A) (h.block _ hp hn)
theorem Fr.heap (h:Fr m A B) {b:Nat} {o:Obj} (hb:A.heap[b]? =some o) (hn:¬m b):B.heap[b]? =some o:=(h.block b (Array.getElem?_eq_some_iff.1 hb).1 hn).trans hb
end
def Hangs {β:Type} (I:β→(Nat→Prop)→World→Prop):Prop:=∀s m A B,I s m A→Fr (fun b=>¬m b) A B→I s m B
def IterC {α:Type} (P:Program) (gf:Nat) (lb:Array Value) (encs:α→Array Value) (xs:List α) (Bx:Nat→Prop) (w0:World):Prop :=
 ∀(l:Nat) (J:List α→(Nat→Prop)→World→Prop) (Jx:List α→World→Prop) (m0:Nat→Prop) (W:World),
  Below w0.heap.size w0 W→Hangs J→(∀pre m A b,J pre m A→m b→b<A.heap.size∧¬Bx b) →
  (∀pre x rest m W1,xs=pre++x::rest→J pre m W1→YieldAt Fence.wide 0 P l (encs x) W1 fun e W' =>
   (e=.returned (.bool true)∧∃m',J (pre++[x]) m' W' ∧Fr m W1 W' ∧∀b,m' b→m b∨W1.heap.size≤b) ∨
   (e=.returned (.bool false)∧Jx (pre++[x]) W' ∧Fr m W1 W')) →
  J [] m0 W →
  CallsIn Fence.wide 0 P gf (#[.func (.yield l) #[] #[]]++lb) W fun e W' =>
   (∃v,e=.returned v)∧Fr (fun b=>m0 b∨Bx b) W W' ∧((∃m,J xs m W')∨∃pre,Jx pre W')
def rpost {α:Type} (I:List α→(Nat→Prop)→World→Prop) (Ix:Code→List α→World→Prop) (m:Nat→Prop) (ys:List α) (W:World):Exit→Act→World→Prop
 | .normal,_,W' =>∃m',I ys m' W' ∧Fr m W W' ∧∀b,m' b→m b∨W.heap.size≤b
 | .ret,_,W' =>Ix .ret ys W' ∧Fr m W W'
 | .exit id,_,W' =>Ix (.exit id) ys W' ∧Fr m W W'
 | .goto t,_,W' =>Ix (.goto t) ys W' ∧Fr m W W'
 | .panic _,_,_=>False
 | .outgrown,_,_=>False
variable {P:Program}
end Go.Proofs.YtblgfmjlajhipaaGreatDoor
namespace Go.Proofs.YtblgfmjlajhipaaGreatDoor
open Go.RowKit Go.Shelf
theorem heap_self {W:World} {b k:Nat} {cs:Array Value} {t:TypeId} {fr:Nat × Nat} (h:W.heap[b]? =some (.cells cs t fr)) (u:Value):(W.setCell ⟨b,k,none⟩ u).heap[b]? =some (.cells (cs.setIfInBounds k u) t fr):=by
 simp [World.setCell,Array.getElem?_modify,h]
theorem heap_put_other {W:World} {b b' :Nat} {o:Obj} (hne:b≠b'):(W.putObj b' o).heap[b]? =W.heap[b]? :=by
 simp [World.putObj,Ne.symm hne]
theorem heap_other {W:World} {b b' k:Nat} (hne:b≠b') (u:Value):(W.setCell ⟨b',k,none⟩ u).heap[b]? =W.heap[b]? :=Below.heap_setCell _ _ _ _ hne
theorem box_cell {W:World} {b:Nat} {v:Value} {t:TypeId} (h:W.heap[b]? =some (.cells #[v] t (0,0))):W.cell? ⟨b,0,none⟩=some v∧W.frozen? ⟨b,0,none⟩=false:=by
 constructor<;>simp [World.cell?,World.frozen?,h]
theorem block_new {A B:World} (h:Below A.heap.size A B) {b:Nat} {o:Obj} (hb:A.heap[b]? =some o):B.heap[b]? =some o:=(Fr.of_new h (fun _=>False)).heap hb (fun h=>h)
end Go.Proofs.YtblgfmjlajhipaaGreatDoor
namespace Go.Proofs.YtblgfmjlajhipaaGreatDoor
open Go
section
variable {P:Program} {ops:Array Oper} {Q:Exit→Act→World→Prop} {md:Region.Mode}
def left (n:Nat) (listed:Array Bool):Nat:=(List.range n).countP fun j=> !listed.getD j true
theorem left_set {n i:Nat} {listed:Array Bool} (hi:i<n) (hl:listed.getD i true=false):left n (listed.setIfInBounds i true)+1=left n listed:=by
 unfold left
 have hsz:i<listed.size:=by
  rcases Nat.lt_or_ge i listed.size with h|h
  ·exact h
  ·simp [Array.getElem?_eq_none h] at hl
 induction n with
 | zero=>omega
 | succ n ih =>
  rw [List.range_succ,List.countP_append,List.countP_append]
  by_cases hin:i=n
  ·subst hin
   have h1:(List.range i).countP (fun j=> !(listed.setIfInBounds i true).getD j true)=(List.range i).countP (fun j=> !listed.getD j true):=by
    apply List.countP_congr
    intro j hj
    have:i≠j:=by have:=List.mem_range.1 hj;omega
    rw [getD_set_ne true this]
   have h2:(listed.setIfInBounds i true).getD i true=true:=by simp [hsz]
   have e1:List.countP (fun j=> !(listed.setIfInBounds i true).getD j true) [i]=0:=by rw [List.countP_singleton,h2];rfl
   have e2:List.countP (fun j=> !listed.getD j true) [i]=1:=by rw [List.countP_singleton,hl];rfl
   rw [h1,e1,e2]
  ·have h2:(listed.setIfInBounds i true).getD n true=listed.getD n true:=getD_set_ne true hin
   have e1:List.countP (fun j=> !(listed.setIfInBounds i true).getD j true) [n]=List.countP (fun j=> !listed.getD j true) [n]:=by
    rw [List.countP_singleton,List.countP_singleton,h2]
   have:=ih (by omega)
   rw [e1];omega
theorem left_zero {n:Nat} {listed:Array Bool} (h:left n listed=0):∀j,j<n→listed.getD j true=true:=by
 intro j hj
 have:=List.countP_eq_zero.1 h j (by simpa using hj)
 simpa using this
theorem wpAny_inv (I:Array Bool→Act→World→Prop)
  (hstep:∀listed a w,I listed a w→∀i o,ops[i]? =some o→listed.getD i true=false→(∀e ∈ o.after,Region.binds md e=true→listed.getD e.on false=true)→wpOp P ops Q i (fun a' w' =>I (listed.setIfInBounds i true) a' w') a w)
  (hdone:∀listed a w,I listed a w→Region.ready md ops listed=[]→Q .normal a w) :
  ∀(fuel:Nat) (listed:Array Bool) (a:Act) (w:World),left ops.size listed≤fuel→I listed a w→wpAny P md ops Q fuel listed a w
 | 0,listed,a,w,hf,hI=>by
  have hr:Region.ready md ops listed=[]:=by
   rw [List.eq_nil_iff_forall_not_mem]
   intro j hj
   obtain ⟨h0,o,ho,-⟩:=mem_ready.1 hj
   rw [left_zero (by omega) j (Array.getElem?_eq_some_iff.1 ho).1] at h0
   cases h0
  exact ⟨hr,hdone _ _ _ hI hr⟩
 | fuel+1,listed,a,w,hf,hI=>by
  refine ⟨hdone _ _ _ hI,fun i hi=> ?_⟩
  obtain ⟨h0,o,ho,hall⟩:=mem_ready.1 hi
  have hl:=left_set (Array.getElem?_eq_some_iff.1 ho).1 h0
  exact wpOp_mono (fun a' w' h=>wpAny_inv I hstep hdone fuel _ a' w' (by omega) h) (hstep _ _ _ hI i o ho h0 hall)
theorem all_up {listed:Array Bool} (hsz:listed.size=ops.size) (hback:∀j o,ops[j]? =some o→∀e ∈ o.after,Region.binds md e=true→e.on<j) (hr:Region.ready md ops listed=[]) :
  ∀j,j<ops.size→listed.getD j true=true:=by
 intro j
 induction j using Nat.strongRecOn with
 | _ j ih =>
  intro hj
  cases h:listed.getD j true
  ·exfalso
   have hm:j ∈ Region.ready md ops listed:=by
    refine mem_ready.2 ⟨h,ops[j],by simp [hj],fun e he hb=> ?_⟩
    have hlt:=hback j ops[j] (by simp [hj]) e he hb
    have ht:=ih e.on hlt (by omega)
    have hs:e.on<listed.size:=by omega
    simpa [hs] using ht
   rw [hr] at hm;cases hm
  ·rfl
theorem wp_region_inv {id:Nat} {a:Act} {w:World} (I:Array Bool→Act→World→Prop) (hm:P.follows .mixedOrders=true)
  (h0:I (Array.replicate ops.size false) a w.drew)
  (hstep:∀listed a w,I listed a w→∀i o,ops[i]? =some o→listed.getD i true=false→(∀e ∈ o.after,Region.binds .any e=true→listed.getD e.on false=true)→wpOp P ops Q i (fun a' w' =>I (listed.setIfInBounds i true) a' w') a w)
  (hdone:∀listed a w,I listed a w→Region.ready .any ops listed=[]→Q .normal a w):(Code.region id ops true).wp P Q a w:=by
 refine wp_region_any hm (wpAny_inv I hstep hdone _ _ _ _ ?_ h0)
 have:=List.countP_le_length (p:=fun j=> !(Array.replicate ops.size false).getD j true) (l:=List.range ops.size)
 simpa [left] using this
end
end Go.Proofs.YtblgfmjlajhipaaGreatDoor
namespace Go.Proofs.YtblgfmjlajhipaaGreatDoor
open Go Go.RowKit
def dstOf (ops:Array Oper) (j:Nat):Option Nat:=(ops[j]?).bind (·.dst)
def inSlot (a:Act):Option Nat→Value
 | some d=>a.tmps.getD d undef
 | none=>undef
def gives:Option Nat→Value→Value
 | some _,v=>v
 | none,_=>undef
def slotsB (ops:Array Oper) (n:Nat):Bool:=(List.range ops.size).all fun i=>match dstOf ops i with
 | none=>true
 | some d=>decide (d<n)&&(List.range ops.size).all fun j=>decide (i=j)|| !decide (dstOf ops j=some d)
def freeB (ops:Array Oper) (t:Nat):Bool:=(List.range ops.size).all fun j=> !decide (dstOf ops j=some t)
def onlyB (ops:Array Oper) (t j:Nat):Bool:=(List.range ops.size).all fun k=> !decide (dstOf ops k=some t)||decide (k=j)
def backR (ops:Array Oper):Bool:=(List.range ops.size).all fun j=>(ops[j]?).all fun o=>o.after.all fun e=> !Region.binds .any e||decide (e.on<j)
def fill (ops:Array Oper) (s:Nat→Value):Nat→Array Value→Array Value
 | 0,T=>T
 | n+1,T=>match dstOf ops n with
  | some d=>(fill ops s n T).setIfInBounds d (s d)
  | none=>fill ops s n T
theorem getD_set_true {listed:Array Bool} {i j:Nat} (h:listed.getD j false=true):(listed.setIfInBounds i true).getD j false=true:=by
 by_cases hij:i=j
 ·subst hij
  have hl:i<listed.size:=by
   rcases Nat.lt_or_ge i listed.size with h' |h'
   ·exact h'
   ·simp [Array.getElem?_eq_none h'] at h
  simp [hl]
 ·rw [getD_set_ne false hij];exact h
theorem dstOf_lt {ops:Array Oper} {j d:Nat} (h:dstOf ops j=some d):j<ops.size:=by
 rcases Nat.lt_or_ge j ops.size with h' |h'
 ·exact h'
 ·simp [dstOf,Array.getElem?_eq_none h'] at h
theorem slots_lt {ops:Array Oper} {n j d:Nat} (h:slotsB ops n=true) (hd:dstOf ops j=some d):d<n:=by
 have h1:=List.all_eq_true.1 h j (by simpa using dstOf_lt hd)
 rw [hd] at h1
 simp only [Bool.and_eq_true,decide_eq_true_eq] at h1
 exact h1.1
theorem slots_ne {ops:Array Oper} {n i j d:Nat} (h:slotsB ops n=true) (hi:dstOf ops i=some d) (hj:dstOf ops j=some d):i=j:=by
 have h1:=List.all_eq_true.1 h i (by simpa using dstOf_lt hi)
 rw [hi] at h1
 simp only [Bool.and_eq_true,decide_eq_true_eq] at h1
 have h2:=List.all_eq_true.1 h1.2 j (by simpa using dstOf_lt hj)
 simpa [hj] using h2
theorem free_ne {ops:Array Oper} {t j:Nat} (h:freeB ops t=true):dstOf ops j≠some t:=fun hj=>by
 have h1:=List.all_eq_true.1 h j (by simpa using dstOf_lt hj)
 simp [hj] at h1
theorem getD_set (T:Array Value) (d t:Nat) (v:Value):(T.setIfInBounds d v).getD t undef=if d=t∧d<T.size then v else T.getD t undef:=by
 simp only [Array.getD_eq_getD_getElem?,Array.getElem?_setIfInBounds]
 by_cases h:d=t
 ·subst h
  by_cases h2:d<T.size<;>simp [h2]
 ·simp [h]
theorem fill_size (ops:Array Oper) (s:Nat→Value) (n:Nat) (T:Array Value):(fill ops s n T).size=T.size:=by
 induction n with
 | zero=>rfl
 | succ n ih=>rw [fill];split<;>simp [ih]
theorem fill_get (ops:Array Oper) (s:Nat→Value) (T:Array Value) (hs:∀j d,dstOf ops j=some d→d<T.size) (t:Nat):∀n,(fill ops s n T).getD t undef=if ∃j,j<n∧dstOf ops j=some t then s t else T.getD t undef:=by
 intro n
 induction n with
 | zero=>simp [fill]
 | succ n ih =>
  rw [fill]
  split
  ·rename_i d hd
   rw [getD_set,fill_size,ih]
   by_cases hdt:d=t
   ·subst hdt
    rw [if_pos ⟨rfl,hs _ _ hd⟩,if_pos ⟨n,Nat.lt_succ_self n,hd⟩]
   ·rw [if_neg (fun h=>hdt h.1)]
    have:(∃j,j<n+1∧dstOf ops j=some t)↔∃j,j<n∧dstOf ops j=some t:=by
     constructor
     ·rintro ⟨j,hj,e⟩
      rcases Nat.lt_succ_iff_lt_or_eq.1 hj with h|rfl
      ·exact ⟨j,h,e⟩
      ·rw [hd] at e;exact absurd (Option.some.inj e) hdt
     ·rintro ⟨j,hj,e⟩;exact ⟨j,Nat.lt_succ_of_lt hj,e⟩
    simp only [this]
  ·rename_i hd
   rw [ih]
   have:(∃j,j<n+1∧dstOf ops j=some t)↔∃j,j<n∧dstOf ops j=some t:=by
    constructor
    ·rintro ⟨j,hj,e⟩
     rcases Nat.lt_succ_iff_lt_or_eq.1 hj with h|rfl
     ·exact ⟨j,h,e⟩
     ·rw [hd] at e;cases e
    ·rintro ⟨j,hj,e⟩;exact ⟨j,Nat.lt_succ_of_lt hj,e⟩
   simp only [this]
theorem arr_ext {A B:Array Value} (hs:A.size=B.size) (h:∀t,A.getD t undef=B.getD t undef):A=B:=by
 apply Array.ext hs
 intro i h1 h2
 have:=h i
 simpa [Array.getD,h1,h2] using this
def over (b:Nat→Bool) (s:Nat→Value):Nat→List Value→List Value
 | _,[]=>[]
 | t,v::vs=>bif b t then s t::over b s (t+1) vs else v::over b s (t+1) vs
theorem ovL:(∀n:Nat,0+n=n)∧decide True=true∧decide False=false∧(∀b:Bool,(b&&true)=b)∧(∀b:Bool,(b&&false)=false)∧(∀b:Bool,(b||false)=b)∧(∀b:Bool,(b||true)=true)∧(∀(α:Type) (x y:α),cond true x y=x)∧∀(α:Type) (x y:α),cond false x y=y:=⟨Nat.zero_add,rfl,rfl,Bool.and_true,Bool.and_false,Bool.or_false,Bool.or_true,fun _ _ _=>rfl,fun _ _ _=>rfl⟩
def overB (ops:Array Oper) (n:Nat) (b:Nat→Bool):Bool:=(List.range n).all fun t=>b t== !freeB ops t
theorem over_get (b:Nat→Bool) (s:Nat→Value):∀(l:List Value) (t i:Nat),(over b s t l)[i]? =if i<l.length then some (if b (t+i)=true then s (t+i) else l.getD i undef) else none
 | [],t,i=>by simp [over]
 | v::vs,t,0=>by cases h:b t<;>simp [over,h]
 | v::vs,t,i+1=>by
  have ih:=over_get b s vs (t+1) i
  rw [show t+1+i=t+(i+1) by omega] at ih
  cases h:b t<;>simp [over,h,ih]
theorem fill_over {ops:Array Oper} {T:Array Value} {s:Nat→Value} {b:Nat→Bool} (hs:slotsB ops T.size=true) (hb:overB ops T.size b=true):fill ops s ops.size T=(over b s 0 T.toList).toArray:=by
 have hlen:(over b s 0 T.toList).length=T.size:=by
  have h:=over_get b s T.toList 0
  apply Nat.le_antisymm
  ·rcases Nat.lt_or_ge T.size (over b s 0 T.toList).length with hl|hl
   ·have:=h T.size
    rw [List.getElem?_eq_getElem hl,if_neg (by simp)] at this
    cases this
   ·exact hl
  ·rcases Nat.lt_or_ge (over b s 0 T.toList).length T.size with hl|hl
   ·have:=h (over b s 0 T.toList).length
    rw [List.getElem?_eq_none (Nat.le_refl _),if_pos (by simpa using hl)] at this
    cases this
   ·exact hl
 refine arr_ext (by simp [fill_size,hlen]) fun t=> ?_
 rw [fill_get ops s T (fun j d h=>slots_lt hs h) t]
 have e:((over b s 0 T.toList).toArray).getD t undef=((over b s 0 T.toList)[t]?).getD undef:=by simp [Array.getD_eq_getD_getElem?]
 rw [e,over_get,Nat.zero_add]
 by_cases hf:freeB ops t=true
 ·have hno:¬∃j,j<ops.size∧dstOf ops j=some t:=by
   rintro ⟨j,_,hj⟩
   exact free_ne hf hj
  rw [if_neg hno]
  by_cases ht:t<T.size
  ·have h1:=List.all_eq_true.1 hb t (by simpa using ht)
   have h2:b t=false:=by simpa [hf] using h1
   simp [h2,ht,Array.getD_eq_getD_getElem?]
  ·simp [ht,Array.getD_eq_getD_getElem?]
 ·have hf' :freeB ops t=false:=by simpa using hf
  have hyes:∃j,j<ops.size∧dstOf ops j=some t:=by
   apply Classical.byContradiction
   intro hn
   apply hf
   refine List.all_eq_true.2 fun j hj=> ?_
   have:dstOf ops j≠some t:=fun hd=>hn ⟨j,by simpa using hj,hd⟩
   simp [this]
  obtain ⟨j,hj,hd⟩:=hyes
  have ht:=slots_lt hs hd
  have h1:=List.all_eq_true.1 hb t (by simpa using ht)
  have h2:b t=true:=by simpa [hf'] using h1
  rw [if_pos ⟨j,hj,hd⟩]
  simp [h2,ht]
section
variable {P:Program} {ops:Array Oper} {Q:Exit→Act→World→Prop} {T0:Array Value} {S:Array Bool→Nat→Value→World→Prop} {R:Array Bool→World→Prop}
structure RSt (ops:Array Oper) (T0:Array Value) (S:Array Bool→Nat→Value→World→Prop) (R:Array Bool→World→Prop) (listed:Array Bool) (a:Act) (w:World):Prop where
 lsize:listed.size=ops.size
 size:a.tmps.size=T0.size
 defers:a.defers=[]
 base:∀t,(∀j,dstOf ops j=some t→listed.getD j false=false)→a.tmps.getD t undef=T0.getD t undef
 vals:∀j,listed.getD j false=true→S listed j (inSlot a (dstOf ops j)) w
 glob:R listed w
 closed:∀j o,ops[j]? =some o→listed.getD j false=true→∀e ∈ o.after,Region.binds .any e=true→listed.getD e.on false=true
theorem put_size (a:Act) (d:Option Nat) (v:Value):(a.put d v).tmps.size=a.tmps.size:=by cases d<;>simp [Act.put]
theorem put_defers (a:Act) (d:Option Nat) (v:Value):(a.put d v).defers=a.defers:=by cases d<;>rfl
theorem getD_falses (n j:Nat):(Array.replicate n false).getD j false=false:=by
 by_cases h:j<n<;>simp [h]
theorem wp_region_full {id:Nat} {w:World} (hm:P.follows .mixedOrders=true) (hsl:slotsB ops T0.size=true) (hbk:backR ops=true)
  (h0:R (Array.replicate ops.size false) w.drew)
  (hstep:∀i o,ops[i]? =some o→∀listed a w,RSt ops T0 S R listed a w→listed.getD i false=false→(∀e ∈ o.after,Region.binds .any e=true→listed.getD e.on false=true) →
   ∀K:Act→World→Prop,(∀v w',S (listed.setIfInBounds i true) i (gives o.dst v) w' →R (listed.setIfInBounds i true) w' →
    (∀j u,j≠i→listed.getD j false=true→S listed j u w→S (listed.setIfInBounds i true) j u w')→K (a.put o.dst v) w')→wpOp P ops Q i K a w)
  (hdone:∀(s:Nat→Value) listed w,(∀j,j<ops.size→listed.getD j false=true)→(∀j,j<ops.size→S listed j (match dstOf ops j with|some d=>s d|none=>undef) w)→R listed w→Q .normal { tmps:=fill ops s ops.size T0,defers:=[] } w) :
  (Code.region id ops true).wp P Q { tmps:=T0,defers:=[] } w:=by
 refine wp_region_inv (RSt ops T0 S R) hm ?_ ?_ ?_
 ·exact ⟨by simp,rfl,rfl,fun _ _=>rfl,fun j hj=>(by rw [getD_falses] at hj;cases hj),h0,fun j o _ hj=>by rw [getD_falses] at hj;cases hj⟩
 ·intro listed a w hI i o ho hun hall
  have hun' :listed.getD i false=false:=by
   rcases Nat.lt_or_ge i listed.size with h' |h'
   ·simp [h'] at hun ⊢;exact hun
   ·simp [Array.getElem?_eq_none h'] at hun
  have hio:i<ops.size:=(Array.getElem?_eq_some_iff.1 ho).1
  have hdo:dstOf ops i=o.dst:=by simp [dstOf,ho]
  refine hstep i o ho listed a w hI hun' hall _ fun v w' hS hR hkeep=> ?_
  refine ⟨by simpa using hI.lsize,by rw [put_size];exact hI.size,by rw [put_defers];exact hI.defers,fun t ht=> ?_,fun j hj=> ?_,hR,fun j oj hoj hj e he hb=> ?_⟩
  ·have hne:o.dst≠some t:=fun e=>by
    have:=ht i (hdo.trans e)
    simp [hI.lsize,hio] at this
   have hb:=hI.base t (fun j hj=>by
    by_cases hji:j=i
    ·subst hji;exact hun'
    ·have:=ht j hj
     rwa [getD_set_ne false (Ne.symm hji)] at this)
   cases hd:o.dst with
   | none=>simpa [Act.put] using hb
   | some d =>
    show (a.tmps.setIfInBounds d v).getD t undef=_
    rw [getD_set,if_neg (fun h=>hne (by rw [hd,h.1]))]
    exact hb
  ·by_cases hji:j=i
   ·subst hji
    have e:inSlot (a.put o.dst v) (dstOf ops j)=gives o.dst v:=by
     rw [hdo]
     cases hd:o.dst with
     | none=>rfl
     | some d =>
      show (a.tmps.setIfInBounds d v).getD d undef=v
      rw [getD_set,if_pos ⟨rfl,by rw [hI.size];exact slots_lt hsl (hdo.trans hd)⟩]
    rw [e];exact hS
   ·have hj' :listed.getD j false=true:=by rwa [getD_set_ne false (Ne.symm hji)] at hj
    have e:inSlot (a.put o.dst v) (dstOf ops j)=inSlot a (dstOf ops j):=by
     cases hdj:dstOf ops j with
     | none=>rfl
     | some c =>
      cases hd:o.dst with
      | none=>rfl
      | some d =>
       show (a.tmps.setIfInBounds d v).getD c undef=_
       rw [getD_set,if_neg (fun h=>hji (slots_ne hsl hdj (by rw [hdo,hd,h.1])))]
       rfl
    rw [e]
    exact hkeep j _ hji hj' (hI.vals j hj')
  ·by_cases hji:j=i
   ·subst hji
    rw [ho] at hoj
    obtain rfl:=Option.some.inj hoj
    exact getD_set_true (hall e he hb)
   ·have hj' :listed.getD j false=true:=by rwa [getD_set_ne false (Ne.symm hji)] at hj
    exact getD_set_true (hI.closed j oj hoj hj' e he hb)
 ·intro listed a w hI hr
  have hup:∀j,j<ops.size→listed.getD j false=true:=fun j hj=>by
   have:=all_up hI.lsize (fun j o ho e he hb=>by
    have h1:=List.all_eq_true.1 hbk j (by simpa using (Array.getElem?_eq_some_iff.1 ho).1)
    rw [ho] at h1
    have h2:=Array.all_eq_true'.1 (show (o.after.all fun e=> !Region.binds .any e||decide (e.on<j))=true from h1) e he
    rw [hb] at h2
    simpa using h2) hr j hj
   have hs:j<listed.size:=by rw [hI.lsize];exact hj
   simpa [hs] using this
  have hT:a.tmps=fill ops (fun d=>a.tmps.getD d undef) ops.size T0:=by
   refine arr_ext (by rw [fill_size];exact hI.size) fun t=> ?_
   rw [fill_get ops _ T0 (fun j d h=>slots_lt hsl h) t]
   split
   ·rfl
   ·rename_i hno
    exact hI.base t fun j hj=>absurd ⟨j,dstOf_lt hj,hj⟩ hno
  have ha:a={ tmps:=fill ops (fun d=>a.tmps.getD d undef) ops.size T0,defers:=[] }:=by
   obtain ⟨tm,df⟩:=a
   have hd:df=[]:=hI.defers
   subst hd
   rw [←hT]
  rw [ha]
  refine hdone _ listed w hup (fun j hj=> ?_) hI.glob
  have:=hI.vals j (hup j hj)
  cases hd:dstOf ops j with
  | none=>rw [hd] at this;exact this
  | some d=>rw [hd] at this;exact this
end
section
variable {P:Program} {ops:Array Oper} {Q:Exit→Act→World→Prop} {T0:Array Value} {S:Nat→Value→World→Prop}
structure RAt (ops:Array Oper) (T0:Array Value) (S:Nat→Value→World→Prop) (w0:World) (i:Nat) (o:Oper) (listed:Array Bool) (a:Act) (w:World):Prop where
 at_:ops[i]? =some o
 ups:∀e ∈ o.after,Region.binds .any e=true→listed.getD e.on false=true
 base:∀t,freeB ops t=true→a.tmps.getD t undef=T0.getD t undef
 vals:∀j,listed.getD j false=true→S j (inSlot a (dstOf ops j)) w
 below:Below w0.heap.size w0 w
 un:listed.getD i false=false
 closed:∀j o,ops[j]? =some o→listed.getD j false=true→∀e ∈ o.after,Region.binds .any e=true→listed.getD e.on false=true
 early_:∀t,(∀j,dstOf ops j=some t→listed.getD j false=false)→a.tmps.getD t undef=T0.getD t undef
theorem wpVl {id:Nat} {w:World} (hm:P.follows .mixedOrders=true) (S:Nat→Value→World→Prop) (b:Nat→Bool) (hov:overB ops T0.size b=true) (hsl:slotsB ops T0.size=true) (hbk:backR ops=true)
  (hup:∀j v w w',Below w.heap.size w w' →S j v w→S j v w')
  (hstep:∀i,i<ops.size→∀o listed a w',RAt ops T0 S w i o listed a w' →
   ∀K:Act→World→Prop,(∀v w'',S i (gives o.dst v) w'' →Below w'.heap.size w' w'' →K (a.put o.dst v) w'')→wpOp P ops Q i K a w')
  (hdone:∀(s:Nat→Value) w',(∀j,j<ops.size→S j (match dstOf ops j with|some d=>s d|none=>undef) w')→Below w.heap.size w w' →Q .normal { tmps:=(over b s 0 T0.toList).toArray,defers:=[] } w') :
  (Code.region id ops true).wp P Q { tmps:=T0,defers:=[] } w:=by
 refine wp_region_full (S:=fun _=>S) (R:=fun _ w' =>Below w.heap.size w w') hm hsl hbk (Below.refl _ _).drew ?_ ?_
 ·intro i o ho listed a w' hI hun hall K hK
  refine hstep i (Array.getElem?_eq_some_iff.1 ho).1 o listed a w' ⟨ho,hall,fun t ht=>hI.base t (fun j hj=>absurd hj (free_ne ht)),hI.vals,hI.glob,hun,hI.closed,hI.base⟩ K fun v w'' h1 h2=>hK v w'' h1 (hI.glob.trans (h2.mono hI.glob.size)) fun j u _ _ hS=>hup j u w' w'' h2 hS
 ·intro s listed w' _ hS hR
  rw [fill_over hsl hov]
  exact hdone s w' hS hR
theorem RAt.early {w0:World} {i j t:Nat} {o oj:Oper} {listed:Array Bool} {a:Act} {w:World} (h:RAt ops T0 S w0 i o listed a w) (hw:onlyB ops t j=true) (hoj:ops[j]? =some oj) (e:Edge) (he:e ∈ oj.after) (hb:Region.binds .any e=true) (hi:e.on=i):a.tmps.getD t undef=T0.getD t undef :=
 h.early_ t fun k hk=>by
  have h1:=List.all_eq_true.1 hw k (by simpa using dstOf_lt hk)
  rw [hk] at h1
  have h2:k=j:=by simpa using h1
  subst h2
  cases hl:listed.getD k false
  ·rfl
  ·have:=h.closed k oj hoj hl e he hb
   rw [hi,h.un] at this;cases this
theorem RAt.dep {w0:World} {i:Nat} {o:Oper} {listed:Array Bool} {a:Act} {w:World} (h:RAt ops T0 S w0 i o listed a w) (e:Edge) (he:e ∈ o.after) (hb:Region.binds .any e=true):S e.on (inSlot a (dstOf ops e.on)) w:=h.vals e.on (h.ups e he hb)
theorem RAt.d {ops:Array Oper} {T0:Array Value} {S:Nat→Value→World→Prop} {w0:World} {i:Nat} {o:Oper} {listed:Array Bool} {a:Act} {w:World} (h:RAt ops T0 S w0 i o listed a w) (j:Nat) (he:(⟨j,.data⟩:Edge) ∈ o.after:=by simp) (hb:Region.binds .any (⟨j,.data⟩:Edge)=true:=by rfl):S j (inSlot a (dstOf ops j)) w:=h.dep _ he hb
theorem RAt.g {ops:Array Oper} {T0:Array Value} {S:Nat→Value→World→Prop} {w0:World} {i:Nat} {o:Oper} {listed:Array Bool} {a:Act} {w:World} (h:RAt ops T0 S w0 i o listed a w) (j:Nat) (he:(⟨j,.guard⟩:Edge) ∈ o.after:=by simp) (hb:Region.binds .any (⟨j,.guard⟩:Edge)=true:=by rfl):S j (inSlot a (dstOf ops j)) w:=h.dep _ he hb
theorem RAt.b {ops:Array Oper} {T0:Array Value} {S:Nat→Value→World→Prop} {w0:World} {i:Nat} {o:Oper} {listed:Array Bool} {a:Act} {w:World} (h:RAt ops T0 S w0 i o listed a w) (t:Nat) (ht:freeB ops t=true:=by kernel_rfl):a.tmps.getD t undef=T0.getD t undef:=h.base t ht
theorem RAt.t {C:Nat→Prop} {ops:Array Oper} {T0:Array Value} {S:Nat→Value→World→Prop} {w0:World} {i:Nat} {o:Oper} {listed:Array Bool} {a:Act} {w:World} (h:RAt ops T0 (fun j v w=>C j→S j v w) w0 i o listed a w) (j:Nat) (he:(⟨j,.data⟩:Edge) ∈ o.after:=by simp) (hb:Region.binds .any (⟨j,.data⟩:Edge)=true:=by rfl) (hc:C j:=by decide):S j (inSlot a (dstOf ops j)) w:=h.dep _ he hb hc
theorem RAt.u {C:Nat→Prop} {ops:Array Oper} {T0:Array Value} {S:Nat→Value→World→Prop} {w0:World} {i:Nat} {o:Oper} {listed:Array Bool} {a:Act} {w:World} (h:RAt ops T0 (fun j v w=>C j→S j v w) w0 i o listed a w) (j:Nat) (he:(⟨j,.guard⟩:Edge) ∈ o.after:=by simp) (hb:Region.binds .any (⟨j,.guard⟩:Edge)=true:=by rfl) (hc:C j:=by decide):S j (inSlot a (dstOf ops j)) w:=h.dep _ he hb hc
end
theorem pStp {P:Program} {ops:Array Oper} {Q:Exit→Act→World→Prop} {i:Nat} {o:Oper} {K:Act→World→Prop} {a:Act} {w:World} (ho:ops[i]? =some o) (hg:o.guard=none) (h:Oper.wp P o a w K Q):wpOp P ops Q i K a w:=by
 unfold wpOp;rw [ho]
 have hw:Region.wanted o (yielded ops a.tmps)=true:=by simp [Region.wanted,hg]
 show if Region.wanted o (yielded ops a.tmps)=true then _ else _
 rw [if_pos hw];exact .inl h
theorem pSq {P:Program} {ops:Array Oper} {Q:Exit→Act→World→Prop} {i:Nat} {o:Oper} {K:Act→World→Prop} {a:Act} {w:World} (h:Oper.wp P o a w K Q) (ho:ops[i]? =some o:=by exact rfl) (hg:o.guard=none:=by exact rfl):wpOp P ops Q i K a w:=pStp ho hg h
theorem slot_some {T:Array Value} {d:Nat} {b:Bool} (h:T.getD d undef=.bool b):T[d]? =some (.bool b):=by
 rw [Array.getD_eq_getD_getElem?] at h
 cases hd:T[d]? with
 | none=>rw [hd] at h;cases h
 | some v=>rw [hd] at h;simp at h;rw [h]
theorem gStp {P:Program} {ops:Array Oper} {Q:Exit→Act→World→Prop} {i:Nat} {o:Oper} {K:Act→World→Prop} {a:Act} {w:World} {g d:Nat} {b:Bool} (ho:ops[i]? =some o) (hg:o.guard=some (g,b)) (hd:dstOf ops g=some d)
  (ht:a.tmps.getD d undef=.bool b) (h:Oper.wp P o a w K Q):wpOp P ops Q i K a w:=by
 unfold wpOp;rw [ho]
 have hw:Region.wanted o (yielded ops a.tmps)=true:=by
  have hd' :((ops[g]?).bind (·.dst))=some d:=hd
  simp [Region.wanted,hg,yielded,hd',slot_some ht]
 show if Region.wanted o (yielded ops a.tmps)=true then _ else _
 rw [if_pos hw];exact .inl h
theorem gSq {P:Program} {ops:Array Oper} {Q:Exit→Act→World→Prop} {i:Nat} {o:Oper} {K:Act→World→Prop} {a:Act} {w:World} {g d:Nat} {b:Bool} (ht:a.tmps.getD d undef=.bool b) (h:Oper.wp P o a w K Q) (ho:ops[i]? =some o:=by exact rfl) (hg:o.guard=some (g,b):=by exact rfl) (hd:dstOf ops g=some d:=by exact rfl):wpOp P ops Q i K a w:=gStp ho hg hd ht h
theorem gSkp {P:Program} {ops:Array Oper} {Q:Exit→Act→World→Prop} {i:Nat} {o:Oper} {K:Act→World→Prop} {a:Act} {w:World} {g d:Nat} {b c:Bool} (ho:ops[i]? =some o) (hg:o.guard=some (g,b)) (hd:dstOf ops g=some d)
  (ht:a.tmps.getD d undef=.bool c) (hne:c≠b) (h:K (a.put o.dst undef) w):wpOp P ops Q i K a w:=by
 unfold wpOp;rw [ho]
 have hw:¬Region.wanted o (yielded ops a.tmps)=true:=by
  have hd' :((ops[g]?).bind (·.dst))=some d:=hd
  simp [Region.wanted,hg,yielded,hd',slot_some ht,hne]
 show if Region.wanted o (yielded ops a.tmps)=true then _ else _
 rw [if_neg hw];exact h
structure PAt (ops:Array Oper) (T0:Array Value) (E:Nat→Value) (i:Nat) (o:Oper) (listed:Array Bool) (a:Act):Prop where
 at_:ops[i]? =some o
 ups:∀e ∈ o.after,Region.binds .any e=true→listed.getD e.on false=true
 base:∀t,freeB ops t=true→a.tmps.getD t undef=T0.getD t undef
 vals:∀j,listed.getD j false=true→inSlot a (dstOf ops j)=E j
theorem PAt.dep {ops:Array Oper} {T0:Array Value} {E:Nat→Value} {i:Nat} {o:Oper} {listed:Array Bool} {a:Act} (h:PAt ops T0 E i o listed a) (e:Edge) (he:e ∈ o.after) (hb:Region.binds .any e=true):inSlot a (dstOf ops e.on)=E e.on:=h.vals e.on (h.ups e he hb)
theorem PAt.d {ops:Array Oper} {T0:Array Value} {E:Nat→Value} {i:Nat} {o:Oper} {listed:Array Bool} {a:Act} (h:PAt ops T0 E i o listed a) (j:Nat) (he:(⟨j,.data⟩:Edge) ∈ o.after:=by simp) (hb:Region.binds .any (⟨j,.data⟩:Edge)=true:=by rfl):inSlot a (dstOf ops j)=E j:=h.dep _ he hb
theorem PAt.g {ops:Array Oper} {T0:Array Value} {E:Nat→Value} {i:Nat} {o:Oper} {listed:Array Bool} {a:Act} (h:PAt ops T0 E i o listed a) (j:Nat) (he:(⟨j,.guard⟩:Edge) ∈ o.after:=by simp) (hb:Region.binds .any (⟨j,.guard⟩:Edge)=true:=by rfl):inSlot a (dstOf ops j)=E j:=h.dep _ he hb
theorem PAt.b {ops:Array Oper} {T0:Array Value} {E:Nat→Value} {i:Nat} {o:Oper} {listed:Array Bool} {a:Act} (h:PAt ops T0 E i o listed a) (t:Nat) (ht:freeB ops t=true:=by kernel_rfl):a.tmps.getD t undef=T0.getD t undef:=h.base t ht
theorem wp_region_store {P:Program} {ops:Array Oper} {Q:Exit→Act→World→Prop} {T0:Array Value} {id:Nat} {w:World} (hm:P.follows .mixedOrders=true) (E:Nat→Value) (sj:Nat) (p:Addr) (u:Value) (b:Nat→Bool) (hov:overB ops T0.size b=true) (hsl:slotsB ops T0.size=true) (hbk:backR ops=true) (hsj:sj<ops.size)
  (hstep:∀i,i<ops.size→i≠sj→∀o listed a w',PAt ops T0 E i o listed a→(w' =w.drew∨w' =w.drew.setCell p u) →
   ∀K:Act→World→Prop,(∀v,gives o.dst v=E i→K (a.put o.dst v) w')→wpOp P ops Q i K a w')
  (hstore:∀o listed a,PAt ops T0 E sj o listed a→∀K:Act→World→Prop,(∀v,gives o.dst v=E sj→K (a.put o.dst v) (w.drew.setCell p u))→wpOp P ops Q sj K a w.drew)
  (hdone:∀s:Nat→Value,(∀j,j<ops.size→(match dstOf ops j with|some d=>s d|none=>undef)=E j)→Q .normal { tmps:=(over b s 0 T0.toList).toArray,defers:=[] } (w.drew.setCell p u)) :
  (Code.region id ops true).wp P Q { tmps:=T0,defers:=[] } w:=by
 refine wp_region_full (S:=fun _ j v _=>v=E j) (R:=fun listed w' =>(listed.getD sj false=false→w' =w.drew)∧(listed.getD sj false=true→w' =w.drew.setCell p u)) hm hsl hbk ⟨fun _=>rfl,fun h=>by rw [getD_falses] at h;cases h⟩ ?_ ?_
 ·intro i o ho listed a w' hI hun hall K hK
  have hio:i<ops.size:=(Array.getElem?_eq_some_iff.1 ho).1
  have hA:PAt ops T0 E i o listed a:=⟨ho,hall,fun t ht=>hI.base t (fun j hj=>absurd hj (free_ne ht)),hI.vals⟩
  by_cases his:i=sj
  ·subst his
   obtain rfl:=hI.glob.1 hun
   refine hstore o listed a hA K fun v hv=>hK v _ hv ⟨fun h=>by simp [hI.lsize,hio] at h,fun _=>rfl⟩ fun j u _ _ h=>h
  ·have hw:w' =w.drew∨w' =w.drew.setCell p u:=by
    cases h:listed.getD sj false
    ·exact .inl (hI.glob.1 h)
    ·exact .inr (hI.glob.2 h)
   refine hstep i hio his o listed a w' hA hw K fun v hv=>hK v w' hv ?_ fun j u _ _ h=>h
   rw [getD_set_ne false his]
   exact hI.glob
 ·intro s listed w' hup hS hR
  obtain rfl:=hR.2 (hup sj hsj)
  rw [fill_over hsl hov]
  exact hdone s hS
end Go.Proofs.YtblgfmjlajhipaaGreatDoor
namespace Go.Proofs.YtblgfmjlajhipaaGreatDoor
open Go
section
variable {F:Fence} {n:Nat} {P:Program} {ops:Array Oper} {Q:Exit→Act→World→Prop} {md:Region.Mode}
theorem wpAnyIn_inv (I:Array Bool→Act→World→Prop)
  (hstep:∀listed a w,I listed a w→∀i o,ops[i]? =some o→listed.getD i true=false→(∀e ∈ o.after,Region.binds md e=true→listed.getD e.on false=true)→wpOpIn F n P ops Q i (fun a' w' =>I (listed.setIfInBounds i true) a' w') a w)
  (hdone:∀listed a w,I listed a w→Region.ready md ops listed=[]→Q .normal a w) :
  ∀(fuel:Nat) (listed:Array Bool) (a:Act) (w:World),left ops.size listed≤fuel→I listed a w→wpAnyIn F n P md ops Q fuel listed a w
 | 0,listed,a,w,hf,hI=>by
  have hr:Region.ready md ops listed=[]:=by
   rw [List.eq_nil_iff_forall_not_mem]
   intro j hj
   obtain ⟨h0,o,ho,-⟩:=mem_ready.1 hj
   rw [left_zero (by omega) j (Array.getElem?_eq_some_iff.1 ho).1] at h0
   cases h0
  exact ⟨hr,hdone _ _ _ hI hr⟩
 | fuel+1,listed,a,w,hf,hI=>by
  refine ⟨hdone _ _ _ hI,fun i hi=> ?_⟩
  obtain ⟨h0,o,ho,hall⟩:=mem_ready.1 hi
  have hl:=left_set (Array.getElem?_eq_some_iff.1 ho).1 h0
  exact wpOpIn_mono (fun a' w' h=>wpAnyIn_inv I hstep hdone fuel _ a' w' (by omega) h) (hstep _ _ _ hI i o ho h0 hall)
theorem wpIn_region_inv {id:Nat} {a:Act} {w:World} (I:Array Bool→Act→World→Prop) (hm:P.follows .mixedOrders=true)
  (h0:I (Array.replicate ops.size false) a w.drew)
  (hstep:∀listed a w,I listed a w→∀i o,ops[i]? =some o→listed.getD i true=false→(∀e ∈ o.after,Region.binds .any e=true→listed.getD e.on false=true)→wpOpIn F n P ops Q i (fun a' w' =>I (listed.setIfInBounds i true) a' w') a w)
  (hdone:∀listed a w,I listed a w→Region.ready .any ops listed=[]→Q .normal a w):(Code.region id ops true).wpIn F n P Q a w:=by
 refine wpIn_region_any hm (wpAnyIn_inv I hstep hdone _ _ _ _ ?_ h0)
 have:=List.countP_le_length (p:=fun j=> !(Array.replicate ops.size false).getD j true) (l:=List.range ops.size)
 simpa [left] using this
end
end Go.Proofs.YtblgfmjlajhipaaGreatDoor
namespace Go.Proofs.YtblgfmjlajhipaaGreatDoor
open Go Go.RowKit
section
variable {F:Fence} {n:Nat} {P:Program} {ops:Array Oper} {Q:Exit→Act→World→Prop} {T0:Array Value} {S:Array Bool→Nat→Value→World→Prop} {R:Array Bool→World→Prop}
end
section
variable {F:Fence} {n:Nat} {P:Program} {ops:Array Oper} {Q:Exit→Act→World→Prop} {T0:Array Value} {S:Nat→Value→World→Prop}
structure QAt (ops:Array Oper) (T0:Array Value) (S:Nat→Value→World→Prop) (b0 sj:Nat) (w0:World) (i:Nat) (o:Oper) (listed:Array Bool) (a:Act) (w:World):Prop where
 at_:ops[i]? =some o
 ups:∀e ∈ o.after,Region.binds .any e=true→listed.getD e.on false=true
 base:∀t,freeB ops t=true→a.tmps.getD t undef=T0.getD t undef
 vals:∀j,listed.getD j false=true→S j (inSlot a (dstOf ops j)) w
 fr:Fr (fun b=>b=b0) w0 w
 un:listed.getD i false=false
 closed:∀j o,ops[j]? =some o→listed.getD j false=true→∀e ∈ o.after,Region.binds .any e=true→listed.getD e.on false=true
 pre:listed.getD sj false=false→Below w0.heap.size w0 w
theorem QAt.dep {b0 sj:Nat} {w0:World} {i:Nat} {o:Oper} {listed:Array Bool} {a:Act} {w:World} (h:QAt ops T0 S b0 sj w0 i o listed a w) (e:Edge) (he:e ∈ o.after) (hb:Region.binds .any e=true):S e.on (inSlot a (dstOf ops e.on)) w:=h.vals e.on (h.ups e he hb)
theorem QAt.d {ops:Array Oper} {T0:Array Value} {S:Nat→Value→World→Prop} {b0 sj:Nat} {w0:World} {i:Nat} {o:Oper} {listed:Array Bool} {a:Act} {w:World} (h:QAt ops T0 S b0 sj w0 i o listed a w) (j:Nat) (he:(⟨j,.data⟩:Edge) ∈ o.after:=by simp) (hb:Region.binds .any (⟨j,.data⟩:Edge)=true:=by rfl):S j (inSlot a (dstOf ops j)) w:=h.dep _ he hb
theorem QAt.g {ops:Array Oper} {T0:Array Value} {S:Nat→Value→World→Prop} {b0 sj:Nat} {w0:World} {i:Nat} {o:Oper} {listed:Array Bool} {a:Act} {w:World} (h:QAt ops T0 S b0 sj w0 i o listed a w) (j:Nat) (he:(⟨j,.guard⟩:Edge) ∈ o.after:=by simp) (hb:Region.binds .any (⟨j,.guard⟩:Edge)=true:=by rfl):S j (inSlot a (dstOf ops j)) w:=h.dep _ he hb
theorem QAt.b {ops:Array Oper} {T0:Array Value} {S:Nat→Value→World→Prop} {b0 sj:Nat} {w0:World} {i:Nat} {o:Oper} {listed:Array Bool} {a:Act} {w:World} (h:QAt ops T0 S b0 sj w0 i o listed a w) (t:Nat) (ht:freeB ops t=true:=by kernel_rfl):a.tmps.getD t undef=T0.getD t undef:=h.base t ht
end
theorem plain_stepI {F:Fence} {n:Nat} {P:Program} {ops:Array Oper} {Q:Exit→Act→World→Prop} {i:Nat} {o:Oper} {K:Act→World→Prop} {a:Act} {w:World} (ho:ops[i]? =some o) (hg:o.guard=none) (h:Oper.wpIn F n P o a w K Q):wpOpIn F n P ops Q i K a w:=by
 unfold wpOpIn;rw [ho]
 have hw:Region.wanted o (yielded ops a.tmps)=true:=by simp [Region.wanted,hg]
 show if Region.wanted o (yielded ops a.tmps)=true then _ else _
 rw [if_pos hw];exact h
end Go.Proofs.YtblgfmjlajhipaaGreatDoor
namespace Go.Proofs.YtblgfmjlajhipaaGreatDoor
open Go Go.RowKit
def needB (ops:Array Oper) (L:Nat):Bool:=(List.range L).all fun j=>(List.range (L+1)).any fun k=>decide (j<k)&&(ops[k]?).any fun o=>o.after.any fun e=>decide (e.on=j)&&Region.binds .any e
theorem need_up {ops:Array Oper} {L:Nat} (h:needB ops L=true) {listed:Array Bool} (hcl:∀j o,ops[j]? =some o→listed.getD j false=true→∀e ∈ o.after,Region.binds .any e=true→listed.getD e.on false=true)
  (hL:listed.getD L false=true):∀d j,j+d=L→listed.getD j false=true:=by
 intro d
 induction d using Nat.strongRecOn with
 | _ d ih =>
  intro j hj
  rcases Nat.eq_zero_or_pos d with rfl|hd
  ·rw [show j=L by omega];exact hL
  ·have h1:=List.all_eq_true.1 h j (by simp;omega)
   obtain ⟨k,hk,h2⟩:=List.any_eq_true.1 h1
   simp only [List.mem_range] at hk
   simp only [Bool.and_eq_true,decide_eq_true_eq] at h2
   obtain ⟨hjk,h3⟩:=h2
   cases ho:ops[k]? with
   | none=>rw [ho] at h3;simp at h3
   | some o =>
    rw [ho] at h3
    obtain ⟨e,he,h4⟩:=Array.any_eq_true'.1 (show (o.after.any fun e=>decide (e.on=j)&&Region.binds .any e)=true from h3)
    simp only [Bool.and_eq_true,decide_eq_true_eq] at h4
    have:=hcl k o ho (ih (L-k) (by omega) k (by omega)) e he h4.2
    rwa [h4.1] at this
section
variable {P:Program} {ops:Array Oper} {Q:Exit→Act→World→Prop} {T0:Array Value}
theorem wp_region_last {id:Nat} {w:World} (hm:P.follows .mixedOrders=true) (S:Nat→Value→World→Prop) (U:Value→World→Prop) (L:Nat) (b:Nat→Bool) (hov:overB ops T0.size b=true) (hsl:slotsB ops T0.size=true) (hbk:backR ops=true)
  (hneed:needB ops L=true) (hnext:needB ops (L+1)=true) (hsz:ops.size=L+2)
  (hup:∀j v w w',Below w.heap.size w w' →S j v w→S j v w')
  (hstep:∀i,i<L→∀o listed a w',RAt ops T0 (fun j v w=>j<L→S j v w) w i o listed a w' →
   ∀K:Act→World→Prop,(∀v w'',S i (gives o.dst v) w'' →Below w'.heap.size w' w'' →K (a.put o.dst v) w'')→wpOp P ops Q i K a w')
  (hlast:∀o a w',ops[L]? =some o→(∀j,j<L→S j (inSlot a (dstOf ops j)) w')→Below w.heap.size w w' →(∀t,freeB ops t=true→a.tmps.getD t undef=T0.getD t undef) →
   ∀K:Act→World→Prop,(∀v w'',U (gives o.dst v) w'' →K (a.put o.dst v) w'')→wpOp P ops Q L K a w')
  (hthen:∀o a w',ops[L+1]? =some o→U (inSlot a (dstOf ops L)) w' →∀K:Act→World→Prop,(∀v,U (gives o.dst v) w' →K (a.put o.dst v) w')→wpOp P ops Q (L+1) K a w')
  (hdone:∀(s:Nat→Value) w',U (match dstOf ops L with|some d=>s d|none=>undef) w' →U (match dstOf ops (L+1) with|some d=>s d|none=>undef) w' →Q .normal { tmps:=(over b s 0 T0.toList).toArray,defers:=[] } w') :
  (Code.region id ops true).wp P Q { tmps:=T0,defers:=[] } w:=by
 refine wp_region_full (S:=fun listed j v w' =>(j<L→listed.getD L false=false→S j v w')∧(L≤j→U v w')) (R:=fun listed w' =>listed.getD L false=false→Below w.heap.size w w') hm hsl hbk (fun _=>(Below.refl _ _).drew) ?_ ?_
 ·intro i o ho listed a w' hI hun hall K hK
  have hio:i<ops.size:=(Array.getElem?_eq_some_iff.1 ho).1
  have hdo:dstOf ops i=o.dst:=by simp [dstOf,ho]
  have hback:∀j,listed.getD (L+1) false=true→j≤L+1→listed.getD j false=true:=fun j h hj=>need_up hnext hI.closed h (L+1-j) j (by omega)
  rcases Nat.lt_trichotomy i L with hiL|hiL|hiL
  ·have hLu:listed.getD L false=false:=by
    cases h:listed.getD L false
    ·rfl
    ·have:=need_up hneed hI.closed h (L-i) i (by omega)
     rw [hun] at this;cases this
   have hLu' :(listed.setIfInBounds i true).getD L false=false:=by rw [getD_set_ne false (by omega)];exact hLu
   refine hstep i hiL o listed a w' ⟨ho,hall,fun t ht=>hI.base t (fun j hj=>absurd hj (free_ne ht)),fun j hj hjL=>(hI.vals j hj).1 hjL hLu,hI.glob hLu,hun,hI.closed,hI.base⟩ K fun v w'' h1 h2=>hK v w'' ⟨fun _ _=>h1,fun h=>by omega⟩ (fun _=>(hI.glob hLu).trans (h2.mono (hI.glob hLu).size)) fun j u hji hj hS=>⟨fun hjL _=>hup j u w' w'' h2 (hS.1 hjL hLu),fun hjL=> ?_⟩
   exfalso
   have hj2:j=L∨j=L+1:=by
    have:j<ops.size:=by
     rcases Nat.lt_or_ge j listed.size with h' |h'
     ·rw [hI.lsize] at h';exact h'
     ·simp [Array.getElem?_eq_none h'] at hj
    omega
   rcases hj2 with rfl|rfl
   ·rw [hLu] at hj;cases hj
   ·have:=hback L hj (by omega);rw [hLu] at this;cases this
  ·subst hiL
   have hall' :∀j,j<i→listed.getD j false=true:=by
    intro j hj
    have hl2:∀d j,j+d=i→j<i→listed.getD j false=true:=by
     intro d
     induction d using Nat.strongRecOn with
     | _ d ih =>
      intro j hjd hji
      have h1:=List.all_eq_true.1 hneed j (by simp;omega)
      obtain ⟨k,hk,h2⟩:=List.any_eq_true.1 h1
      simp only [List.mem_range] at hk
      simp only [Bool.and_eq_true,decide_eq_true_eq] at h2
      obtain ⟨hjk,h3⟩:=h2
      cases hok:ops[k]? with
      | none=>rw [hok] at h3;simp at h3
      | some ok =>
       rw [hok] at h3
       obtain ⟨e,he,h4⟩:=Array.any_eq_true'.1 (show (ok.after.any fun e=>decide (e.on=j)&&Region.binds .any e)=true from h3)
       simp only [Bool.and_eq_true,decide_eq_true_eq] at h4
       rcases (by omega:k=i∨k<i) with rfl|hki
       ·rw [ho] at hok
        obtain rfl:=Option.some.inj hok
        have:=hall e he h4.2
        rwa [h4.1] at this
       ·have:=hI.closed k ok hok (ih (i-k) (by omega) k (by omega) hki) e he h4.2
        rwa [h4.1] at this
    exact hl2 (i-j) j (by omega) hj
   refine hlast o a w' ho (fun j hj=>(hI.vals j (hall' j hj)).1 hj hun) (hI.glob hun) (fun t ht=>hI.base t (fun j hj=>absurd hj (free_ne ht))) K fun v w'' hU=>hK v w'' ⟨fun h=>by omega,fun _=>hU⟩ (fun h=> ?_) fun j u hji hj hS=>⟨fun hjL h=> ?_,fun hjL=> ?_⟩
   ·simp [hI.lsize,hio] at h
   ·simp [hI.lsize,hio] at h
   ·exfalso
    have:j<ops.size:=by
     rcases Nat.lt_or_ge j listed.size with h' |h'
     ·rw [hI.lsize] at h';exact h'
     ·simp [Array.getElem?_eq_none h'] at hj
    have hj1:j=i+1:=by omega
    subst hj1
    have:=hback i hj (by omega);rw [hun] at this;cases this
  ·have hi1:i=L+1:=by omega
   subst hi1
   have hLl:listed.getD L false=true:=by
    have h1:=List.all_eq_true.1 hnext L (by simp)
    obtain ⟨k,hk,h2⟩:=List.any_eq_true.1 h1
    simp only [List.mem_range] at hk
    simp only [Bool.and_eq_true,decide_eq_true_eq] at h2
    obtain ⟨hjk,h3⟩:=h2
    have hk1:k=L+1:=by omega
    subst hk1
    rw [ho] at h3
    obtain ⟨e,he,h4⟩:=Array.any_eq_true'.1 (show (o.after.any fun e=>decide (e.on=L)&&Region.binds .any e)=true from h3)
    simp only [Bool.and_eq_true,decide_eq_true_eq] at h4
    have:=hall e he h4.2
    rwa [h4.1] at this
   have hLl' :(listed.setIfInBounds (L+1) true).getD L false=true:=by rw [getD_set_ne false (by omega)];exact hLl
   refine hthen o a w' ho ((hI.vals L hLl).2 (Nat.le_refl _)) K fun v hU=>hK v w' ⟨fun h=>by omega,fun _=>hU⟩ (fun h=>by rw [hLl'] at h;cases h) fun j u hji hj hS=>⟨fun hjL h=>(by rw [hLl'] at h;cases h),hS.2⟩
 ·intro s listed w' hl hS hR
  rw [fill_over hsl hov]
  exact hdone s w' ((hS L (by omega)).2 (Nat.le_refl _)) ((hS (L+1) (by omega)).2 (by omega))
end
end Go.Proofs.YtblgfmjlajhipaaGreatDoor
namespace Go.Proofs.YtblgfmjlajhipaaGreatDoor
open Go.RowKit
variable {P:Program}
end Go.Proofs.YtblgfmjlajhipaaGreatDoor
