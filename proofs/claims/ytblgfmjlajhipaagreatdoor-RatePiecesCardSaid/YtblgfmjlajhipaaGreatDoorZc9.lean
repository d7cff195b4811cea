/- Contracts that the proofs of this seat share. Each theorem names its conditions. -/

import Derived.Test.YtblgfmjlajhipaaGreatDoorZa1
import Derived.Test.YtblgfmjlajhipaaGreatDoorZa6
set_option maxHeartbeats 16000000
set_option linter.unusedVariables false
namespace Go.Proofs.YtblgfmjlajhipaaGreatDoor
open Go.RowKit
variable {P:Program}
theorem wp_rangeA {α:Type} {g:Operand} {ps:Array Tmp} {assign body:Code} {Q:Exit→Act→World→Prop} {a:Act} {w:World}
  {gf:Nat} {lb:Array Value} {encs:α→Array Value} {xs:List α} {Bx:Nat→Prop}
  (hg:a.eval g=.func (.func gf) #[] lb) (eg:Enters P gf) (hiter:IterC P gf lb encs xs Bx w) (hps:∀x,(encs x).size=ps.size)
  (I:List α→(Nat→Prop)→World→Prop) (Ix:Code→List α→World→Prop) (hI:Hangs I)
  (hIlt:∀pre m A b,I pre m A→m b→b<A.heap.size∧¬Bx b∧b≠w.heap.size∧b≠w.heap.size+1)
  (hIx:∀c pre A B,Ix c pre A→Fr (fun b=>b=w.heap.size+1) A B→Ix c pre B) (hBx:∀b,Bx b→b<w.heap.size)
  (m0:Nat→Prop) (h0:I [] m0 w)
  (hround:∀(l:Nat) (pre:List α) (x:α) (rest:List α) (m:Nat→Prop) (W:World),xs=pre++x::rest→w.heap.size+2≤W.heap.size→I pre m W →
   assign.wpIn (Fence.wide.inRound l) 0 P (Exit.then (fun a' Wa=>Below W.heap.size W Wa∧∀W',w.heap.size+2≤W'.heap.size→Fr (fun b=>b=w.heap.size+1) Wa W' →I pre m W' →
    body.wpIn (Fence.wide.inRound l) 0 P (rpost I Ix m (pre++[x]) W') a' W') (fun _ _ _=>False))
    { tmps:=(ps.zip (encs x)).foldl (fun t (p,v)=>t.setIfInBounds p v) a.tmps,defers:=[] } W)
  (hdone:∀(m:Nat→Prop) (W:World),I xs m W→Fr (fun b=>m0 b∨Bx b) w W→W.heap[w.heap.size]? =some (.deferred (some [])) →
   Q .normal { a with defers:={ target:=.collected w.heap.size,args:=#[] }::a.defers } W)
  (hstop:∀(c:Code) (pre:List α) (W:World),Ix c pre W→Fr (fun b=>m0 b∨Bx b) w W→W.heap[w.heap.size]? =some (.deferred (some [])) →
   c.wpIn Fence.wide 0 P Q { a with defers:={ target:=.collected w.heap.size,args:=#[] }::a.defers } W) :
  (Code.rangeFunc g ps assign body).wpIn Fence.wide 0 P Q a w:=by
 obtain ⟨D,hD⟩:∃D,D=w.heap.size:=⟨_,rfl⟩
 obtain ⟨l,hl⟩:∃l,l=w.heap.size+1:=⟨_,rfl⟩
 have hrec:∀(W3:World) (o:Obj),Fr (fun b=>b=w.heap.size+1) W3 (W3.putObj l o):=fun W3 o=>(Fr.refl (fun b=>b=w.heap.size+1) W3).putObj (l:=l) (.inl hl) o
 refine wpIn_rangeFunc ?_
 intro fn hfn
 show ∃l mark w₁ d w₁' f args w₂,(Instr.enterLoop fn a.tmps ps assign body none).run P w=_∧_
 obtain ⟨rc,hrc⟩:∃rc:LoopState→Option Code→Loop,rc=fun st pe=>{ state:=st,pending:=pe,fn,tmps:=a.tmps,params:=ps,assign,body,defers:=w.heap.size }:=⟨_,rfl⟩
 obtain ⟨W1,hW1⟩:∃W1,(w.alloc (.deferred (some []))).alloc (.loop (rc .ready none))=W1:=⟨_,rfl⟩
 have hL1:W1.heap[l]? =some (.loop (rc .ready none)):=by
  rw [←hW1,hl];have:=World.alloc_heap_new (w.alloc (.deferred (some []))) (.loop (rc .ready none));rwa [World.size_alloc] at this
 have hK1:W1.heap[D]? =some (.deferred (some [])):=by
  rw [←hW1,hD];exact (Below.heap_alloc _ _ _ (by simp)).trans (World.alloc_heap_new w _)
 have hF1:∀m,Fr m w W1:=fun m=>by rw [←hW1];exact ((Fr.refl m w).alloc _).alloc _
 have hI1:I [] m0 W1:=hI _ _ _ _ h0 (hF1 _)
 have hb1:Below w.heap.size w W1:=by
  rw [←hW1];exact ((Below.refl _ w).alloc (Nat.le_refl _) _).alloc (by simp) _
 refine ⟨w.heap.size+1,[{ target:=.collected w.heap.size,args:=#[] }],W1,{ target:=.fn (.func gf) lb,args:=#[.func (.yield (w.heap.size+1)) #[] #[]] },W1,gf,
  #[.func (.yield (w.heap.size+1)) #[] #[]]++lb,W1,?_,?_,?_,?_,?_,?_⟩
 ·rw [←hW1,hrc];exact run_enterLoop_outer _ _ _ _ _
 ·simp only [resolve,hg]
  simp [go_sem]
 ·intro f' _;trivial
 ·have eg' :∀args w,(callFunc gf args).run P w=.ok (.enter gf args) w:=eg
  simp [invoke,go_sem,eg']
 ·intro h;cases h
 ·rw [←hl]
  refine (hiter l
   (fun pre m W=>(∃mm,I pre mm W∧∀b,m b↔(mm b∨b=D∨b=l))∧W.heap[l]? =some (.loop (rc .ready none))∧W.heap[D]? =some (.deferred (some [])))
   (fun pre W=>∃c,Ix c pre W∧W.heap[l]? =some (.loop (rc .done (some c)))∧W.heap[D]? =some (.deferred (some [])))
   (fun b=>m0 b∨b=D∨b=l) W1 hb1 ?_ ?_ ?_ ⟨⟨m0,hI1,fun b=>Iff.rfl⟩,hL1,hK1⟩).mono ?_
  ·rintro pre m A B ⟨⟨mm,hi,hm⟩,h1,h2⟩ hf
   refine ⟨⟨mm,hI _ _ _ _ hi (hf.mono fun b hb hc=>hb ((hm b).2 (.inl hc))),hm⟩,hf.heap h1 (fun hc=>hc ((hm _).2 (.inr (.inr rfl)))),hf.heap h2 (fun hc=>hc ((hm _).2 (.inr (.inl rfl))))⟩
  ·rintro pre m A b ⟨⟨mm,hi,hm⟩,h1,h2⟩ hb
   rcases (hm b).1 hb with h|rfl|rfl
   ·exact ⟨(hIlt _ _ _ _ hi h).1,(hIlt _ _ _ _ hi h).2.1⟩
   ·exact ⟨(Array.getElem?_eq_some_iff.1 h2).1,fun h=>by have:=hBx _ h;omega⟩
   ·exact ⟨(Array.getElem?_eq_some_iff.1 h1).1,fun h=>by have:=hBx _ h;omega⟩
  ·-- one round
   rintro pre x rest m W hxs ⟨⟨mm,hi,hm⟩,h1,h2⟩
   have hne:∀{pre mm A},I pre mm A→¬mm l∧¬mm D:=fun hi=>⟨fun h=>(hIlt _ _ _ _ hi h).2.2.2 hl,fun h=>(hIlt _ _ _ _ hi h).2.2.1 hD⟩
   have hlt:l<W.heap.size:=(Array.getElem?_eq_some_iff.1 h1).1
   have hy:=run_yield (P:=P) (args:=encs x) h1 (by rw [hrc];exact hps x)
   rw [hrc] at hy
   refine ⟨fn,_,assign,body,hy,roundIn_of_wpIn (F:=Fence.wide) hfn (wpIn_mono (hround l pre x rest mm W hxs (by omega) hi) ?_)⟩
   clear hy
   rintro e a₁ Wa hthen
   cases e with
   | exit id=>exact hthen
   | goto t=>exact hthen
   | ret=>exact hthen
   | panic ch=>exact hthen
   | outgrown=>exact hthen
   | normal =>
   obtain ⟨hbel,hbody⟩:=hthen
   have hlW:=(Array.getElem?_eq_some_iff.1 h1).1;have hlD:=(Array.getElem?_eq_some_iff.1 h2).1
   have h1:=(hbel.block _ hlW).trans h1;have h2:=(hbel.block _ hlD).trans h2
   have hlt:l<Wa.heap.size:=(Array.getElem?_eq_some_iff.1 h1).1
   have hi:=hI _ _ _ _ hi (Fr.of_new hbel _)
   refine ⟨_,run_beginRound h1 (by rw [hrc]),?_⟩
   have hl2:(Wa.putObj l (.loop { rc .ready none with state:=.busy })).heap[l]? =some (.loop { rc .ready none with state:=.busy }):=World.putObj_heap_same hlt
   have hk2:(Wa.putObj l (.loop { rc .ready none with state:=.busy })).heap[D]? =some (.deferred (some [])):=(World.putObj_heap_other (by omega)).trans h2
   have hi2:I pre mm (Wa.putObj l (.loop { rc .ready none with state:=.busy })):=hI _ _ _ _ hi ((Fr.refl _ Wa).putObj (.inl (hne hi).1) _)
   have hfr2:∀m',m' l→Fr m' Wa (Wa.putObj l (.loop { rc .ready none with state:=.busy })):=fun m' h=>(Fr.refl _ Wa).putObj (.inl h) _
   refine wpIn_mono (hbody _ (by rw [World.putObj_size];omega) (hrec Wa _) hi2) ?_
   have fin:∀(jump:Option Code) (W3:World),Fr mm (Wa.putObj l (.loop { rc .ready none with state:=.busy })) W3 →
     (Instr.endRound l jump).run P W3=.ok (.bool jump.isNone) (W3.putObj l (.loop (rc (if jump.isNone then .ready else .done) jump))) ∧
     (W3.putObj l (.loop (rc (if jump.isNone then .ready else .done) jump))).heap[l]? =some (.loop (rc (if jump.isNone then .ready else .done) jump)) ∧
     (W3.putObj l (.loop (rc (if jump.isNone then .ready else .done) jump))).heap[D]? =some (.deferred (some [])) ∧
     Fr m W (W3.putObj l (.loop (rc (if jump.isNone then .ready else .done) jump))):=fun jump W3 hk3=>by
    have hl3:=hk3.heap hl2 (hne hi).1
    have:=run_endRound (P:=P) jump hl3
    rw [hrc] at this ⊢
    refine ⟨this,World.putObj_heap_same (Array.getElem?_eq_some_iff.1 hl3).1,(World.putObj_heap_other (by omega)).trans (hk3.heap hk2 (hne hi).2),?_⟩
    have hml:m l:=(hm l).2 (.inr (.inr rfl))
    have h3:=((Fr.of_new hbel m).trans (hfr2 m hml)).trans' hk3 (fun b hb=>.inl ((hm b).2 (.inl hb)))
    exact h3.putObj (.inl hml) _
   rintro e a3 W3 hp
   cases e with
   | normal =>
    obtain ⟨m',hi3,hf3,hgr⟩:=hp
    obtain ⟨hr,hl4,hk4,hf4⟩:=fin none W3 hf3
    refine ⟨_,_,hr,.inl ⟨rfl,fun b=>m' b∨b=D∨b=l,⟨⟨m',hI _ _ _ _ hi3 ((Fr.refl _ W3).putObj (.inl (hne hi3).1) _),fun b=>Iff.rfl⟩,hl4,hk4⟩,hf4,?_⟩⟩
    rintro b (h|h)
    ·rcases hgr b h with h|h
     ·exact .inl ((hm b).2 (.inl h))
     ·exact .inr (by rw [World.putObj_size] at h;exact Nat.le_trans hbel.size h)
    ·exact .inl ((hm b).2 (.inr h))
   | ret =>
    obtain ⟨hi3,hf3⟩:=hp
    obtain ⟨hr,hl4,hk4,hf4⟩:=fin (some .ret) W3 hf3
    exact ⟨_,_,hr,.inr ⟨rfl,⟨.ret,hIx _ _ _ _ hi3 (hrec W3 _),hl4,hk4⟩,hf4⟩⟩
   | exit id =>
    obtain ⟨hi3,hf3⟩:=hp
    obtain ⟨hr,hl4,hk4,hf4⟩:=fin (some (.exit id)) W3 hf3
    exact ⟨_,_,hr,.inr ⟨rfl,⟨.exit id,hIx _ _ _ _ hi3 (hrec W3 _),hl4,hk4⟩,hf4⟩⟩
   | goto t =>
    obtain ⟨hi3,hf3⟩:=hp
    obtain ⟨hr,hl4,hk4,hf4⟩:=fin (some (.goto t)) W3 hf3
    exact ⟨_,_,hr,.inr ⟨rfl,⟨.goto t,hIx _ _ _ _ hi3 (hrec W3 _),hl4,hk4⟩,hf4⟩⟩
   | panic ch=>exact hp.elim
   | outgrown=>exact hp.elim
  ·-- behind the iterator
   rintro e W2 ⟨⟨v,rfl⟩,hfr,(⟨m,⟨mm,hi,hm⟩,h1,h2⟩|⟨pre,c,hi,h1,h2⟩)⟩
   ·have hfw:Fr (fun b=>m0 b∨Bx b) w W2:=(hF1 _).trans' hfr (by
     rintro b ((h|h|h)|h)
     ·exact .inl (.inl h)
     ·exact .inr (by omega)
     ·exact .inr (by omega)
     ·exact .inl (.inr h))
    have hne:¬mm l:=fun h=>(hIlt _ _ _ _ hi h).2.2.2 hl
    exact ⟨none,_,by have:=run_endLoop (P:=P) h1 (by rw [hrc];simp);rw [hrc] at this;exact this,
     hdone mm _ (hI _ _ _ _ hi ((Fr.refl _ W2).putObj (.inl hne) _)) (hfw.putObj (.inr (by omega)) _) (by rw [←hD];exact (World.putObj_heap_other (by omega)).trans h2)⟩
   ·have hfw:Fr (fun b=>m0 b∨Bx b) w W2:=(hF1 _).trans' hfr (by
     rintro b ((h|h|h)|h)
     ·exact .inl (.inl h)
     ·exact .inr (by omega)
     ·exact .inr (by omega)
     ·exact .inl (.inr h))
    exact ⟨some c,_,by have:=run_endLoop (P:=P) h1 (by rw [hrc];simp);rw [hrc] at this;exact this,
     hstop c pre _ (hIx _ _ _ _ hi (hrec W2 _)) (hfw.putObj (.inr (by omega)) _) (by rw [←hD];exact (World.putObj_heap_other (by omega)).trans h2)⟩
end Go.Proofs.YtblgfmjlajhipaaGreatDoor
namespace Go.Proofs.YtblgfmjlajhipaaGreatDoor
open Go Go.RowKit
def wpTailI (F:Fence) (m:Nat) (P:Program) (ops:Array Oper) (Q:Exit→Act→World→Prop):Nat→Nat→Act→World→Prop
 | 0,_,a,w=>Q .normal a w
 | n+1,i,a,w=>wpOpIn F m P ops Q i (fun a' w' =>wpTailI F m P ops Q n (i+1) a' w') a w
section
variable {F:Fence} {n:Nat} {P:Program} {ops:Array Oper} {Q:Exit→Act→World→Prop} {T0:Array Value}
theorem wpIn_region_tail {id:Nat} {w:World} (hm:P.follows .mixedOrders=true) (S:Nat→Value→World→Prop) (L:Nat) (b:Nat→Bool) (hL:L≤ops.size) (hov:overB (ops.extract 0 L) T0.size b=true) (hsl:slotsB ops T0.size=true) (hsl' :slotsB (ops.extract 0 L) T0.size=true) (hbk:backR ops=true) (htl:tailB ops L=true)
  (hup:∀j v w w',Below w.heap.size w w' →S j v w→S j v w')
  (hstep:∀i,i<L→∀o listed a w',RAt ops T0 (fun j v w=>j<L→S j v w) w i o listed a w' →
   ∀K:Act→World→Prop,(∀v w'',S i (gives o.dst v) w'' →Below w'.heap.size w' w'' →K (a.put o.dst v) w'')→wpOpIn F n P ops Q i K a w')
  (htail:∀(s:Nat→Value) w',(∀j,j<L→S j (match dstOf ops j with|some d=>s d|none=>undef) w')→Below w.heap.size w w' →wpTailI F n P ops Q (ops.size-L) L { tmps:=(over b s 0 T0.toList).toArray,defers:=[] } w') :
  (Code.region id ops true).wpIn F n P Q { tmps:=T0,defers:=[] } w:=by
 have hnd:∀m,L≤m→m<ops.size→needB ops m=true:=fun m h1 h2=>by
  have:=List.all_eq_true.1 htl m (by simpa using h2)
  simp only [Bool.or_eq_true,decide_eq_true_eq] at this
  rcases this with h|h
  ·omega
  ·exact h
 have hfin:∀listed a w',RSt ops T0 (fun _ j v w=>j<L→S j v w) (fun _ w' =>Below w.heap.size w w') listed a w' →(∀j,L≤j→listed.getD j false=false)→(∀j,j<L→listed.getD j false=true)→wpTailI F n P ops Q (ops.size-L) L a w' :=by
  intro listed a w' hI hun hall
  rw [hI.frame hL hsl' hov hun]
  refine htail _ w' (fun j hj=> ?_) hI.glob
  have:=hI.vals j (hall j hj) hj
  cases hd:dstOf ops j with
  | none=>rw [hd] at this;exact this
  | some d=>rw [hd] at this;exact this
 refine wpIn_region_inv (fun listed a w' =>(RSt ops T0 (fun _ j v w=>j<L→S j v w) (fun _ w' =>Below w.heap.size w w') listed a w' ∧∀j,L≤j→listed.getD j false=false) ∨
  (∃m,L<m∧m≤ops.size∧listed.size=ops.size∧(∀j,j<ops.size→listed.getD j false=decide (j<m))∧wpTailI F n P ops Q (ops.size-m) m a w')) hm ?_ ?_ ?_
 ·exact .inl ⟨⟨by simp,rfl,rfl,fun _ _=>rfl,fun j hj=>(by rw [getD_falses] at hj;cases hj),(Below.refl _ _).drew,fun j o _ hj=>by rw [getD_falses] at hj;cases hj⟩,fun j _=>getD_falses _ _⟩
 ·rintro listed a w' hI i o ho hun hall
  have hio:i<ops.size:=(Array.getElem?_eq_some_iff.1 ho).1
  have hun' :listed.getD i false=false:=by
   rcases Nat.lt_or_ge i listed.size with h' |h'
   ·simp [h'] at hun ⊢;exact hun
   ·simp [Array.getElem?_eq_none h'] at hun
  have hset:∀m,listed.size=ops.size→(∀j,j<ops.size→listed.getD j false=decide (j<m))→i=m→∀j,j<ops.size→(listed.setIfInBounds i true).getD j false=decide (j<m+1):=by
   intro m hls hj him j hjs
   subst him
   by_cases hji:j=i
   ·subst hji;simp [hls,hio]
   ·rw [getD_set_ne false (Ne.symm hji),hj j hjs]
    simp;omega
  rcases hI with ⟨hI,hL'⟩|⟨m,hm1,hm2,hls,hlst,htl'⟩
  ·by_cases hiL:i<L
   ·refine hstep i hiL o listed a w' ⟨ho,hall,fun t ht=>hI.base t (fun j hj=>absurd hj (free_ne ht)),hI.vals,hI.glob,hun',hI.closed,hI.base⟩ _ fun v w'' h1 h2=>.inl ⟨?_,fun j hj=>(getD_set_ne false (by omega)).trans (hL' j hj)⟩
    exact hI.put_one hsl ho hun' hall (fun _=>h1) (hI.glob.trans (h2.mono hI.glob.size)) fun j u _ _ hS hj=>hup j u w' w'' h2 (hS hj)
   ·have hb:=all_before (hnd i (by omega) hio) ho hall hI.closed
    have hiL:i=L:=by
     rcases Nat.lt_or_ge L i with h|h
     ·have:=hb L h
      rw [hL' L (Nat.le_refl _)] at this;cases this
     ·omega
    subst hiL
    have h:=hfin listed a w' hI hL' hb
    rw [show ops.size-i=(ops.size-(i+1))+1 by omega] at h
    refine wpOpIn_mono (fun a' w'' h=>.inr ⟨i+1,by omega,by omega,by simpa using hI.lsize,hset i hI.lsize (fun j hj=> ?_) rfl,h⟩) h
    by_cases hji:j<i
    ·rw [hb j hji];simp [hji]
    ·rw [hL' j (by omega)];simp [hji]
  ·have him:i=m:=by
    have h1:=hlst i hio
    rw [hun'] at h1
    have h2:¬i<m:=by simpa using h1.symm
    rcases Nat.lt_or_ge m i with h|h
    ·have:=all_before (hnd i (by omega) hio) ho hall (fun j o ho' hj e he hb=>by
      have hjs:j<ops.size:=(Array.getElem?_eq_some_iff.1 ho').1
      have h3:=List.all_eq_true.1 hbk j (by simpa using hjs)
      rw [ho'] at h3
      have h4:=Array.all_eq_true'.1 (show (o.after.all fun e=> !Region.binds .any e||decide (e.on<j))=true from h3) e he
      rw [hb] at h4
      have h5:e.on<j:=by simpa using h4
      have h6:=hlst j hjs
      rw [hj] at h6
      have h7:j<m:=by simpa using h6.symm
      rw [hlst e.on (by omega)];simp;omega) m h
     rw [hlst m (by omega)] at this
     simp at this
    ·omega
   subst him
   have h:=htl'
   rw [show ops.size-i=(ops.size-(i+1))+1 by omega] at h
   exact wpOpIn_mono (fun a' w'' h=>.inr ⟨i+1,by omega,by omega,by simpa using hls,hset i hls hlst rfl,h⟩) h
 ·rintro listed a w' hI hr
  have hback:∀j o,ops[j]? =some o→∀e ∈ o.after,Region.binds .any e=true→e.on<j:=fun j o ho e he hb=>by
   have h1:=List.all_eq_true.1 hbk j (by simpa using (Array.getElem?_eq_some_iff.1 ho).1)
   rw [ho] at h1
   have h2:=Array.all_eq_true'.1 (show (o.after.all fun e=> !Region.binds .any e||decide (e.on<j))=true from h1) e he
   rw [hb] at h2
   simpa using h2
  rcases hI with ⟨hI,hL'⟩|⟨m,hm1,hm2,hls,hlst,htl'⟩
  ·have hup:∀j,j<ops.size→listed.getD j false=true:=fun j hj=>by
    have:=all_up hI.lsize hback hr j hj
    have hs:j<listed.size:=by rw [hI.lsize];exact hj
    simpa [hs] using this
   have hLs:L=ops.size:=by
    rcases Nat.lt_or_ge L ops.size with h|h
    ·have:=hup L h
     rw [hL' L (Nat.le_refl _)] at this;cases this
    ·omega
   have h:=hfin listed a w' hI hL' (fun j hj=>hup j (by omega))
   rw [hLs,Nat.sub_self] at h
   exact h
  ·have hms:m=ops.size:=by
    rcases Nat.lt_or_ge m ops.size with h|h
    ·have:=all_up hls hback hr m h
     have hs:m<listed.size:=by rw [hls];exact h
     have h2:=hlst m h
     simp [hs] at this h2
     rw [this] at h2;cases h2
    ·omega
   rw [hms,Nat.sub_self] at htl'
   exact htl'
theorem tail_stepI {m k i:Nat} {o:Oper} {a:Act} {w:World} (ho:ops[i]? =some o) (hg:o.guard=none) (h:Oper.wpIn F m P o a w (fun a' w' =>wpTailI F m P ops Q k (i+1) a' w') Q):wpTailI F m P ops Q (k+1) i a w:=plain_stepI ho hg h
end
end Go.Proofs.YtblgfmjlajhipaaGreatDoor
