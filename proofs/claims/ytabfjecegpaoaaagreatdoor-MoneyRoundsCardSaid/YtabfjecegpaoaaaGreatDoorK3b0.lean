/- MoneyRounds: for every input the law returns true, and each argument reads afterwards as it read before; the listed tables read as the program lays them (the tied card). -/
import Derived.WalkKit
import Derived.Lib.ItoaLen
import Derived.RangeFuncNested
import Derived.RangeFuncCalls
import Derived.RangeFuncLeaves
import Derived.Shelf.Abstract
import Derived.Below
import Derived.Lib.LaidIn
import Derived.RegionTactic
import Derived.KernelRfl
import Derived.Lib.Hide
import Derived.OrdersIn
import Derived.Test.YtabfjecegpaoaaaGreatDoorZc6
import Derived.Test.YtabfjecegpaoaaaGreatDoorK3a8
import Derived.Test.YtabfjecegpaoaaaGreatDoorZa6
import Derived.Test.YtabfjecegpaoaaaGreatDoorK3a3
import Derived.Test.YtabfjecegpaoaaaGreatDoorZb1
import Derived.Test.YtabfjecegpaoaaaGreatDoorZb0
import Derived.Test.YtabfjecegpaoaaaGreatDoorZa1
set_option maxHeartbeats 16000000
set_option linter.unusedVariables false
namespace Go.Proofs.YtabfjecegpaoaaaGreatDoor
open Go.RowKit Go.Shelf Go
open Dgt
theorem ofC_sz {c:Int} (h1: -9223372036854775808≤c) (h2:c≤9223372036854775807):Rz (ofC c) 16:=quoR_sz (ofR_sz h1 h2) (ofR_sz (n:=100) (by decide) (by decide))
end Go.Proofs.YtabfjecegpaoaaaGreatDoor
namespace Go.Proofs.YtabfjecegpaoaaaGreatDoor
open Go Go.RowKit
theorem alloc_lt (w:World) (o:Obj):w.heap.size<(w.alloc o).heap.size:=by rw [World.size_alloc];omega
structure NewAt (ops:Array Oper) (nw:Nat→Bool) (listed:Array Bool) (a:Act) (w:World):Prop where
 low:∀i,nw i=true→listed.getD i false=true→∃g,inSlot a (dstOf ops i)=.pointer (some ⟨g,0,none⟩)∧g<w.heap.size
 ne:∀i j,nw i=true→nw j=true→i≠j→listed.getD i false=true→listed.getD j false=true→inSlot a (dstOf ops i)≠inSlot a (dstOf ops j)
section
variable {P:Program} {ops:Array Oper} {Q:Exit→Act→World→Prop} {T0:Array Value}
theorem slot_own {a:Act} {i:Nat} {o:Oper} {v:Value} (hsl:slotsB ops T0.size=true) (hsz:a.tmps.size=T0.size) (ho:ops[i]? =some o):inSlot (a.put o.dst v) (dstOf ops i)=gives o.dst v:=by
 have hdo:dstOf ops i=o.dst:=by simp [dstOf,ho]
 rw [hdo]
 cases hd:o.dst with
 | none=>rfl
 | some d =>
  show (a.tmps.setIfInBounds d v).getD d undef=v
  rw [getD_set,if_pos ⟨rfl,by rw [hsz];exact slots_lt hsl (hdo.trans hd)⟩]
theorem slot_other {a:Act} {i j:Nat} {o:Oper} {v:Value} (hsl:slotsB ops T0.size=true) (ho:ops[i]? =some o) (hji:j≠i):inSlot (a.put o.dst v) (dstOf ops j)=inSlot a (dstOf ops j):=by
 have hdo:dstOf ops i=o.dst:=by simp [dstOf,ho]
 cases hdj:dstOf ops j with
 | none=>rfl
 | some c =>
  cases hd:o.dst with
  | none=>rfl
  | some d =>
   show (a.tmps.setIfInBounds d v).getD c undef=_
   rw [getD_set,if_neg (fun h=>hji (slots_ne hsl hdj (by rw [hdo,hd,h.1])))]
   rfl
theorem NewAt.put {nw:Nat→Bool} {listed:Array Bool} {a:Act} {w w' :World} {i:Nat} {o:Oper} {v:Value} (h:NewAt ops nw listed a w) (hsl:slotsB ops T0.size=true) (hsz:a.tmps.size=T0.size) (ho:ops[i]? =some o) (hls:listed.size=ops.size) (hb:Below w.heap.size w w')
  (hn:nw i=true→∃g,gives o.dst v=.pointer (some ⟨g,0,none⟩)∧w.heap.size≤g∧g<w'.heap.size):NewAt ops nw (listed.setIfInBounds i true) (a.put o.dst v) w' :=by
 have hz:w.heap.size≤w'.heap.size:=hb.size
 refine ⟨fun j hj hl=> ?_,fun j k hj hk hne hlj hlk=> ?_⟩
 ·by_cases hji:j=i
  ·subst hji
   rw [slot_own hsl hsz ho]
   obtain ⟨g,h1,-,h2⟩:=hn hj
   exact ⟨g,h1,h2⟩
  ·rw [slot_other hsl ho hji]
   rw [getD_set_ne false (Ne.symm hji)] at hl
   obtain ⟨g,h1,h2⟩:=h.low j hj hl
   exact ⟨g,h1,by omega⟩
 ·by_cases hji:j=i
  ·subst hji
   have hki:k≠j:=Ne.symm hne
   rw [slot_own hsl hsz ho,slot_other hsl ho hki]
   rw [getD_set_ne false (Ne.symm hki)] at hlk
   obtain ⟨g,h1,h2,-⟩:=hn hj
   obtain ⟨g',h3,h4⟩:=h.low k hk hlk
   rw [h1,h3]
   intro e
   injection e with e
   injection e with e
   injection e with e
   omega
  ·rw [slot_other hsl ho hji]
   rw [getD_set_ne false (Ne.symm hji)] at hlj
   by_cases hki:k=i
   ·subst hki
    rw [slot_own hsl hsz ho]
    obtain ⟨g,h1,h2,-⟩:=hn hk
    obtain ⟨g',h3,h4⟩:=h.low j hj hlj
    rw [h1,h3]
    intro e
    injection e with e
    injection e with e
    injection e with e
    omega
   ·rw [slot_other hsl ho hki]
    rw [getD_set_ne false (Ne.symm hki)] at hlk
    exact h.ne j k hj hk hne hlj hlk
theorem wp_region_tailW {id:Nat} {w:World} (hm:P.follows .mixedOrders=true) (S:Nat→Value→World→Prop) (nw:Nat→Bool) (L:Nat) (b:Nat→Bool) (hL:L≤ops.size) (hov:overB (ops.extract 0 L) T0.size b=true) (hsl:slotsB ops T0.size=true) (hsl' :slotsB (ops.extract 0 L) T0.size=true) (hbk:backR ops=true) (htl:tailB ops L=true)
  (hup:∀j v w w',Below w.heap.size w w' →S j v w→S j v w')
  (hstep:∀i,i<L→∀o listed a w',RAt ops T0 (fun j v w=>j<L→S j v w) w i o listed a w' →
   ∀K:Act→World→Prop,(∀v w'',S i (gives o.dst v) w'' →Below w'.heap.size w' w'' →(nw i=true→∃g,gives o.dst v=.pointer (some ⟨g,0,none⟩)∧w'.heap.size≤g∧g<w''.heap.size)→K (a.put o.dst v) w'')→wpOp P ops Q i K a w')
  (htail:∀(s:Nat→Value) w',(∀j,j<L→S j (match dstOf ops j with|some d=>s d|none=>undef) w')→Below w.heap.size w w' →(∀i j,nw i=true→nw j=true→i≠j→i<L→j<L→(match dstOf ops i with|some d=>s d|none=>undef)≠(match dstOf ops j with|some d=>s d|none=>undef))→wpTail P ops Q (ops.size-L) L { tmps:=(over b s 0 T0.toList).toArray,defers:=[] } w') :
  (Code.region id ops true).wp P Q { tmps:=T0,defers:=[] } w:=by
 have hnd:∀m,L≤m→m<ops.size→needB ops m=true:=fun m h1 h2=>by
  have:=List.all_eq_true.1 htl m (by simpa using h2)
  simp only [Bool.or_eq_true,decide_eq_true_eq] at this
  rcases this with h|h
  ·omega
  ·exact h
 have hfin:∀listed a w',RSt ops T0 (fun _ j v w=>j<L→S j v w) (fun _ w' =>Below w.heap.size w w') listed a w' →NewAt ops nw listed a w' →(∀j,L≤j→listed.getD j false=false)→(∀j,j<L→listed.getD j false=true)→wpTail P ops Q (ops.size-L) L a w' :=by
  intro listed a w' hI hnw hun hall
  rw [hI.frame hL hsl' hov hun]
  have hin:∀j,(match dstOf ops j with|some d=>a.tmps.getD d undef|none=>undef)=inSlot a (dstOf ops j):=fun j=>by cases dstOf ops j<;>rfl
  refine htail _ w' (fun j hj=> ?_) hI.glob (fun i j hi hj hne hiL hjL=> ?_)
  ·rw [hin];exact hI.vals j (hall j hj) hj
  ·rw [hin,hin];exact hnw.ne i j hi hj hne (hall i hiL) (hall j hjL)
 refine wp_region_inv (fun listed a w' =>(RSt ops T0 (fun _ j v w=>j<L→S j v w) (fun _ w' =>Below w.heap.size w w') listed a w' ∧NewAt ops nw listed a w' ∧∀j,L≤j→listed.getD j false=false) ∨
  (∃m,L<m∧m≤ops.size∧listed.size=ops.size∧(∀j,j<ops.size→listed.getD j false=decide (j<m))∧wpTail P ops Q (ops.size-m) m a w')) hm ?_ ?_ ?_
 ·exact .inl ⟨⟨by simp,rfl,rfl,fun _ _=>rfl,fun j hj=>(by rw [getD_falses] at hj;cases hj),(Below.refl _ _).drew,fun j o _ hj=>by rw [getD_falses] at hj;cases hj⟩,⟨fun i _ hi=>(by rw [getD_falses] at hi;cases hi),fun i j _ _ _ hi _=>(by rw [getD_falses] at hi;cases hi)⟩,fun j _=>getD_falses _ _⟩
 ·rintro listed a w' hI i o ho hun hall
  have hio:i<ops.size:=(Array.getElem?_eq_some_iff.1 ho).1
  have hun' :listed.getD i false=false:=by
   rcases Nat.lt_or_ge i listed.size with h' |h'
   ·simp [h'] at hun ⊢;exact hun
   ·simp [Array.getElem?_eq_none h'] at hun
  have hset:∀m,listed.size=ops.size→(∀j,j<ops.size→listed.getD j false=decide (j<m))→i=m→∀j,j<ops.size→(listed.setIfInBounds i true).getD j false=decide (j<m+1):=by
   intro m hls hj him j hjs
   subst him
   by_cases hji:j=i
   ·subst hji;simp [hls,hio]
   ·rw [getD_set_ne false (Ne.symm hji),hj j hjs]
    simp;omega
  rcases hI with ⟨hI,hnw,hL'⟩|⟨m,hm1,hm2,hls,hlst,htl'⟩
  ·by_cases hiL:i<L
   ·refine hstep i hiL o listed a w' ⟨ho,hall,fun t ht=>hI.base t (fun j hj=>absurd hj (free_ne ht)),hI.vals,hI.glob,hun',hI.closed,hI.base⟩ _ fun v w'' h1 h2 h3=>.inl ⟨?_,hnw.put hsl hI.size ho hI.lsize h2 h3,fun j hj=>(getD_set_ne false (by omega)).trans (hL' j hj)⟩
    exact hI.put_one hsl ho hun' hall (fun _=>h1) (hI.glob.trans (h2.mono hI.glob.size)) fun j u _ _ hS hj=>hup j u w' w'' h2 (hS hj)
   ·have hb:=all_before (hnd i (by omega) hio) ho hall hI.closed
    have hiL:i=L:=by
     rcases Nat.lt_or_ge L i with h|h
     ·have:=hb L h
      rw [hL' L (Nat.le_refl _)] at this;cases this
     ·omega
    subst hiL
    have h:=hfin listed a w' hI hnw hL' hb
    rw [show ops.size-i=(ops.size-(i+1))+1 by omega] at h
    refine wpOp_mono (fun a' w'' h=>.inr ⟨i+1,by omega,by omega,by simpa using hI.lsize,hset i hI.lsize (fun j hj=> ?_) rfl,h⟩) h
    by_cases hji:j<i
    ·rw [hb j hji];simp [hji]
    ·rw [hL' j (by omega)];simp [hji]
  ·have him:i=m:=by
    have h1:=hlst i hio
    rw [hun'] at h1
    have h2:¬i<m:=by simpa using h1.symm
    rcases Nat.lt_or_ge m i with h|h
    ·have:=all_before (hnd i (by omega) hio) ho hall (fun j o ho' hj e he hb=>by
      have hjs:j<ops.size:=(Array.getElem?_eq_some_iff.1 ho').1
      have h3:=List.all_eq_true.1 hbk j (by simpa using hjs)
      rw [ho'] at h3
      have h4:=Array.all_eq_true'.1 (show (o.after.all fun e=> !Region.binds .any e||decide (e.on<j))=true from h3) e he
      rw [hb] at h4
      have h5:e.on<j:=by simpa using h4
      have h6:=hlst j hjs
      rw [hj] at h6
      have h7:j<m:=by simpa using h6.symm
      rw [hlst e.on (by omega)];simp;omega) m h
     rw [hlst m (by omega)] at this
     simp at this
    ·omega
   subst him
   have h:=htl'
   rw [show ops.size-i=(ops.size-(i+1))+1 by omega] at h
   exact wpOp_mono (fun a' w'' h=>.inr ⟨i+1,by omega,by omega,by simpa using hls,hset i hls hlst rfl,h⟩) h
 ·rintro listed a w' hI hr
  have hback:∀j o,ops[j]? =some o→∀e ∈ o.after,Region.binds .any e=true→e.on<j:=fun j o ho e he hb=>by
   have h1:=List.all_eq_true.1 hbk j (by simpa using (Array.getElem?_eq_some_iff.1 ho).1)
   rw [ho] at h1
   have h2:=Array.all_eq_true'.1 (show (o.after.all fun e=> !Region.binds .any e||decide (e.on<j))=true from h1) e he
   rw [hb] at h2
   simpa using h2
  rcases hI with ⟨hI,hnw,hL'⟩|⟨m,hm1,hm2,hls,hlst,htl'⟩
  ·have hup:∀j,j<ops.size→listed.getD j false=true:=fun j hj=>by
    have:=all_up hI.lsize hback hr j hj
    have hs:j<listed.size:=by rw [hI.lsize];exact hj
    simpa [hs] using this
   have hLs:L=ops.size:=by
    rcases Nat.lt_or_ge L ops.size with h|h
    ·have:=hup L h
     rw [hL' L (Nat.le_refl _)] at this;cases this
    ·omega
   have h:=hfin listed a w' hI hnw hL' (fun j hj=>hup j (by omega))
   rw [hLs,Nat.sub_self] at h
   exact h
  ·have hms:m=ops.size:=by
    rcases Nat.lt_or_ge m ops.size with h|h
    ·have:=all_up hls hback hr m h
     have hs:m<listed.size:=by rw [hls];exact h
     have h2:=hlst m h
     simp [hs] at this h2
     rw [this] at h2;cases h2
    ·omega
   rw [hms,Nat.sub_self] at htl'
   exact htl'
end
end Go.Proofs.YtabfjecegpaoaaaGreatDoor
