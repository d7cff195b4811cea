/- Contracts that the proofs of this seat share. Each theorem names its conditions. -/
import Derived.Lib.ItoaLen
import Derived.Test.YtabfjecegpaoaaaGreatDoorZa6
import Derived.Test.YtabfjecegpaoaaaGreatDoorZb0
import Derived.Test.YtabfjecegpaoaaaGreatDoorZa1
set_option maxHeartbeats 16000000
set_option linter.unusedVariables false
namespace Go.Proofs.YtabfjecegpaoaaaGreatDoor
open Go.RowKit Go.Shelf Go.Lib
open Dgt
def centN (a:Rt):Rt:=mulR a (ofR 100)
def centsOk (a:Rt):Bool:=decide ((centN a).den=1)&&(decide ((centN a).num<9223372036854775808)||((centN a).neg&&decide ((centN a).num=9223372036854775808)))
def centsI (a:Rt):Int:=if centsOk a=true then iv (centN a).neg (centN a).num else 0
def ofC (c:Int):Rt:=quoR (ofR c) (ofR 100)
theorem hun_ok:(ofR 100).Ok:=ofR_ok 100
theorem q_hun:(ofR 100).q=100:=by rw [q_of];rfl
theorem ofC_ok (c:Int):(ofC c).Ok:=quoR_ok (ofR_ok c) (by decide)
theorem q_ofC (c:Int):(ofC c).q=(c:Rat)/100:=by unfold ofC;rw [q_quo (ofR_ok c) hun_ok (by decide),q_of,q_hun]
theorem centN_ok {a:Rt} (h:a.Ok):(centN a).Ok:=mulR_ok h hun_ok
theorem q_centN {a:Rt} (h:a.Ok):(centN a).q=a.q*100:=by unfold centN;rw [q_mul h hun_ok,q_hun]
theorem iv_one {b:Rt} (hb:b.Ok) (h1:b.den=1):b=ofR (iv b.neg b.num):=q_inj hb (ofR_ok _) (by rw [q_of];unfold Rt.q;rw [h1,Rat.mkRat_eq_div];grind)
theorem cents_back {a:Rt} (ha:a.Ok) (h:centsOk a=true):a=ofC (centsI a)∧ -9223372036854775808≤centsI a∧centsI a≤9223372036854775807:=by
 have h' :=h;unfold centsOk at h';simp only [Bool.and_eq_true,Bool.or_eq_true,decide_eq_true_eq] at h';have e:=iv_one (centN_ok ha) h'.1;have hi:centsI a=iv (centN a).neg (centN a).num:=by unfold centsI;rw [if_pos h]
 refine ⟨q_inj ha (ofC_ok _) ?_,?_⟩
 ·have hq:=q_centN ha;rw [e,q_of, ←hi] at hq;rw [q_ofC,hq];grind
 ·rw [hi];unfold iv;rcases h'.2 with h2|⟨h2,h3⟩
  ·cases (centN a).neg<;>simp<;>omega
  ·rw [h2,h3];decide
def two (r:Nat):List UInt8:=if r<10 then 48::decDigits r else decDigits r
def sgnL (neg:Bool):List UInt8:=if neg then [45] else []
def textM (a:Rt):List UInt8:=36::((sgnL a.neg++decDigits ((centN a).num/100))++46::two ((centN a).num%100))
def strip:List UInt8→List UInt8
 | []=>[]
 | [c]=>[c]
 | c::d::r=>if c=48 then strip (d::r) else c::d::r
theorem strip_ne:∀{l:List UInt8},l.headD 0≠48→strip l=l
 | [],_=>rfl
 | [c],_=>rfl
 | c::d::r,h=>by rw [strip,if_neg (by simpa using h)]
def dgs (l:List UInt8):List UInt8:=(l.take (l.length-3)).drop 1++l.drop (l.length-2)
def negL (l:List UInt8):Bool:=decide (l[1]? =some 45)
def shapeP (l:List UInt8):Bool:=decide (5≤l.length)&&decide (l.length≤30)&&decide (l[l.length-3]? =some 46)
def stripP (l:List UInt8):List UInt8:=strip (if negL l then (dgs l).drop 1 else dgs l)
def candP (l:List UInt8):Option Rt:=if shapeP l=true∧okP (stripP l)=true then some (low (negL l) (decV (stripP l)) 100) else none
def accept (l:List UInt8) (a:Rt):Bool:=centsOk a&&decide (textM a=l)
def parseM (l:List UInt8):Option Rt:=match candP l with
 | some a=>if accept l a then some a else none
 | none=>none
section
variable {a:Rt}
end
theorem accept_iff {l:List UInt8} {a:Rt}:accept l a=true↔centsOk a=true∧textM a=l:=by
 unfold accept;simp
end Go.Proofs.YtabfjecegpaoaaaGreatDoor
namespace Go.Proofs.YtabfjecegpaoaaaGreatDoor
open Go.RowKit Go.Shelf
open Dgt
theorem add_of (a b:Int):addR (ofR a) (ofR b)=ofR (a+b):=q_inj (addR_ok (ofR_ok a) (ofR_ok b)) (ofR_ok _) (by rw [q_add (ofR_ok a) (ofR_ok b),q_of,q_of,q_of,Rat.intCast_add])
theorem sub_of (a b:Int):subR (ofR a) (ofR b)=ofR (a-b):=q_inj (subR_ok (ofR_ok a) (ofR_ok b)) (ofR_ok _) (by rw [q_sub (ofR_ok a) (ofR_ok b),q_of,q_of,q_of,Rat.intCast_sub])
theorem neg_ofC (c:Int):negR (ofC c)=ofC (-c):=q_inj (negR_ok (ofC_ok c)) (ofC_ok _) (by rw [q_neg,q_ofC,q_ofC,Rat.intCast_neg];grind)
theorem sgn_of (a:Int):sgnR (ofR a)=if a=0 then 0 else if a<0 then-1 else 1:=by
 unfold sgnR ofR
 by_cases h:a=0
 ·subst h;rfl
 ·rw [if_neg (by simpa using h),if_neg h]
  by_cases h2:a<0<;>simp [h2]
theorem of_sz {n:Int} (h:n.natAbs<18446744073709551616):Rz (ofR n) 8:=⟨by unfold Sz ofR;simpa using h,(show Sz 1 8 by unfold Sz;decide)⟩
def atQ (l:List Rt) (k:Nat):Rat:=(l.getD k zeroR).q
def sumT (l:List Rt):Rt:=l.foldl addR zeroR
theorem sumT_snoc (l:List Rt) (a:Rt):sumT (l++[a])=addR (sumT l) a:=by unfold sumT;rw [List.foldl_append];rfl
theorem sumT_ok:∀{l:List Rt},(∀a ∈ l,a.Ok)→(sumT l).Ok:=by
 have h:∀(l:List Rt) (A:Rt),A.Ok→(∀a ∈ l,a.Ok)→(l.foldl addR A).Ok:=by
  intro l
  induction l with
  | nil=>intro A hA _;exact hA
  | cons a l ih=>intro A hA hl;exact ih _ (addR_ok hA (hl a (by simp))) (fun x hx=>hl x (by simp [hx]))
 exact fun {l} hl=>h l _ zeroR_ok hl
theorem getD_at' {l:List Rt} {k:Nat} (h:k<l.length):l.getD k zeroR=l[k]:=by rw [List.getD_eq_getElem?_getD,List.getElem?_eq_getElem h];rfl
theorem sumQ_list {l:List Rt} (hl:∀a ∈ l,a.Ok):(sumT l).q=sumQ (atQ l) l.length:=by
 have h:∀(n:Nat),n≤l.length→(sumT (l.take n)).q=sumQ (atQ l) n:=by
  intro n
  induction n with
  | zero=>intro _;rw [List.take_zero];exact q_zero
  | succ n ih =>
   intro hn;have hlt:n<l.length:=hn;rw [List.take_succ_eq_append_getElem hlt,sumT_snoc,q_add (sumT_ok fun a ha=>hl a (List.mem_of_mem_take ha)) (hl _ (List.getElem_mem hlt)),ih (by omega),sumQ];unfold atQ;rw [getD_at' hlt]
 have:=h l.length (Nat.le_refl _)
 rwa [List.take_length] at this
section
variable (c:Int) (ws:List Rt)
def qtR (k:Nat):Rt:=quoR (mulR (ofR c.natAbs) (ws.getD k zeroR)) (sumT ws)
def zZ (k:Nat):Int:=(qtR c ws k).q.floor
def ovR (k:Nat):Rt:=subR (qtR c ws k) (ofR (zZ c ws k))
def ovQ (k:Nat):Rat:=(qtR c ws k).q-(zZ c ws k:Rat)
def sumZ (f:Nat→Int):Nat→Int
 | 0=>0
 | n+1=>sumZ f n+f n
def lefZ:Int:=c.natAbs-sumZ (zZ c ws) ws.length
def xZ (s:List Nat) (k:Nat):Int:=zZ c ws k+if k ∈ s.take (lefZ c ws).toNat then 1 else 0
def sgZ (x:Int):Int:=if c<0 then-x else x
def partsT (s:List Nat):List Rt:=(List.range ws.length).map fun k=>ofC (sgZ c (xZ c ws s k))
end
theorem sumZ_q (f:Nat→Int):∀n,((sumZ f n:Int):Rat)=sumQ (fun k=>(f k:Rat)) n
 | 0=>by simp [sumZ,sumQ]
 | n+1=>by rw [sumZ,sumQ,Rat.intCast_add,sumZ_q]
structure Wts (ws:List Rt):Prop where
 ok:∀a ∈ ws,a.Ok
 nn:∀a ∈ ws,a.neg=false
 pos:0<(sumT ws).q
section
variable {c:Int} {ws:List Rt}
theorem Wts.okk (h:Wts ws) (k:Nat):(ws.getD k zeroR).Ok:=by
 by_cases hk:k<ws.length
 ·rw [getD_at' hk];exact h.ok _ (List.getElem_mem hk)
 ·rw [List.getD_eq_getElem?_getD,List.getElem?_eq_none (by omega)];exact zeroR_ok
theorem nn_q {a:Rt} (ha:a.Ok) (h:a.neg=false):0≤a.q:=by
 have h2:=(q_sgn ha).2.2;rcases tri a.q with e|e|e
 ·rw [e];exact Rat.le_refl
 ·exact Rat.le_of_lt e
 ·have:=h2.2 e;unfold sgnR at this;rw [h] at this
  split at this<;>simp at this
theorem Wts.nnk (h:Wts ws) (k:Nat):0≤atQ ws k:=by
 unfold atQ
 by_cases hk:k<ws.length
 ·rw [getD_at' hk];exact nn_q (h.ok _ (List.getElem_mem hk)) (h.nn _ (List.getElem_mem hk))
 ·rw [List.getD_eq_getElem?_getD,List.getElem?_eq_none (by omega)];exact (by rw [show (none:Option Rt).getD zeroR=zeroR from rfl,q_zero];exact Rat.le_refl)
theorem Wts.sok (h:Wts ws):(sumT ws).Ok:=sumT_ok h.ok
theorem Wts.snum (h:Wts ws):(sumT ws).num≠0:=num_ne h.sok h.pos
theorem Wts.q_qt (h:Wts ws) (k:Nat):(qtR c ws k).q=((c.natAbs:Int):Rat)*atQ ws k/(sumT ws).q:=by
 unfold qtR atQ;rw [q_quo (mulR_ok (ofR_ok _) (h.okk k)) h.sok h.snum,q_mul (ofR_ok _) (h.okk k),q_of]
theorem Wts.qt_ok (h:Wts ws) (k:Nat):(qtR c ws k).Ok:=quoR_ok (mulR_ok (ofR_ok _) (h.okk k)) (by have:=h.snum;omega)
theorem abs_nn (c:Int):(0:Rat)≤((c.natAbs:Int):Rat):=Rat.intCast_le_intCast.2 (show (0:Int)≤(c.natAbs:Int) by omega)
theorem Wts.qt_nn (h:Wts ws) (k:Nat):0≤(qtR c ws k).q:=by
 rw [h.q_qt];have:=Rat.mul_nonneg (abs_nn c) (h.nnk k);have hx:=div_mulc (x:=((c.natAbs:Int):Rat)*atQ ws k) h.pos
 by_cases hn:0≤((c.natAbs:Int):Rat)*atQ ws k/(sumT ws).q
 ·exact hn
 ·have:=Rat.mul_pos (show 0< -(((c.natAbs:Int):Rat)*atQ ws k/(sumT ws).q) by grind) h.pos
  grind
theorem Wts.z_nn (h:Wts ws) (k:Nat):0≤zZ c ws k:=Rat.le_floor_iff.2 (by simpa using h.qt_nn k)
theorem ov_range (k:Nat):0≤ovQ c ws k∧ovQ c ws k<1:=by
 unfold ovQ zZ;have h1:=Rat.floor_le (qtR c ws k).q;have h2:=Rat.lt_floor_add_one (qtR c ws k).q;rw [Rat.intCast_add] at h2
 grind
theorem Wts.ovR_ok (h:Wts ws) (k:Nat):(ovR c ws k).Ok:=subR_ok (h.qt_ok k) (ofR_ok _)
theorem Wts.q_ov (h:Wts ws) (k:Nat):(ovR c ws k).q=ovQ c ws k:=by unfold ovR ovQ;rw [q_sub (h.qt_ok k) (ofR_ok _),q_of]
theorem Wts.sum_qt (h:Wts ws):sumQ (fun k=>(qtR c ws k).q) ws.length=((c.natAbs:Int):Rat):=by
 have e:sumQ (fun k=>(qtR c ws k).q) ws.length=sumQ (fun k=>((c.natAbs:Int):Rat)/(sumT ws).q*atQ ws k) ws.length :=
  sumQ_congr fun k _=>by rw [h.q_qt];grind
 rw [e,sumQ_scale, ←sumQ_list h.ok,div_mulc h.pos]
theorem Wts.left (h:Wts ws):((lefZ c ws:Int):Rat)=sumQ (ovQ c ws) ws.length:=by
 unfold lefZ;rw [Rat.intCast_sub,sumZ_q, ←h.sum_qt (c:=c)];have e:sumQ (fun k=>(qtR c ws k).q) ws.length=sumQ (fun k=>ovQ c ws k+(zZ c ws k:Rat)) ws.length:=sumQ_congr fun k _=>by unfold ovQ;grind
 rw [e,sumQ_add];grind
theorem Wts.left_nn (h:Wts ws):0≤lefZ c ws:=by
 have h1:=sumQ_nonneg (n:=ws.length) (fun k _=>(ov_range (c:=c) (ws:=ws) k).1);rw [←h.left] at h1;exact Rat.intCast_le_intCast.1 (by simpa using h1)
theorem Wts.leftN (h:Wts ws):(((lefZ c ws).toNat:Nat):Rat)=sumQ (ovQ c ws) ws.length:=by
 rw [←h.left];have:=h.left_nn (c:=c);show (((lefZ c ws).toNat:Int):Rat)=_;rw [Int.toNat_of_nonneg this]
theorem Wts.left_le (h:Wts ws):(lefZ c ws).toNat≤ws.length:=rest_le (fun k _=>ov_range k) h.leftN
abbrev OrdS (c:Int) (ws:List Rt) (s:List Nat):Prop:=Ordd (ovQ c ws) ws.length s
variable {s:List Nat}
theorem Wts.sum_x (h:Wts ws) (ho:OrdS c ws s):sumQ (fun k=>(xZ c ws s k:Rat)) ws.length=((c.natAbs:Int):Rat):=by
 have e:sumQ (fun k=>(xZ c ws s k:Rat)) ws.length=sumQ (fun k=>(zZ c ws k:Rat)+if (decide (k ∈ s.take (lefZ c ws).toNat)) then 1 else 0) ws.length:=sumQ_congr fun k _=>by
  unfold xZ;rw [Rat.intCast_add];by_cases hk:k ∈ s.take (lefZ c ws).toNat<;>simp [hk]
 rw [e,sumQ_add,sumQ_count,ho.count h.left_le,h.leftN, ←h.left, ←sumZ_q];unfold lefZ;rw [Rat.intCast_sub];grind
theorem Wts.x_nn (h:Wts ws) (k:Nat):0≤xZ c ws s k:=by have:=h.z_nn (c:=c) k;unfold xZ;split<;>omega
theorem Wts.x_le (h:Wts ws) (ho:OrdS c ws s) {k:Nat} (hk:k<ws.length):xZ c ws s k≤c.natAbs:=by
 have h1:=sumQ_le_mem (f:=fun k=>(xZ c ws s k:Rat)) (n:=ws.length) (k:=k) (fun k _=>by simpa using Rat.intCast_le_intCast.2 (h.x_nn (s:=s) k)) hk;rw [h.sum_x ho] at h1;exact Rat.intCast_le_intCast.1 h1
theorem Wts.x_int (h:Wts ws) (ho:OrdS c ws s) (c1: -9223372036854775808≤c) (c2:c≤9223372036854775807) {k:Nat} (hk:k<ws.length) :
  -9223372036854775808≤sgZ c (xZ c ws s k)∧sgZ c (xZ c ws s k)≤9223372036854775807:=by
 have h1:=h.x_nn (c:=c) (s:=s) k;have h2:=h.x_le ho hk;unfold sgZ;split<;>omega
end
end Go.Proofs.YtabfjecegpaoaaaGreatDoor
namespace Go.Proofs.YtabfjecegpaoaaaGreatDoor
open Go Go.RowKit
def wpTail (P:Program) (ops:Array Oper) (Q:Exit→Act→World→Prop):Nat→Nat→Act→World→Prop
 | 0,_,a,w=>Q .normal a w
 | n+1,i,a,w=>wpOp P ops Q i (fun a' w' =>wpTail P ops Q n (i+1) a' w') a w
def tailB (ops:Array Oper) (L:Nat):Bool:=(List.range ops.size).all fun m=>decide (m<L)||needB ops m
theorem all_before {ops:Array Oper} {i:Nat} {o:Oper} {listed:Array Bool} (hneed:needB ops i=true) (ho:ops[i]? =some o) (hall:∀e ∈ o.after,Region.binds .any e=true→listed.getD e.on false=true)
  (hcl:∀j o,ops[j]? =some o→listed.getD j false=true→∀e ∈ o.after,Region.binds .any e=true→listed.getD e.on false=true):∀j,j<i→listed.getD j false=true:=by
 have key:∀d m,m+d=i→m<i→listed.getD m false=true:=by
  intro d
  induction d using Nat.strongRecOn with
  | _ d ih =>
   intro m hm hmi
   have h1:=List.all_eq_true.1 hneed m (by simp;omega)
   obtain ⟨k,hk,h2⟩:=List.any_eq_true.1 h1
   simp only [List.mem_range] at hk
   simp only [Bool.and_eq_true,decide_eq_true_eq] at h2
   obtain ⟨hmk,h3⟩:=h2
   cases hok:ops[k]? with
   | none=>rw [hok] at h3;simp at h3
   | some ok =>
    rw [hok] at h3
    obtain ⟨e,he,h4⟩:=Array.any_eq_true'.1 (show (ok.after.any fun e=>decide (e.on=m)&&Region.binds .any e)=true from h3)
    simp only [Bool.and_eq_true,decide_eq_true_eq] at h4
    by_cases hki:k=i
    ·subst hki
     rw [ho] at hok
     obtain rfl:=Option.some.inj hok
     have:=hall e he h4.2
     rwa [h4.1] at this
    ·have:=hcl k ok hok (ih (i-k) (by omega) k (by omega) (by omega)) e he h4.2
     rwa [h4.1] at this
 exact fun j hj=>key (i-j) j (by omega) hj
theorem dst_extract (ops:Array Oper) (L j:Nat) (hj:j<L) (hL:L≤ops.size):dstOf (ops.extract 0 L) j=dstOf ops j:=by
 unfold dstOf
 rw [Array.getElem?_extract,if_pos (by rw [Nat.min_eq_left hL];omega),Nat.zero_add]
section
variable {P:Program} {ops:Array Oper} {Q:Exit→Act→World→Prop} {T0:Array Value} {S:Array Bool→Nat→Value→World→Prop} {R:Array Bool→World→Prop}
theorem RSt.put_one {listed:Array Bool} {a:Act} {w w' :World} {i:Nat} {o:Oper} {v:Value} (hsl:slotsB ops T0.size=true) (hI:RSt ops T0 S R listed a w) (ho:ops[i]? =some o) (hun' :listed.getD i false=false) (hall:∀e ∈ o.after,Region.binds .any e=true→listed.getD e.on false=true)
  (hS:S (listed.setIfInBounds i true) i (gives o.dst v) w') (hR:R (listed.setIfInBounds i true) w') (hkeep:∀j u,j≠i→listed.getD j false=true→S listed j u w→S (listed.setIfInBounds i true) j u w'):RSt ops T0 S R (listed.setIfInBounds i true) (a.put o.dst v) w' :=by
 have hio:i<ops.size:=(Array.getElem?_eq_some_iff.1 ho).1
 have hdo:dstOf ops i=o.dst:=by simp [dstOf,ho]
 refine ⟨by simpa using hI.lsize,by rw [put_size];exact hI.size,by rw [put_defers];exact hI.defers,fun t ht=> ?_,fun j hj=> ?_,hR,fun j oj hoj hj e he hb=> ?_⟩
 ·have hne:o.dst≠some t:=fun e=>by
   have:=ht i (hdo.trans e)
   simp [hI.lsize,hio] at this
  have hb:=hI.base t (fun j hj=>by
   by_cases hji:j=i
   ·subst hji;exact hun'
   ·have:=ht j hj
    rwa [getD_set_ne false (Ne.symm hji)] at this)
  cases hd:o.dst with
  | none=>simpa [Act.put] using hb
  | some d =>
   show (a.tmps.setIfInBounds d v).getD t undef=_
   rw [getD_set,if_neg (fun h=>hne (by rw [hd,h.1]))]
   exact hb
 ·by_cases hji:j=i
  ·subst hji
   have e:inSlot (a.put o.dst v) (dstOf ops j)=gives o.dst v:=by
    rw [hdo]
    cases hd:o.dst with
    | none=>rfl
    | some d =>
     show (a.tmps.setIfInBounds d v).getD d undef=v
     rw [getD_set,if_pos ⟨rfl,by rw [hI.size];exact slots_lt hsl (hdo.trans hd)⟩]
   rw [e];exact hS
  ·have hj' :listed.getD j false=true:=by rwa [getD_set_ne false (Ne.symm hji)] at hj
   have e:inSlot (a.put o.dst v) (dstOf ops j)=inSlot a (dstOf ops j):=by
    cases hdj:dstOf ops j with
    | none=>rfl
    | some c =>
     cases hd:o.dst with
     | none=>rfl
     | some d =>
      show (a.tmps.setIfInBounds d v).getD c undef=_
      rw [getD_set,if_neg (fun h=>hji (slots_ne hsl hdj (by rw [hdo,hd,h.1])))]
      rfl
   rw [e]
   exact hkeep j _ hji hj' (hI.vals j hj')
 ·by_cases hji:j=i
  ·subst hji
   rw [ho] at hoj
   obtain rfl:=Option.some.inj hoj
   exact getD_set_true (hall e he hb)
  ·have hj' :listed.getD j false=true:=by rwa [getD_set_ne false (Ne.symm hji)] at hj
   exact getD_set_true (hI.closed j oj hoj hj' e he hb)
theorem RSt.frame {listed:Array Bool} {a:Act} {w:World} {L:Nat} {b:Nat→Bool} (hL:L≤ops.size) (hsl:slotsB (ops.extract 0 L) T0.size=true) (hov:overB (ops.extract 0 L) T0.size b=true) (hI:RSt ops T0 S R listed a w) (hun:∀j,L≤j→listed.getD j false=false) :
  a={ tmps:=(over b (fun d=>a.tmps.getD d undef) 0 T0.toList).toArray,defers:=[] }:=by
 rw [←fill_over hsl hov]
 have hT:a.tmps=fill (ops.extract 0 L) (fun d=>a.tmps.getD d undef) (ops.extract 0 L).size T0:=by
  refine arr_ext (by rw [fill_size];exact hI.size) fun t=> ?_
  rw [fill_get _ _ T0 (fun j d h=>slots_lt hsl h) t]
  split
  ·rfl
  ·rename_i hno
   exact hI.base t fun j hj=>by
    rcases Nat.lt_or_ge j L with h|h
    ·have h2:=(dst_extract ops L j h hL).trans hj
     exact absurd ⟨j,dstOf_lt h2,h2⟩ hno
    ·exact hun j h
 obtain ⟨tm,df⟩:=a
 have hd:df=[]:=hI.defers
 subst hd
 rw [←hT]
end
section
variable {P:Program} {ops:Array Oper} {Q:Exit→Act→World→Prop} {T0:Array Value}
theorem wpTl {id:Nat} {w:World} (hm:P.follows .mixedOrders=true) (S:Nat→Value→World→Prop) (L:Nat) (b:Nat→Bool) (hL:L≤ops.size) (hov:overB (ops.extract 0 L) T0.size b=true) (hsl:slotsB ops T0.size=true) (hsl' :slotsB (ops.extract 0 L) T0.size=true) (hbk:backR ops=true) (htl:tailB ops L=true)
  (hup:∀j v w w',Below w.heap.size w w' →S j v w→S j v w')
  (hstep:∀i,i<L→∀o listed a w',RAt ops T0 (fun j v w=>j<L→S j v w) w i o listed a w' →
   ∀K:Act→World→Prop,(∀v w'',S i (gives o.dst v) w'' →Below w'.heap.size w' w'' →K (a.put o.dst v) w'')→wpOp P ops Q i K a w')
  (htail:∀(s:Nat→Value) w',(∀j,j<L→S j (match dstOf ops j with|some d=>s d|none=>undef) w')→Below w.heap.size w w' →wpTail P ops Q (ops.size-L) L { tmps:=(over b s 0 T0.toList).toArray,defers:=[] } w') :
  (Code.region id ops true).wp P Q { tmps:=T0,defers:=[] } w:=by
 have hnd:∀m,L≤m→m<ops.size→needB ops m=true:=fun m h1 h2=>by
  have:=List.all_eq_true.1 htl m (by simpa using h2)
  simp only [Bool.or_eq_true,decide_eq_true_eq] at this
  rcases this with h|h
  ·omega
  ·exact h
 have hfin:∀listed a w',RSt ops T0 (fun _ j v w=>j<L→S j v w) (fun _ w' =>Below w.heap.size w w') listed a w' →(∀j,L≤j→listed.getD j false=false)→(∀j,j<L→listed.getD j false=true)→wpTail P ops Q (ops.size-L) L a w' :=by
  intro listed a w' hI hun hall
  rw [hI.frame hL hsl' hov hun]
  refine htail _ w' (fun j hj=> ?_) hI.glob
  have:=hI.vals j (hall j hj) hj
  cases hd:dstOf ops j with
  | none=>rw [hd] at this;exact this
  | some d=>rw [hd] at this;exact this
 refine wp_region_inv (fun listed a w' =>(RSt ops T0 (fun _ j v w=>j<L→S j v w) (fun _ w' =>Below w.heap.size w w') listed a w' ∧∀j,L≤j→listed.getD j false=false) ∨
  (∃m,L<m∧m≤ops.size∧listed.size=ops.size∧(∀j,j<ops.size→listed.getD j false=decide (j<m))∧wpTail P ops Q (ops.size-m) m a w')) hm ?_ ?_ ?_
 ·exact .inl ⟨⟨by simp,rfl,rfl,fun _ _=>rfl,fun j hj=>(by rw [getD_falses] at hj;cases hj),(Below.refl _ _).drew,fun j o _ hj=>by rw [getD_falses] at hj;cases hj⟩,fun j _=>getD_falses _ _⟩
 ·rintro listed a w' hI i o ho hun hall
  have hio:i<ops.size:=(Array.getElem?_eq_some_iff.1 ho).1
  have hun' :listed.getD i false=false:=by
   rcases Nat.lt_or_ge i listed.size with h' |h'
   ·simp [h'] at hun ⊢;exact hun
   ·simp [Array.getElem?_eq_none h'] at hun
  have hset:∀m,listed.size=ops.size→(∀j,j<ops.size→listed.getD j false=decide (j<m))→i=m→∀j,j<ops.size→(listed.setIfInBounds i true).getD j false=decide (j<m+1):=by
   intro m hls hj him j hjs
   subst him
   by_cases hji:j=i
   ·subst hji;simp [hls,hio]
   ·rw [getD_set_ne false (Ne.symm hji),hj j hjs]
    simp;omega
  rcases hI with ⟨hI,hL'⟩|⟨m,hm1,hm2,hls,hlst,htl'⟩
  ·by_cases hiL:i<L
   ·refine hstep i hiL o listed a w' ⟨ho,hall,fun t ht=>hI.base t (fun j hj=>absurd hj (free_ne ht)),hI.vals,hI.glob,hun',hI.closed,hI.base⟩ _ fun v w'' h1 h2=>.inl ⟨?_,fun j hj=>(getD_set_ne false (by omega)).trans (hL' j hj)⟩
    exact hI.put_one hsl ho hun' hall (fun _=>h1) (hI.glob.trans (h2.mono hI.glob.size)) fun j u _ _ hS hj=>hup j u w' w'' h2 (hS hj)
   ·have hb:=all_before (hnd i (by omega) hio) ho hall hI.closed
    have hiL:i=L:=by
     rcases Nat.lt_or_ge L i with h|h
     ·have:=hb L h
      rw [hL' L (Nat.le_refl _)] at this;cases this
     ·omega
    subst hiL
    have h:=hfin listed a w' hI hL' hb
    rw [show ops.size-i=(ops.size-(i+1))+1 by omega] at h
    refine wpOp_mono (fun a' w'' h=>.inr ⟨i+1,by omega,by omega,by simpa using hI.lsize,hset i hI.lsize (fun j hj=> ?_) rfl,h⟩) h
    by_cases hji:j<i
    ·rw [hb j hji];simp [hji]
    ·rw [hL' j (by omega)];simp [hji]
  ·have him:i=m:=by
    have h1:=hlst i hio
    rw [hun'] at h1
    have h2:¬i<m:=by simpa using h1.symm
    rcases Nat.lt_or_ge m i with h|h
    ·have:=all_before (hnd i (by omega) hio) ho hall (fun j o ho' hj e he hb=>by
      have hjs:j<ops.size:=(Array.getElem?_eq_some_iff.1 ho').1
      have h3:=List.all_eq_true.1 hbk j (by simpa using hjs)
      rw [ho'] at h3
      have h4:=Array.all_eq_true'.1 (show (o.after.all fun e=> !Region.binds .any e||decide (e.on<j))=true from h3) e he
      rw [hb] at h4
      have h5:e.on<j:=by simpa using h4
      have h6:=hlst j hjs
      rw [hj] at h6
      have h7:j<m:=by simpa using h6.symm
      rw [hlst e.on (by omega)];simp;omega) m h
     rw [hlst m (by omega)] at this
     simp at this
    ·omega
   subst him
   have h:=htl'
   rw [show ops.size-i=(ops.size-(i+1))+1 by omega] at h
   exact wpOp_mono (fun a' w'' h=>.inr ⟨i+1,by omega,by omega,by simpa using hls,hset i hls hlst rfl,h⟩) h
 ·rintro listed a w' hI hr
  have hback:∀j o,ops[j]? =some o→∀e ∈ o.after,Region.binds .any e=true→e.on<j:=fun j o ho e he hb=>by
   have h1:=List.all_eq_true.1 hbk j (by simpa using (Array.getElem?_eq_some_iff.1 ho).1)
   rw [ho] at h1
   have h2:=Array.all_eq_true'.1 (show (o.after.all fun e=> !Region.binds .any e||decide (e.on<j))=true from h1) e he
   rw [hb] at h2
   simpa using h2
  rcases hI with ⟨hI,hL'⟩|⟨m,hm1,hm2,hls,hlst,htl'⟩
  ·have hup:∀j,j<ops.size→listed.getD j false=true:=fun j hj=>by
    have:=all_up hI.lsize hback hr j hj
    have hs:j<listed.size:=by rw [hI.lsize];exact hj
    simpa [hs] using this
   have hLs:L=ops.size:=by
    rcases Nat.lt_or_ge L ops.size with h|h
    ·have:=hup L h
     rw [hL' L (Nat.le_refl _)] at this;cases this
    ·omega
   have h:=hfin listed a w' hI hL' (fun j hj=>hup j (by omega))
   rw [hLs,Nat.sub_self] at h
   exact h
  ·have hms:m=ops.size:=by
    rcases Nat.lt_or_ge m ops.size with h|h
    ·have:=all_up hls hback hr m h
     have hs:m<listed.size:=by rw [hls];exact h
     have h2:=hlst m h
     simp [hs] at this h2
     rw [this] at h2;cases h2
    ·omega
   rw [hms,Nat.sub_self] at htl'
   exact htl'
theorem tail_step {n i:Nat} {o:Oper} {a:Act} {w:World} (ho:ops[i]? =some o) (hg:o.guard=none) (h:Oper.wp P o a w (fun a' w' =>wpTail P ops Q n (i+1) a' w') Q):wpTail P ops Q (n+1) i a w:=pStp ho hg h
end
end Go.Proofs.YtabfjecegpaoaaaGreatDoor
namespace Go.Proofs.YtabfjecegpaoaaaGreatDoor
open Go.RowKit Go.Shelf
open Dgt
theorem encS_ne {n:Nat} (h:n≠0):encS n≠⟨#[]⟩:=fun e=>h (by
 have:=congrArg numS e;rw [numS_encS] at this;exact this)
theorem enc_some {n:Nat} (h:n≠0):(encS n).toList.isEmpty=false:=by
 have h1:=encS_ne h;rw [ByteArray.toList_eq];cases hl:(encS n).data.toList with
 | nil=>exact absurd (by
   have:(encS n).data=#[]:=Array.toList_eq_nil_iff.1 hl;cases he:encS n with
   | mk d=>rw [he] at this;simp at this;rw [this]) h1
 | cons _ _=>rfl
theorem row_set {W:World} {b:Nat} {x0 x1 x2:Value} {t:TypeId} (h:W.heap[b]? =some (.cells #[x0,x1,x2] t (0,0))) (u0 u1 u2:Value) :
  (((W.setCell ⟨b,0,none⟩ u0).setCell ⟨b,1,none⟩ u1).setCell ⟨b,2,none⟩ u2).heap[b]? =some (.cells #[u0,u1,u2] t (0,0)):=by
 simp [World.setCell,Array.getElem?_modify,h]
theorem rwC {W:World} {b:Nat} {x0 x1 x2:Value} {t:TypeId} (h:W.heap[b]? =some (.cells #[x0,x1,x2] t (0,0))) :
  (W.cell? ⟨b,0,none⟩=some x0∧W.cell? ⟨b,1,none⟩=some x1∧W.cell? ⟨b,2,none⟩=some x2)∧∀j,W.frozen? ⟨b,j,none⟩=false:=by
 refine ⟨⟨?_,?_,?_⟩,fun j=>Lib.frozen_of_heap h _⟩<;>(rw [Lib.cell_of_heap h];rfl)
theorem rC1 {fn:Func} {p:Tmp} {tmps:Array Value} {w:World} {g:Nat} {x y z:Value} {fr:Nat × Nat} (hg:w.heap[g]? =some (.cells #[x,y,z] 26 fr)) (h:fn.results=#[.cell p 26]:=by exact rfl) (hp:tmps.getD p undef=.pointer (some ⟨g,0,none⟩):=by exact rfl):(results fn tmps).run Tryz.prog w=.ok (.agg #[x,y,z]) w:=results_cell_row h _ _ g 26 _ fr _ hp hg Tryz.underlying26 rfl (by kernel_rfl)
theorem enc_empty (m:Nat):(encS m).toList.isEmpty=decide (m=0):=by
 by_cases h:m=0
 ·subst h;rw [encS_zero,ByteArray.toList_eq];rfl
 ·rw [enc_some h];simp [h]
theorem below_row {A W:World} {b:Nat} (h:Below A.heap.size A W) (hb:A.heap.size≤b) (u0 u1 u2:Value):Below A.heap.size A (((W.setCell ⟨b,0,none⟩ u0).setCell ⟨b,1,none⟩ u1).setCell ⟨b,2,none⟩ u2) :=
 ((h.setCell (p:=⟨b,0,none⟩) hb u0).setCell (p:=⟨b,1,none⟩) hb u1).setCell (p:=⟨b,2,none⟩) hb u2
theorem positive_any (n:ByteArray) (w:World) (hn:n.size≤100000000) :
  Gv 95 #[.agg #[.string ⟨#[]⟩],.string n] w (.bool (rightN n&&decide (0<numS n))):=by
 unfold Gv;have HR:=hD (Right_any n · hn);have HC:=hD (Cmp_any n ⟨#[]⟩ · hn (by decide));go_enter Tryz.func95,Tryz.ntmps95;go_wp2_with fail;refine (HR.out _).mono ?_;rintro e w1 ⟨rfl,rfl⟩;have c0:(w.alloc (.cells #[.string ⟨#[]⟩] 94)).cell? ⟨w.heap.size,0,none⟩=some (.string ⟨#[]⟩):=(box_cell (heap_alloc_new w _)).1
 by_cases hr:rightN n=true
 ·rw [hr];go_wp2_with fail;refine (HC.out _).mono ?_;rintro e w2 ⟨rfl,hb⟩;have HB:=hD (((Below.refl w.heap.size w).alloc (Nat.le_refl _) (.cells #[.string ⟨#[]⟩] 94)).trans (hb.mono (by simp)));have he:numS (⟨#[]⟩:ByteArray)=0:=by rfl
  rw [he]
  by_cases h0:numS n=0
  ·rw [h0,cmpI_eq];clear hb;go_wp2_with fail;go_ret;exact ⟨by simp [hr,h0],HB.out⟩
  ·rw [cmpI_gt (by omega:0<numS n)];have HP:Hid (0<numS n):=hD (by omega);clear hb h0;go_wp2_with fail;go_ret;exact ⟨by simp [HP.out,hr],HB.out⟩
 ·have hf:rightN n=false:=by simpa using hr
  rw [hf];clear hr;go_wp2_with fail;go_ret;exact ⟨by simp [hf],(Below.refl w.heap.size w).alloc (Nat.le_refl _) _⟩
set_option maxRecDepth 100000 in
theorem lowest_n (neg:Bool) (num den:ByteArray) (n d:Nat) (w:World) (hn:numS num=n) (hd:numS den=d) (d0:0<d) (sn:num.size≤10000000) (sd:den.size≤10000000) :
  Gv 97 #[.bool neg,.string num,.string den] w (rtV (low neg n d)):=by
 unfold Gv;obtain ⟨g,hg⟩:∃g,Nat.gcd n d=g:=⟨_,rfl⟩;have hgd:g≤d:=by rw [←hg];exact Nat.gcd_le_right _ d0
 have sg:(encS g).size≤100000000:=Nat.le_trans (encS_size_lt ((Sz.num den).le (by omega))) (by omega);have HG:=hD (fun w=>Gcd_n hn hd (by omega) (by omega) w);rw [hg] at HG;have HQ:=hD (fun w=>Quo_n hn (numS_encS g) (by omega) sg w);have HQ2:=hD (fun w=>Quo_n hd (numS_encS g) (by omega) sg w);have HL:Hid (low neg n d=⟨neg&&decide (0<n/g),n/g,d/g⟩):=hD (by unfold low;rw [hg]);obtain ⟨q,hq⟩:∃q,n/g=q:=⟨_,rfl⟩;rw [hq] at HQ HL;rw [HL.out];clear hg hgd sg hn hd d0 sn sd hq;go_enter Tryz.func97,Tryz.ntmps97;go_wp2_with fail;refine (HG.out _).mono ?_;rintro e w1 ⟨rfl,hb1⟩;go_wp2_with fail;refine (HQ.out _).mono ?_;rintro e w2 ⟨rfl,hb2⟩;go_wp2_with fail;refine (HQ2.out _).mono ?_;rintro e w3 ⟨rfl,hb3⟩;have hr:=hpU hb3 (hpU hb2 (hpU hb1 (heap_alloc_new w (.cells #[.bool false,.string ⟨#[]⟩,.string ⟨#[]⟩] 26))));obtain ⟨⟨c0,c1,c2⟩,hf⟩:=rwC hr;have hf0:=hf 0;have hf1:=hf 1;have hf2:=hf 2
 have HROW:=hD hr;have HB:=hD ((((Below.refl w.heap.size w).alloc (Nat.le_refl _) (.cells #[.bool false,.string ⟨#[]⟩,.string ⟨#[]⟩] 26)).trans (hb1.mono (by simp))).trans ((hb2.trans (hb3.mono hb2.size)).mono (by have:=hb1.size;simp at this;omega)));clear hr hf hb1 hb2 hb3;cases neg
 all_goals
  go_wp2_with fail;refine bodyPost_ret (results_cell_row rfl _ _ w.heap.size 26 _ (0,0) _ rfl (row_set HROW.out _ _ _) Tryz.underlying26 rfl (by kernel_rfl)) rfl ?_;refine ⟨?_,below_row HB.out (Nat.le_refl _) _ _ _⟩;simp [rtV,enc_empty,Nat.pos_iff_ne_zero]
theorem bytes_ext {a b:ByteArray}:a.toList=b.toList↔a=b:=by
 rw [ByteArray.toList_eq,ByteArray.toList_eq]
 constructor
 ·intro h;cases a;cases b;simp at h;rw [h]
 ·intro h;rw [h]
theorem eql3 {x y z:Prop} [Decidable x] [Decidable y] [Decidable z] (w:World) :
  (if x then if y then if z then Result.ok (Next.value (Value.bool true)) w else Result.ok (Next.value (Value.bool false)) w else Result.ok (Next.value (Value.bool false)) w else Result.ok (Next.value (Value.bool false)) w)=Result.ok (Next.value (Value.bool (decide x&&(decide y&&decide z)))) w:=by
 by_cases hx:x<;>by_cases hy:y<;>by_cases hz:z<;>simp [hx,hy,hz]
def sameR (neg:Bool) (n d:ByteArray):Bool:=((low neg (numS n) (numS d)).neg==neg)&&(decide (encS (low neg (numS n) (numS d)).num=n)&&decide (encS (low neg (numS n) (numS d)).den=d))
theorem right_same (neg:Bool) (n d:ByteArray):((rightN d&&decide (0<numS d))&&rightN n&&sameR neg n d)=rightR neg n d:=by
 by_cases h1:rightN d=true
 ·by_cases h2:rightN n=true
  ·by_cases h3:0<numS d
   ·have hd:=rightN_eq h1;have hn:=rightN_eq h2;unfold rightR sameR;rw [h1,h2];simp only [Bool.true_and,Bool.and_true,decide_eq_true h3];obtain ⟨a,ha⟩:∃a,numS n=a:=⟨_,rfl⟩;obtain ⟨b,hb⟩:∃b,numS d=b:=⟨_,rfl⟩;rw [ha] at hn ⊢;rw [hb] at hd h3 ⊢;have e1:(encS (a/Nat.gcd a b)=n)↔(a/Nat.gcd a b=a):=by rw [←hn];exact ⟨encS_inj,fun h=>by rw [h]⟩
    have e2:(encS (b/Nat.gcd a b)=d)↔(b/Nat.gcd a b=b):=by rw [←hd];exact ⟨encS_inj,fun h=>by rw [h]⟩
    have e3:b/Nat.gcd a b=b↔Nat.gcd a b=1:=by
     have hg:0<Nat.gcd a b:=Nat.gcd_pos_of_pos_right a h3
     constructor
     ·intro h;rcases Nat.lt_or_ge 1 (Nat.gcd a b) with h4|h4
      ·have:=Nat.div_lt_self h3 h4;omega
      ·omega
     ·intro h;rw [h,Nat.div_one]
    simp only [low,e1,e2,e3]
    by_cases hg:Nat.gcd a b=1
    ·simp only [hg,Nat.div_one,decide_true,Bool.and_true,Bool.true_and];cases neg<;>simp
    ·simp [hg]
   ·unfold rightR;simp [h3]
  ·unfold rightR;simp [h2]
 ·unfold rightR;simp [h1]
def ERR (bx:Nat) (neg:Bool) (n d:ByteArray) (B1 R B2 B3 B4:Bool) (L:Rt):Nat→Value
 | 0=>.func (.func 95) #[.agg #[.string ⟨#[]⟩]] #[]
 | 1=>.pointer (some ⟨bx,2,none⟩)
 | 2=>.string d
 | 3=>.bool B1
 | 4=>.bool B1
 | 5=>(bif B1 then .pointer (some ⟨bx,1,none⟩) else undef)
 | 6=>(bif B1 then .string n else undef)
 | 7=>(bif B1 then .bool R else undef)
 | 8=>.bool B2
 | 9=>.bool B2
 | 10=>(bif B2 then .pointer (some ⟨bx,0,none⟩) else undef)
 | 11=>(bif B2 then .bool neg else undef)
 | 12=>(bif B2 then .pointer (some ⟨bx,1,none⟩) else undef)
 | 13=>(bif B2 then .string n else undef)
 | 14=>(bif B2 then .pointer (some ⟨bx,2,none⟩) else undef)
 | 15=>(bif B2 then .string d else undef)
 | 16=>(bif B2 then rtV L else undef)
 | 17=>(bif B2 then ratV neg n d else undef)
 | 18=>(bif B2 then .bool B3 else undef)
 | 19=>.bool B4
 | 20=>.bool B4
 | _=>undef
set_option maxRecDepth 100000 in
theorem RatRight_any (neg:Bool) (n d:ByteArray) (w:World) (sn:n.size≤10000000) (sd:d.size≤10000000) :
  Gv 58 #[ratV neg n d] w (.bool (rightR neg n d)):=by
 unfold Gv;obtain ⟨L,hL⟩:∃L,low neg (numS n) (numS d)=L:=⟨_,rfl⟩;obtain ⟨B1,hB1⟩:∃b,(rightN d&&decide (0<numS d))=b:=⟨_,rfl⟩;obtain ⟨R,hR⟩:∃b,rightN n=b:=⟨_,rfl⟩;obtain ⟨B2,hB2⟩:∃b,b=(B1&&R):=⟨_,rfl⟩;obtain ⟨B3,hB3⟩:∃b,sameR neg n d=b:=⟨_,rfl⟩;obtain ⟨B4,hB4⟩:∃b,b=(B2&&B3):=⟨_,rfl⟩;have HPOS:=hD (fun w=>positive_any d w (by omega));have HRN:=hD (fun w=>Right_any n w (by omega));simp only [hB1] at HPOS;simp only [hR] at HRN;have HLOW:Hid (B2=true→∀w,Gv 97 #[.bool neg,.string n,.string d] w (rtV L)):=hD fun h w=>by
  rw [←hL];refine lowest_n neg n d _ _ w rfl rfl ?_ sn sd;rw [hB2, ←hB1] at h;simp only [Bool.and_eq_true,decide_eq_true_eq] at h;exact h.1.2
 have HEND:Hid (B4=rightR neg n d):=hD (by rw [hB4,hB2, ←hB1, ←hR, ←hB3];exact right_same neg n d);have HEQ:Hid ((decide (L.neg=neg)&&(decide ((encS L.num).toList=n.toList)&&decide ((encS L.den).toList=d.toList)))=B3):=hD (by
  rw [←hB3, ←hL];unfold sameR;simp only [bytes_ext,Bool.beq_eq_decide_eq])
 have HB2:=hD hB2;have HB4:=hD hB4;rw [←HEND.out];clear hL hB1 hR hB2 hB3 hB4 sn sd;unfold ratV;go_enter Tryz.func58,Tryz.ntmps58;go_wp2_with fail;obtain ⟨w0,hw0⟩:∃w0,w.alloc (.cells #[.bool neg,.string n,.string d] 26)=w0:=⟨_,rfl⟩;obtain ⟨bx,hbx⟩:∃b,w.heap.size=b:=⟨_,rfl⟩;have HB0:Hid (Below w.heap.size w w0):=hD (by rw [←hw0];exact (Below.refl _ w).alloc (Nat.le_refl _) _);have HX0:Hid (w0.heap[bx]? =some (.cells #[.bool neg,.string n,.string d] 26 (0,0))):=hD (by rw [←hw0, ←hbx];exact heap_alloc_new w _);have HCX:Hid (∀W',Below w0.heap.size w0 W' →W'.cell? ⟨bx,0,none⟩=some (.bool neg)∧W'.cell? ⟨bx,1,none⟩=some (.string n)∧W'.cell? ⟨bx,2,none⟩=some (.string d)):=hD fun W' h=>(rwC (hpU h HX0.out)).1
 rw [hw0,hbx];clear hw0 hbx;refine wpVl (w:=w0) (by kernel_rfl) (fun ix v _=>v=ERR bx neg n d B1 R B2 B3 B4 L ix) (fun t=>(decide (2≤t)&&decide (t<3))||(decide (6≤t)&&decide (t<26))) (by kernel_rfl) (by kernel_rfl) (by kernel_rfl) (fun _ _ _ _ _ h=>h) ?_ ?_
 ·intro i hi o listed a w hR K hK;have ho:=hR.at_;have hi:i<21:=hi;have hii:i=0∨i=1∨i=2∨i=3∨i=4∨i=5∨i=6∨i=7∨i=8∨i=9∨i=10∨i=11∨i=12∨i=13∨i=14∨i=15∨i=16∨i=17∨i=18∨i=19∨i=20:=by omega
  rcases hii with rfl|rfl|rfl|rfl|rfl|rfl|rfl|rfl|rfl|rfl|rfl|rfl|rfl|rfl|rfl|rfl|rfl|rfl|rfl|rfl|rfl
  ·simp at ho;subst ho;have b3:a.tmps.getD 3 undef=.func (.func 95) #[.agg #[.string ⟨#[]⟩]] #[]:=hR.b 3;refine pSq ?_;go_simp;exact hK _ _ rfl rB
  ·simp at ho;subst ho;have b1:a.tmps.getD 1 undef=.pointer (some ⟨bx,0,none⟩):=hR.b 1;refine pSq ?_;go_simp;exact hK _ _ rfl rB
  ·simp at ho;subst ho;have e1:a.tmps.getD 7 undef=.pointer (some ⟨bx,2,none⟩):=hR.d 1;obtain ⟨cx0,cx1,cx2⟩:=HCX.out w hR.below;refine pSq ?_;go_simp;exact hK _ _ rfl rB
  ·simp at ho;subst ho;have e0:a.tmps.getD 6 undef=.func (.func 95) #[.agg #[.string ⟨#[]⟩]] #[]:=hR.d 0;have e2:a.tmps.getD 8 undef=.string d:=hR.d 2;refine pSq ?_;go_simp;refine (HPOS.out w).mono ?_;rintro e w' ⟨rfl,hb⟩;exact hK _ _ (rfl) hb
  ·simp at ho;subst ho;have e3:a.tmps.getD 9 undef=.bool B1:=hR.d 3;refine pSq ?_;go_simp;exact hK _ _ rfl rB
  ·simp at ho;subst ho;have e4:a.tmps.getD 10 undef=.bool B1:=hR.g 4;have b1:a.tmps.getD 1 undef=.pointer (some ⟨bx,0,none⟩):=hR.b 1;cases B1
   ·refine gSkp rfl rfl rfl (b:=true) e4 (by decide) ?_;exact hK _ _ rfl rB
   ·refine gSq (b:=true) e4 ?_;go_simp;exact hK _ _ rfl rB
  ·simp at ho;subst ho;have e5:a.tmps.getD 11 undef=(bif B1 then .pointer (some ⟨bx,1,none⟩) else undef):=hR.d 5;have e4:a.tmps.getD 10 undef=.bool B1:=hR.g 4;obtain ⟨cx0,cx1,cx2⟩:=HCX.out w hR.below;cases B1
   ·refine gSkp rfl rfl rfl (b:=true) e4 (by decide) ?_;exact hK _ _ rfl rB
   ·refine gSq (b:=true) e4 ?_;go_simp;exact hK _ _ rfl rB
  ·simp at ho;subst ho;have e6:a.tmps.getD 12 undef=(bif B1 then .string n else undef):=hR.d 6;have e4:a.tmps.getD 10 undef=.bool B1:=hR.g 4;cases B1
   ·refine gSkp rfl rfl rfl (b:=true) e4 (by decide) ?_;exact hK _ _ rfl rB
   ·refine gSq (b:=true) e4 ?_;go_simp;refine (HRN.out w).mono ?_;rintro e w' ⟨rfl,rfl⟩;exact hK _ _ rfl rB
  ·simp at ho;subst ho;have e4:a.tmps.getD 10 undef=.bool B1:=hR.d 4;have e7:a.tmps.getD 13 undef=(bif B1 then .bool R else undef):=hR.d 7;cases B1
   ·refine pSq ?_;go_simp;exact hK _ _ (by show Value.bool _=Value.bool B2;rw [HB2.out];rfl) rB
   ·refine pSq ?_;go_simp;exact hK _ _ (by show Value.bool _=Value.bool B2;rw [HB2.out];rfl) rB
  ·simp at ho;subst ho;have e8:a.tmps.getD 14 undef=.bool B2:=hR.d 8;refine pSq ?_;go_simp;exact hK _ _ rfl rB
  ·simp at ho;subst ho;have e9:a.tmps.getD 15 undef=.bool B2:=hR.g 9;have b1:a.tmps.getD 1 undef=.pointer (some ⟨bx,0,none⟩):=hR.b 1;cases B2
   ·refine gSkp rfl rfl rfl (b:=true) e9 (by decide) ?_;exact hK _ _ rfl rB
   ·refine gSq (b:=true) e9 ?_;go_simp;exact hK _ _ rfl rB
  ·simp at ho;subst ho;have e10:a.tmps.getD 16 undef=(bif B2 then .pointer (some ⟨bx,0,none⟩) else undef):=hR.d 10;have e9:a.tmps.getD 15 undef=.bool B2:=hR.g 9;obtain ⟨cx0,cx1,cx2⟩:=HCX.out w hR.below;cases B2
   ·refine gSkp rfl rfl rfl (b:=true) e9 (by decide) ?_;exact hK _ _ rfl rB
   ·refine gSq (b:=true) e9 ?_;go_simp;exact hK _ _ rfl rB
  ·simp at ho;subst ho;have e9:a.tmps.getD 15 undef=.bool B2:=hR.g 9;have b1:a.tmps.getD 1 undef=.pointer (some ⟨bx,0,none⟩):=hR.b 1;cases B2
   ·refine gSkp rfl rfl rfl (b:=true) e9 (by decide) ?_;exact hK _ _ rfl rB
   ·refine gSq (b:=true) e9 ?_;go_simp;exact hK _ _ rfl rB
  ·simp at ho;subst ho;have e12:a.tmps.getD 18 undef=(bif B2 then .pointer (some ⟨bx,1,none⟩) else undef):=hR.d 12;have e9:a.tmps.getD 15 undef=.bool B2:=hR.g 9;obtain ⟨cx0,cx1,cx2⟩:=HCX.out w hR.below;cases B2
   ·refine gSkp rfl rfl rfl (b:=true) e9 (by decide) ?_;exact hK _ _ rfl rB
   ·refine gSq (b:=true) e9 ?_;go_simp;exact hK _ _ rfl rB
  ·simp at ho;subst ho;have e9:a.tmps.getD 15 undef=.bool B2:=hR.g 9;have b1:a.tmps.getD 1 undef=.pointer (some ⟨bx,0,none⟩):=hR.b 1;cases B2
   ·refine gSkp rfl rfl rfl (b:=true) e9 (by decide) ?_;exact hK _ _ rfl rB
   ·refine gSq (b:=true) e9 ?_;go_simp;exact hK _ _ rfl rB
  ·simp at ho;subst ho;have e14:a.tmps.getD 20 undef=(bif B2 then .pointer (some ⟨bx,2,none⟩) else undef):=hR.d 14;have e9:a.tmps.getD 15 undef=.bool B2:=hR.g 9;obtain ⟨cx0,cx1,cx2⟩:=HCX.out w hR.below;cases B2
   ·refine gSkp rfl rfl rfl (b:=true) e9 (by decide) ?_;exact hK _ _ rfl rB
   ·refine gSq (b:=true) e9 ?_;go_simp;exact hK _ _ rfl rB
  ·simp at ho;subst ho;have e11:a.tmps.getD 17 undef=(bif B2 then .bool neg else undef):=hR.d 11;have e13:a.tmps.getD 19 undef=(bif B2 then .string n else undef):=hR.d 13;have e15:a.tmps.getD 21 undef=(bif B2 then .string d else undef):=hR.d 15;have e9:a.tmps.getD 15 undef=.bool B2:=hR.g 9;cases B2
   ·refine gSkp rfl rfl rfl (b:=true) e9 (by decide) ?_;exact hK _ _ rfl rB
   ·refine gSq (b:=true) e9 ?_;go_simp;refine (HLOW.out rfl w).mono ?_;rintro e w' ⟨rfl,hb⟩;exact hK _ _ (rfl) hb
  ·simp at ho;subst ho;have e9:a.tmps.getD 15 undef=.bool B2:=hR.g 9;have b1:a.tmps.getD 1 undef=.pointer (some ⟨bx,0,none⟩):=hR.b 1;obtain ⟨cx0,cx1,cx2⟩:=HCX.out w hR.below;cases B2
   ·refine gSkp rfl rfl rfl (b:=true) e9 (by decide) ?_;exact hK _ _ rfl rB
   ·refine gSq (b:=true) e9 ?_;go_simp;exact hK _ _ rfl rB
  ·simp at ho;subst ho;have e16:a.tmps.getD 22 undef=(bif B2 then rtV L else undef):=hR.d 16;have e17:a.tmps.getD 23 undef=(bif B2 then ratV neg n d else undef):=hR.d 17;have e9:a.tmps.getD 15 undef=.bool B2:=hR.g 9;have hq:=HEQ.out;simp only [rtV,ratV] at e16 e17;cases B2
   ·refine gSkp rfl rfl rfl (b:=true) e9 (by decide) ?_;exact hK _ _ rfl rB
   ·refine gSq (b:=true) e9 ?_;go_simp;rw [eql3,hq];go_simp;exact hK _ _ rfl rB
  ·simp at ho;subst ho;have e9:a.tmps.getD 15 undef=.bool B2:=hR.d 9;have e18:a.tmps.getD 24 undef=(bif B2 then .bool B3 else undef):=hR.d 18;cases B2
   ·refine pSq ?_;go_simp;exact hK _ _ (by show Value.bool _=Value.bool B4;rw [HB4.out];rfl) rB
   ·refine pSq ?_;go_simp;exact hK _ _ (by show Value.bool _=Value.bool B4;rw [HB4.out];rfl) rB
  ·simp at ho;subst ho;have e19:a.tmps.getD 25 undef=.bool B4:=hR.d 19;refine pSq ?_;go_simp;exact hK _ _ rfl rB
 ·intro s w hS hb;have e20:s 2=.bool B4:=hS 20 (by decide);simp only [over,ovL,Nat.reduceAdd,Nat.reduceLeDiff,Nat.reduceLT];have HBX:=hD (HB0.out.trans (hb.mono HB0.out.size));rw [e20];clear hS hb e20;go_wp2_with fail;go_ret;exact ⟨rfl,HBX.out⟩
end Go.Proofs.YtabfjecegpaoaaaGreatDoor
