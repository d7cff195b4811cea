/- Contracts that the proofs of this seat share. Each theorem names its conditions. -/
import Derived.Maps.Own
import Derived.Maps.OwnOps
import Derived.Maps.OwnSet
import Derived.Maps.Views
import Derived.Shelf.SlIterI.Nil
import Derived.WalkKit
import Derived.Shelf.SortM.Plain
import Derived.Shelf.SortM.SortNone
import Derived.Ground.GgzProg
import Derived.Ground.SlgmProg
import Derived.Test.YtblgfmjlajhipaaGreatDoorZa6
import Derived.Test.YtblgfmjlajhipaaGreatDoorZb4
import Derived.Test.YtblgfmjlajhipaaGreatDoorZa7
set_option maxHeartbeats 16000000
set_option linter.unusedVariables false
namespace Go.Proofs.YtblgfmjlajhipaaGreatDoor
open Go.RowKit Go.Shelf
open Dgt
structure Dk where
 day:Int
 rt:Rw
def goodD (d:Dk):Bool:=decide (0≤d.day)&&decide (d.day≤3652058)&&fitsR d.rt
def drs (l:List Dk):List DR:=(l.filter goodD).map fun d=>(d.day,d.rt.val)
def rawD (e:DR):Dk:=⟨e.1,rawR e.2⟩
structure Gr (g:List DR):Prop where
 day:∀e ∈ g,0≤e.1∧e.1≤3652058
 ok:∀e ∈ g,e.2.Ok
 fit:∀e ∈ g,fitT e.2=true
theorem drs_gr (l:List Dk):Gr (drs l):=by
 have key:∀e ∈ drs l,∃d:Dk,goodD d=true∧e=(d.day,d.rt.val):=fun e he=>by
  unfold drs at he;obtain ⟨d,hd,rfl⟩:=List.mem_map.1 he;exact ⟨d,(List.mem_filter.1 hd).2,rfl⟩
 refine ⟨?_,?_,?_⟩<;>intro e he<;>obtain ⟨d,hd,rfl⟩:=key e he<;>unfold goodD at hd<;>simp only [Bool.and_eq_true,decide_eq_true_eq] at hd
 ·exact hd.1
 ·exact Rw.val_ok _
 ·exact fits_val hd.2
theorem Gr.pos {g:List DR} (h:Gr g):∀e ∈ g,0≤e.1:=fun e he=>(h.day e he).1
theorem rateOf_mem (d:Int):∀{g:List DR},rateOf g d=zeroR∨∃e ∈ g,e.1=d∧rateOf g d=e.2:=fun {g}=>by
 refine snoc_ind (P:=fun g=>rateOf g d=zeroR∨∃e ∈ g,e.1=d∧rateOf g d=e.2) (.inl rfl) ?_ g;intro l x ih;rw [rateOf_snoc]
 split
 ·rename_i h;exact .inr ⟨x,by simp,h,rfl⟩
 ·rcases ih with ih|⟨e,he,h1,h2⟩
  ·exact .inl ih
  ·exact .inr ⟨e,by simp [he],h1,h2⟩
theorem fit_zero:fitT zeroR=true:=by
 unfold fitT;rw [decide_eq_true (Nat.le_trans (bits_lt (k:=1) (show zeroR.num<2^1 by decide)) (by decide)),decide_eq_true (Nat.le_trans (bits_lt (k:=1) (show zeroR.den<2^1 by decide)) (by decide))];rfl
theorem rateOf_ok {g:List DR} (h:Gr g) (d:Int):(rateOf g d).Ok∧fitT (rateOf g d)=true:=by
 rcases rateOf_mem d (g:=g) with e|⟨e,he,-,e2⟩
 ·rw [e];exact ⟨zeroR_ok,fit_zero⟩
 ·rw [e2];exact ⟨h.ok e he,h.fit e he⟩
theorem norm_gr {g:List DR} (h:Gr g):Gr (normG g):=by
 have key:∀e ∈ normG g,e.1 ∈ daysOf g∧e.2=rateOf g e.1:=fun e he=>mem_normL he
 refine ⟨fun e he=> ?_,fun e he=> ?_,fun e he=> ?_⟩
 ·obtain ⟨x,hx,hx2⟩:=mem_days.1 (key e he).1;rw [←hx2];exact h.day x hx
 ·rw [(key e he).2];exact (rateOf_ok h _).1
 ·rw [(key e he).2];exact (rateOf_ok h _).2
theorem norm_le {g:List DR}:∀{ds:List Int} {last:Rt},(normL g ds last).length≤ds.length
 | [],_=>Nat.le_refl _
 | d::t,last=>by
  unfold normL;split
  ·have:=norm_le (g:=g) (ds:=t) (last:=last);simp;omega
  ·have:=norm_le (g:=g) (ds:=t) (last:=rateOf g d);simp;omega
theorem insD_le (d:Int):∀(l:List Int),(insD d l).length≤l.length+1
 | []=>Nat.le_refl _
 | x::t=>by
  unfold insD;split
  ·simp
  ·split
   ·simp
   ·have:=insD_le d t;simp;omega
theorem days_le (g:List DR):(daysOf g).length≤g.length:=by
 have:∀(g:List DR) (s:List Int),(g.foldl (fun s e=>insD e.1 s) s).length≤s.length+g.length:=by
  intro g
  induction g with
  | nil=>intro s;simp
  | cons e t ih=>intro s;have:=ih (insD e.1 s);have:=insD_le e.1 s;simp;omega
 have:=this g [];unfold daysOf;simpa using this
theorem drs_le (l:List Dk):(drs l).length≤l.length:=by unfold drs;rw [List.length_map];exact List.length_filter_le _ _
theorem normG_le (l:List Dk):(normG (drs l)).length≤l.length:=Nat.le_trans norm_le (Nat.le_trans (days_le _) (drs_le l))
def onT (g:List DR) (day:Int):Rt:=if 3652058<day then ofR 0 else (onF g day).2
theorem on_last {n:List DR} {day:Int}:∀{last:Rt} {d:Int},Chg n last d→∀{i:Nat},i≤n.length→(∀k (h:k<n.length),k<i→n[k].1≤day)→(∀k (h:k<n.length),i≤k→day<n[k].1)→onL n last day=if h:0<i∧i≤n.length then (n[i-1]'(by omega)).2 else last:=by
 induction n with
 | nil=>intro last d _ i hi _ _;simp at hi;subst hi;rfl
 | cons e t ih =>
  intro last d hc i hi h1 h2;cases hc with
  | cons a b c =>
   cases i with
   | zero =>
    unfold onL;have:=h2 0 (by simp) (by omega);simp only [List.getElem_cons_zero] at this;rw [if_neg (by omega),dif_neg (by omega)]
   | succ i =>
    have h0:=h1 0 (by simp) (by omega);simp only [List.getElem_cons_zero] at h0;unfold onL;rw [if_pos h0,ih c (i:=i) (by simpa using hi) (fun k h hk=>by have:=h1 (k+1) (by simpa using h) (by omega);simpa using this) (fun k h hk=>by have:=h2 (k+1) (by simpa using h) (by omega);simpa using this)];have hi2:i+1≤t.length+1:=by simpa using hi
    cases i with
    | zero=>rw [dif_neg (by omega),dif_pos ⟨by omega,hi⟩];rfl
    | succ j=>rw [dif_pos ⟨by omega,by omega⟩,dif_pos ⟨by omega,hi⟩];simp
theorem of_zero:ofR 0=zeroR:=rfl
def dayAt (n:List DR) (fr to:Int) (k:Nat):Int:=match n[k]? with|none=>0|some e=>(match n[k+1]? with|none=>to|some e2=>min to e2.1)-max e.1 fr
def rtAt (n:List DR) (k:Nat):Rt:=match n[k]? with|none=>zeroR|some e=>e.2
def pieceK (n:List DR) (fr to:Int):Nat→List DR
 | 0=>[]
 | k+1=>if 0<dayAt n fr to k then pieceK n fr to k++[(dayAt n fr to k,rtAt n k)] else pieceK n fr to k
def sumP (l:List DR):Rt:=l.foldl (fun s p=>addR s (mulR (ofR p.1) p.2)) (ofR 0)
def refK (n:List DR) (fr to:Int):Nat→Rt
 | 0=>ofR 0
 | k+1=>if 0<dayAt n fr to k then addR (refK n fr to k) (mulR (rtAt n k) (ofR (dayAt n fr to k))) else refK n fr to k
theorem pieceK_s (n:List DR) (fr to:Int) (k:Nat):pieceK n fr to (k+1)=if 0<dayAt n fr to k then pieceK n fr to k++[(dayAt n fr to k,rtAt n k)] else pieceK n fr to k:=rfl
theorem refK_s (n:List DR) (fr to:Int) (k:Nat):refK n fr to (k+1)=if 0<dayAt n fr to k then addR (refK n fr to k) (mulR (rtAt n k) (ofR (dayAt n fr to k))) else refK n fr to k:=rfl
def overT (n:List DR) (fr to:Int):Rt:=sumP (pieceK n fr to n.length)
theorem rtAt_ok {n:List DR} (h:Gr n) (k:Nat):(rtAt n k).Ok∧fitT (rtAt n k)=true:=by
 unfold rtAt;split
 ·exact ⟨zeroR_ok,fit_zero⟩
 ·rename_i e he;exact ⟨h.ok e (List.mem_of_getElem? he),h.fit e (List.mem_of_getElem? he)⟩
theorem sumP_snoc (l:List DR) (x:DR):sumP (l++[x])=addR (sumP l) (mulR (ofR x.1) x.2):=by unfold sumP;rw [List.foldl_append];rfl
def termQ (n:List DR) (fr to:Int) (k:Nat):Rat:=if 0<dayAt n fr to k then (rtAt n k).q*((dayAt n fr to k:Int):Rat) else 0
section
variable {n:List DR} {fr to:Int}
theorem piece_q (h:Gr n):∀k,(sumP (pieceK n fr to k)).Ok∧(sumP (pieceK n fr to k)).q=sumF (termQ n fr to) k
 | 0=>⟨ofR_ok 0,by rw [sumF_0];show (ofR 0).q=0;rw [q_of];rfl⟩
 | k+1=>by
  obtain ⟨h1,h2⟩:=piece_q h k;rw [sumF_s, ←h2];clear h2;rw [pieceK_s];unfold termQ
  split
  ·rw [sumP_snoc];have hm:=mulR_ok (ofR_ok (dayAt n fr to k)) (rtAt_ok h k).1;refine ⟨addR_ok h1 hm,?_⟩;rw [q_add h1 hm,q_mul (ofR_ok _) (rtAt_ok h k).1,q_of];grind
  ·exact ⟨h1,by grind⟩
theorem sumF_shift (f:Nat→Rat):∀k,sumF f (k+1)=f 0+sumF (fun j=>f (j+1)) k
 | 0=>by rw [sumF_s,sumF_0,sumF_0];grind
 | k+1=>by rw [sumF_s,sumF_shift f k,sumF_s];grind
theorem overF_1 (e:DR):overF [e] fr to=(if max e.1 fr<to then e.2.q*((to-max e.1 fr:Int):Rat) else 0)+0:=rfl
theorem overF_2 (e e2:DR) (u:List DR):overF (e::e2::u) fr to=(if max e.1 fr<min to e2.1 then e.2.q*((min to e2.1-max e.1 fr:Int):Rat) else 0)+overF (e2::u) fr to:=rfl
theorem term_sum:∀(n:List DR),sumF (termQ n fr to) n.length=overF n fr to
 | []=>rfl
 | [e]=>by
  rw [overF_1];show 0+termQ [e] fr to 0=_;rw [show termQ [e] fr to 0=if 0<to-max e.1 fr then e.2.q*((to-max e.1 fr:Int):Rat) else 0 from rfl]
  by_cases hc:max e.1 fr<to
  ·rw [if_pos hc,if_pos (by omega)];grind
  ·rw [if_neg hc,if_neg (by omega)]
 | e::e2::u=>by
  rw [List.length_cons,sumF_shift,show (fun j=>termQ (e::e2::u) fr to (j+1))=termQ (e2::u) fr to from funext fun j=>by unfold termQ dayAt rtAt;simp,term_sum (e2::u),overF_2];rw [show termQ (e::e2::u) fr to 0=if 0<min to e2.1-max e.1 fr then e.2.q*((min to e2.1-max e.1 fr:Int):Rat) else 0 from rfl]
  by_cases hc:max e.1 fr<min to e2.1
  ·rw [if_pos hc,if_pos (Int.sub_pos.2 hc)]
  ·rw [if_neg hc,if_neg (fun h=>hc (Int.sub_pos.1 h))]
theorem over_q (h:Gr n):(overT n fr to).Ok∧(overT n fr to).q=overF n fr to:=⟨(piece_q h _).1,by rw [←term_sum];exact (piece_q h _).2⟩
theorem piece_sz (h:Gr n) (hd:∀k,-9223372036854775808≤dayAt n fr to k∧dayAt n fr to k≤9223372036854775807):∀k,Rz (sumP (pieceK n fr to k)) (8+59*k)∧Rz (refK n fr to k) (8+59*k)
 | 0=>⟨(ofR_sz (n:=0) (by decide) (by decide)).mono (by decide),(ofR_sz (n:=0) (by decide) (by decide)).mono (by decide)⟩
 | k+1=>by
  obtain ⟨h1,h2⟩:=piece_sz h hd k;have hr:=fitT_sz (rtAt_ok h k).2;have ho:=ofR_sz (hd k).1 (hd k).2;rw [pieceK_s,refK_s]
  split
  ·rw [sumP_snoc];exact ⟨(addR_sz h1 (mulR_sz ho hr)).mono (by omega),(addR_sz h2 (mulR_sz hr ho)).mono (by omega)⟩
  ·exact ⟨h1.mono (by omega),h2.mono (by omega)⟩
end
def spanB (fr to:Int):Bool:=decide (0≤fr)&&decide (fr<to)&&decide (to≤3652059)
def overV (l:List Dk) (fr to:Int):Rw × Bool :=
 if spanB fr to=true then (if fitT (overT (normG (drs l)) fr to)=true then (rawR (overT (normG (drs l)) fr to),true) else (zrow,false)) else (zrow,false)
end Go.Proofs.YtblgfmjlajhipaaGreatDoor
namespace Go.Proofs.YtblgfmjlajhipaaGreatDoor
open Go.RowKit Go.Shelf Go.Maps
open Dgt
def selfE (v:Value):Option (DataW Value × List MemPlace):=some (.held v,[])
def mapD (g:List DR):DataW Value:=g.foldl (fun D e=>D.put (.int .i64 e.1) (.held (rtV e.2))) (.map [])
theorem mapD_snoc (g:List DR) (e:DR):mapD (g++[e])=(mapD g).put (.int .i64 e.1) (.held (rtV e.2)):=by unfold mapD;rw [List.foldl_append];rfl
theorem isMap_put {D:DataW Value} (h:IsMap D) (k:Lit) (d:DataW Value):IsMap (D.put k d):=by
 obtain ⟨es,rfl⟩:=h;exact ⟨_,rfl⟩
theorem mapD_isMap (g:List DR):IsMap (mapD g):=by
 refine snoc_ind (P:=fun g=>IsMap (mapD g)) ⟨[],rfl⟩ (fun l x ih=> ?_) g;rw [mapD_snoc];exact isMap_put ih _ _
theorem keyLit (x:Int):WideAt.IsKeyLit (.int .i64 x):=trivial
theorem mapD_tidy (g:List DR):Tidy (mapD g):=by
 refine snoc_ind (P:=fun g=>Tidy (mapD g)) ⟨[],rfl,.nil⟩ (fun l x ih=> ?_) g;rw [mapD_snoc];exact ih.put (keyLit _) _
theorem mapD_has (g:List DR) (x:Int):Maps.has (mapD g) (.int .i64 x)=true↔∃e ∈ g,e.1=x:=by
 refine snoc_ind (P:=fun g=>Maps.has (mapD g) (.int .i64 x)=true↔∃e ∈ g,e.1=x) ?_ (fun l y ih=> ?_) g
 ·unfold mapD;simp [Maps.has]
 ·rw [mapD_snoc]
  by_cases h:x=y.1
  ·subst h;rw [has_put_same (mapD_isMap l) (keyLit _)];simp
  ·rw [has_put_other (by intro e;injection e with _ e;exact h e),ih]
   constructor
   ·rintro ⟨e,he,h2⟩;exact ⟨e,by simp [he],h2⟩
   ·rintro ⟨e,he,h2⟩;rcases List.mem_append.1 he with he|he
    ·exact ⟨e,he,h2⟩
    ·rw [List.mem_singleton.1 he] at h2;exact absurd h2.symm h
theorem mapD_at (g:List DR) (x:Int) (z:DataW Value) (h:x ∈ daysOf g):(mapD g).atKey (.int .i64 x) z=.held (rtV (rateOf g x)):=by
 have h:=mem_days.1 h
 revert h
 refine snoc_ind (P:=fun g=>(∃e ∈ g,e.1=x)→(mapD g).atKey (.int .i64 x) z=.held (rtV (rateOf g x))) ?_ (fun l y ih=> ?_) g
 ·rintro ⟨e,he,-⟩;simp at he
 ·intro h;rw [mapD_snoc,rateOf_snoc]
  by_cases e:y.1=x
  ·rw [if_pos e, ←e,atKey_put_same (mapD_isMap l) (keyLit _)]
  ·rw [if_neg e,atKey_put_other (by intro e2;injection e2 with _ e2;exact e e2.symm)];refine ih ?_;obtain ⟨u,hu,h2⟩:=h;rcases List.mem_append.1 hu with hu|hu
   ·exact ⟨u,hu,h2⟩
   ·rw [List.mem_singleton.1 hu] at h2;exact absurd h2 e
theorem mapD_keys (g:List DR):(daysOf g).Perm (Go.intKeys (mapD g)):=by
 obtain ⟨es,he,hp⟩:=mapD_tidy g;rw [he];have hup:=days_up g;refine Go.perm_intKeys hp ?_ ?_ (fun x=>by rw [←he,mapD_has,mem_days])
 ·have key:∀g:List DR,∀es,mapD g=.map es→∀p ∈ es,∃x,p.1=.int .i64 x:=by
   intro g;refine snoc_ind (P:=fun g=>∀es,mapD g=.map es→∀p ∈ es,∃x,p.1=.int .i64 x) ?_ (fun l y ih=> ?_) g
   ·intro es h p hp;unfold mapD at h;simp at h;subst h;simp at hp
   ·intro es h p hp;obtain ⟨es',h2⟩:=mapD_isMap l;rw [mapD_snoc,h2] at h;have h3:es=DataW.insert (.int .i64 y.1,.held (rtV y.2)) (es'.filter fun p=> !p.1.sameKey (.int .i64 y.1)):=by injection h with h;exact h.symm
    rw [h3,(Go.WideShapes.insert_perm _ _).mem_iff] at hp;rcases List.mem_cons.1 hp with rfl|hp
    ·exact ⟨_,rfl⟩
    ·exact ih es' h2 p (List.mem_filter.1 hp).1
  exact key g es he
 ·have:∀l:List Int,Up l→l.Nodup:=fun l h=>by
   induction h with
   | nil=>exact .nil
   | cons h _ ih=>exact List.nodup_cons.2 ⟨fun hm=>by have:=h _ hm;omega,ih⟩
  exact this _ hup
theorem up_sorted:∀{l:List Int},Up l→l.Pairwise (fun a b=>decide (a≤b)=true)
 | _,.nil=>.nil
 | _,.cons h ht=>List.pairwise_cons.2 ⟨fun y hy=>decide_eq_true (by have:=h y hy;omega),up_sorted ht⟩
theorem sorted_days {g:List DR} {ss:List Int} (h:ss.Perm (Go.intKeys (mapD g))):ss.mergeSort (fun x y=>decide (x≤y))=daysOf g:=by
 have h2:=h.trans (mapD_keys g).symm;have h3:=Go.mergeSort_of_perm_i h2;show ss.mergeSort Go.leI=daysOf g;rw [h3];exact List.mergeSort_of_pairwise (up_sorted (days_up g))
theorem mapD_size (g:List DR):Maps.size (mapD g)≤g.length:=by
 refine snoc_ind (P:=fun g=>Maps.size (mapD g)≤g.length) ?_ (fun l x ih=> ?_) g
 ·unfold mapD;simp [Maps.size]
 ·rw [mapD_snoc,size_put (mapD_tidy l),List.length_append,List.length_singleton]
  split<;>omega
end Go.Proofs.YtblgfmjlajhipaaGreatDoor
namespace Go.Proofs.YtblgfmjlajhipaaGreatDoor
open Go Go.RowKit Go.Shelf
open Dgt
theorem row_else {W:World} {b g k:Nat} {o:Obj} (h:W.heap[g]? =some o) (hne:b≠g) (u:Value):(W.setCell ⟨b,k,none⟩ u).heap[g]? =some o:=by
 simp [World.setCell,Array.getElem?_modify,h,hne]
theorem frz0 {W:World} {b:Nat} {cs:Array Value} {t:TypeId} (h:W.heap[b]? =some (.cells cs t (0,0))) (i:Nat):W.frozen? ⟨b,i,none⟩=false:=by
 simp [World.frozen?,h]
def eqR (a b:Rt):Bool:=(a.neg==b.neg)&&((a.num==b.num)&&(a.den==b.den))
theorem eqR_iff {a b:Rt}:eqR a b=true↔a=b:=by
 unfold eqR;simp only [Bool.and_eq_true,beq_iff_eq];exact ⟨fun h=>Rt.ext' h.1 h.2.1 h.2.2,fun h=>by subst h;exact ⟨rfl,rfl,rfl⟩⟩
theorem eqR_false {a b:Rt}:eqR a b=false↔a≠b:=by
 rw [←Bool.not_eq_true,eqR_iff]
theorem encL_iff {m n:Nat}:(encS m).toList=(encS n).toList↔m=n:=⟨fun h=>encS_inj (bytes_ext.1 h),fun h=>by rw [h]⟩
theorem row_dec (a b:Rt):(decide (a.neg=b.neg)&&(decide ((encS a.num).toList=(encS b.num).toList)&&decide ((encS a.den).toList=(encS b.den).toList)))=eqR a b:=by
 unfold eqR
 congr 1
 congr 1
 ·by_cases h:a.num=b.num
  ·simp [h]
  ·simp [h,encL_iff]
 ·by_cases h:a.den=b.den
  ·simp [h]
  ·simp [h,encL_iff]
theorem eql3' {x y z:Prop} [Decidable x] [Decidable y] [Decidable z] (w:World) (a b:Value) :
  (if x then if y then if z then Result.ok a w else Result.ok b w else Result.ok b w else Result.ok b w)=Result.ok (bif (decide x&&(decide y&&decide z)) then a else b) w:=by
 by_cases hx:x<;>by_cases hy:y<;>by_cases hz:z<;>simp [hx,hy,hz]
theorem run_neqR {d a:Rt} {E:Bool} (h:eqR d a=E) (w:World):(binOp .neq 29 (.agg #[.bool d.neg,.string (encS d.num),.string (encS d.den)]) (.agg #[.bool a.neg,.string (encS a.num),.string (encS a.den)])).run Tryz.prog w=.ok (.bool (!E)) w:=by
 go_simp;rw [eql3',row_dec,h];cases E<;>rfl
theorem run_eqlR {d a:Rt} {E:Bool} (h:eqR d a=E) (w:World):(binOp .eql 29 (.agg #[.bool d.neg,.string (encS d.num),.string (encS d.den)]) (.agg #[.bool a.neg,.string (encS a.num),.string (encS a.den)])).run Tryz.prog w=.ok (.bool E) w:=by
 go_simp;rw [eql3',row_dec,h];cases E<;>rfl
theorem c3 {W:World} {b:Nat} {x0 x1 x2:Value} {t:TypeId} (h:Hid (W.heap[b]? =some (.cells #[x0,x1,x2] t (0,0)))):W.cell? ⟨b,0,none⟩=some x0∧W.cell? ⟨b,1,none⟩=some x1∧W.cell? ⟨b,2,none⟩=some x2 :=
 ⟨by rw [Lib.cell_of_heap h.out];rfl,by rw [Lib.cell_of_heap h.out];rfl,by rw [Lib.cell_of_heap h.out];rfl⟩
theorem boxn {A W:World} {n:Nat} (hb:Hid (Below A.heap.size A W)) (hn:Hid (n=A.heap.size)) (o:Obj) :
  ∃W' b,W.alloc o=W' ∧W.heap.size=b∧Hid (W'.heap[b]? =some o)∧Hid (Below A.heap.size A W')∧Hid (n≤b)∧∀c p,Hid (W.heap[c]? =some p)→Hid (W'.heap[c]? =some p)∧Hid (c<b) :=
 ⟨_,_,rfl,rfl,hD (heap_alloc_new W o),hD (hb.out.alloc hb.out.size o),hD (by rw [hn.out];exact hb.out.size),fun c p h=>⟨hD (hpU ((Below.refl _ W).alloc (Nat.le_refl _) o) h.out),hD (Array.getElem?_eq_some_iff.1 h.out).1⟩⟩
theorem put3 {A W:World} {n b:Nat} {x0 x1 x2:Value} {t:TypeId} (h:Hid (W.heap[b]? =some (.cells #[x0,x1,x2] t (0,0)))) (hb:Hid (Below A.heap.size A W)) (hn:Hid (n=A.heap.size)) (hg:Hid (n≤b)) (u0 u1 u2:Value) :
  ∃W',((W.setCell ⟨b,0,none⟩ u0).setCell ⟨b,1,none⟩ u1).setCell ⟨b,2,none⟩ u2=W' ∧Hid (W'.heap[b]? =some (.cells #[u0,u1,u2] t (0,0)))∧Hid (Below A.heap.size A W')∧(∀c o,b≠c→Hid (W.heap[c]? =some o)→Hid (W'.heap[c]? =some o)) ∧
   W.frozen? ⟨b,0,none⟩=false∧W.frozen? ⟨b,1,none⟩=false∧W.frozen? ⟨b,2,none⟩=false∧W.cell? ⟨b,0,none⟩=some x0∧W.cell? ⟨b,1,none⟩=some x1∧W.cell? ⟨b,2,none⟩=some x2:=by
 have hz:A.heap.size≤b:=by rw [←hn.out];exact hg.out
 refine ⟨_,rfl,hD ?_,hD (((hb.out.setCell (p:=⟨b,0,none⟩) hz u0).setCell (p:=⟨b,1,none⟩) hz u1).setCell (p:=⟨b,2,none⟩) hz u2),fun c o hne ho=>hD (row_else (row_else (row_else ho.out hne _) hne _) hne _),frz0 h.out 0,frz0 h.out 1,frz0 h.out 2,c3 h⟩;simp [World.setCell,Array.getElem?_modify,h.out]
theorem boxS {A W:World} {n:Nat} (hb:Hid (Below A.heap.size A W)) (hn:Hid (n=A.heap.size)) (x:Bool) (y z:ByteArray):∃W' b,W.alloc (.cells #[.bool x,.string y,.string z] 29)=W' ∧W.heap.size=b∧Hid (W'.heap[b]? =some (.cells #[.bool x,.string y,.string z] 29))∧Hid (Below A.heap.size A W')∧Hid (n≤b)∧∀c p,Hid (W.heap[c]? =some p)→Hid (W'.heap[c]? =some p)∧Hid (c<b):=boxn hb hn (.cells #[.bool x,.string y,.string z] 29)
theorem boxR {A W:World} {n:Nat} (hb:Hid (Below A.heap.size A W)) (hn:Hid (n=A.heap.size)) (q:Rt):∃W' b,W.alloc (.cells #[.bool q.neg,.string (encS q.num),.string (encS q.den)] 29)=W' ∧W.heap.size=b∧Hid (W'.heap[b]? =some (.cells #[.bool q.neg,.string (encS q.num),.string (encS q.den)] 29))∧Hid (Below A.heap.size A W')∧Hid (n≤b)∧∀c p,Hid (W.heap[c]? =some p)→Hid (W'.heap[c]? =some p)∧Hid (c<b):=boxn hb hn (.cells #[.bool q.neg,.string (encS q.num),.string (encS q.den)] 29)
theorem boxZ {A W:World} {n:Nat} (hb:Hid (Below A.heap.size A W)) (hn:Hid (n=A.heap.size)):∃W' b,W.alloc (.cells #[.bool false,.string ⟨#[]⟩,.string ⟨#[]⟩] 29)=W' ∧W.heap.size=b∧Hid (W'.heap[b]? =some (.cells #[.bool false,.string ⟨#[]⟩,.string ⟨#[]⟩] 29))∧Hid (Below A.heap.size A W')∧Hid (n≤b)∧∀c p,Hid (W.heap[c]? =some p)→Hid (W'.heap[c]? =some p)∧Hid (c<b):=boxn hb hn (.cells #[.bool false,.string ⟨#[]⟩,.string ⟨#[]⟩] 29)
theorem putR {A W:World} {n b:Nat} {x0 x1 x2:Value} {t:TypeId} (h:Hid (W.heap[b]? =some (.cells #[x0,x1,x2] t (0,0)))) (hb:Hid (Below A.heap.size A W)) (hn:Hid (n=A.heap.size)) (hg:Hid (n≤b)) (q:Rt):∃W',((W.setCell ⟨b,0,none⟩ (.bool q.neg)).setCell ⟨b,1,none⟩ (.string (encS q.num))).setCell ⟨b,2,none⟩ (.string (encS q.den))=W' ∧Hid (W'.heap[b]? =some (.cells #[(.bool q.neg),(.string (encS q.num)),(.string (encS q.den))] t (0,0)))∧Hid (Below A.heap.size A W')∧(∀c o,b≠c→Hid (W.heap[c]? =some o)→Hid (W'.heap[c]? =some o))∧W.frozen? ⟨b,0,none⟩=false∧W.frozen? ⟨b,1,none⟩=false∧W.frozen? ⟨b,2,none⟩=false∧W.cell? ⟨b,0,none⟩=some x0∧W.cell? ⟨b,1,none⟩=some x1∧W.cell? ⟨b,2,none⟩=some x2:=put3 h hb hn hg (.bool q.neg) (.string (encS q.num)) (.string (encS q.den))
theorem putZ {A W:World} {n b:Nat} {x0 x1 x2:Value} {t:TypeId} (h:Hid (W.heap[b]? =some (.cells #[x0,x1,x2] t (0,0)))) (hb:Hid (Below A.heap.size A W)) (hn:Hid (n=A.heap.size)) (hg:Hid (n≤b)):∃W',((W.setCell ⟨b,0,none⟩ (.bool false)).setCell ⟨b,1,none⟩ (.string ⟨#[]⟩)).setCell ⟨b,2,none⟩ (.string ⟨#[]⟩)=W' ∧Hid (W'.heap[b]? =some (.cells #[(.bool false),(.string ⟨#[]⟩),(.string ⟨#[]⟩)] t (0,0)))∧Hid (Below A.heap.size A W')∧(∀c o,b≠c→Hid (W.heap[c]? =some o)→Hid (W'.heap[c]? =some o))∧W.frozen? ⟨b,0,none⟩=false∧W.frozen? ⟨b,1,none⟩=false∧W.frozen? ⟨b,2,none⟩=false∧W.cell? ⟨b,0,none⟩=some x0∧W.cell? ⟨b,1,none⟩=some x1∧W.cell? ⟨b,2,none⟩=some x2:=put3 h hb hn hg (.bool false) (.string ⟨#[]⟩) (.string ⟨#[]⟩)
theorem ne1 {a0 a1:Nat} (h0:Hid (a0<a1)):a0≠a1:=by have:=h0.out;omega
theorem en1 {a0 a1:Nat} (h0:Hid (a0<a1)):a1≠a0:=by have:=h0.out;omega
theorem ne2 {a0 a1 a2:Nat} (h0:Hid (a0<a1)) (h1:Hid (a1<a2)):a0≠a2:=by have:=h0.out;have:=h1.out;omega
theorem en2 {a0 a1 a2:Nat} (h0:Hid (a0<a1)) (h1:Hid (a1<a2)):a2≠a0:=by have:=h0.out;have:=h1.out;omega
theorem en3 {a0 a1 a2 a3:Nat} (h0:Hid (a0<a1)) (h1:Hid (a1<a2)) (h2:Hid (a2<a3)):a3≠a0:=by have:=h0.out;have:=h1.out;have:=h2.out;omega
theorem en4 {a0 a1 a2 a3 a4:Nat} (h0:Hid (a0<a1)) (h1:Hid (a1<a2)) (h2:Hid (a2<a3)) (h3:Hid (a3<a4)):a4≠a0:=by have:=h0.out;have:=h1.out;have:=h2.out;have:=h3.out;omega
theorem en5 {a0 a1 a2 a3 a4 a5:Nat} (h0:Hid (a0<a1)) (h1:Hid (a1<a2)) (h2:Hid (a2<a3)) (h3:Hid (a3<a4)) (h4:Hid (a4<a5)):a5≠a0:=by have:=h0.out;have:=h1.out;have:=h2.out;have:=h3.out;have:=h4.out;omega
end Go.Proofs.YtblgfmjlajhipaaGreatDoor
namespace Go.Proofs.YtblgfmjlajhipaaGreatDoor
open Go.RowKit Go.Shelf Go.Maps
open Dgt
def keysA_ren:Go.Shelf.Ren:=⟨fun|7=>76|10=>110|n=>n,fun|23=>94|26=>3|3=>29|28=>98|0=>0|27=>97|33=>93|4=>4|n=>n,fun|n=>n⟩
theorem keysA:Go.Proofs.SlLaysZI.n7 Tryz.prog keysA_ren:={
 mixed:=by kernel_rfl
 f7:=⟨Tryz.f76.name,by decide,Tryz.func76.trans (congrArg some (by kernel_rfl))⟩
 f10:=⟨Tryz.f110.name,by decide,Tryz.func110.trans (congrArg some (by kernel_rfl))⟩
 t0:=Tryz.underlying0
 a0:=Tryz.isAgg0
 z0:=Tryz.sizeOf0
 v0:=Tryz.zeroValue0
 t4:=Tryz.underlying4
 a4:=Tryz.isAgg4
 z4:=Tryz.sizeOf4
 v4:=Tryz.zeroValue4
 t23:=Tryz.underlying94
 a23:=Tryz.isAgg94
 z23:=Tryz.sizeOf94
 v23:=Tryz.zeroValue94
 t26:=Tryz.underlying3
 a26:=Tryz.isAgg3
 z26:=Tryz.sizeOf3
 v26:=Tryz.zeroValue3
 t27:=Tryz.underlying97
 a27:=Tryz.isAgg97
 z27:=Tryz.sizeOf97
 v27:=Tryz.zeroValue97
 t28:=Tryz.underlying98
 a28:=Tryz.isAgg98
 z28:=Tryz.sizeOf98
 v28:=Tryz.zeroValue98
 t33:=Tryz.underlying93
 a33:=Tryz.isAgg93
 z33:=Tryz.sizeOf93
 v33:=Tryz.zeroValue93 }
def sortedA_ren:Go.Shelf.Ren:=⟨fun|6=>75|8=>108|9=>109|11=>130|13=>132|12=>131|23=>129|24=>145|14=>136|15=>137|16=>138|17=>139|18=>140|19=>141|20=>142|21=>143|22=>144|25=>157|26=>158|27=>159|28=>160|29=>161|30=>162|31=>166|n=>n,fun|26=>3|28=>98|24=>76|0=>0|3=>3|37=>120|48=>133|50=>141|4=>4|40=>146|39=>145|45=>108|5=>5|9=>9|51=>167|55=>171|57=>177|58=>178|33=>93|n=>n,fun|n=>n⟩
theorem sortedA:Go.Proofs.SlLaysZI.n6 Tryz.prog sortedA_ren:={
 mixed:=by kernel_rfl
 f6:=⟨Tryz.f75.name,by decide,Tryz.func75.trans (congrArg some (by kernel_rfl))⟩
 f8:=⟨Tryz.f108.name,by decide,Tryz.func108.trans (congrArg some (by kernel_rfl))⟩
 f11:=⟨Tryz.f130.name,by decide,Tryz.func130.trans (congrArg some (by kernel_rfl))⟩
 t0:=Tryz.underlying0
 a0:=Tryz.isAgg0
 z0:=Tryz.sizeOf0
 v0:=Tryz.zeroValue0
 t24:=Tryz.underlying76
 a24:=Tryz.isAgg76
 z24:=Tryz.sizeOf76
 v24:=Tryz.zeroValue76
 t26:=Tryz.underlying3
 a26:=Tryz.isAgg3
 z26:=Tryz.sizeOf3
 v26:=Tryz.zeroValue3
 t28:=Tryz.underlying98
 a28:=Tryz.isAgg98
 z28:=Tryz.sizeOf98
 v28:=Tryz.zeroValue98
 i26:=by kernel_rfl }
def sortA_ren:Go.Shelf.Ren:=⟨fun|5=>109|8=>132|7=>131|19=>129|20=>145|10=>136|11=>137|12=>138|13=>139|14=>140|15=>141|16=>142|17=>143|18=>144|30=>157|31=>158|32=>159|33=>160|34=>161|35=>162|40=>166|n=>n,fun|23=>76|25=>3|3=>3|32=>120|22=>76|0=>0|44=>133|46=>141|4=>4|36=>146|35=>145|41=>108|5=>5|9=>9|53=>167|57=>171|63=>177|64=>178|n=>n,fun|n=>n⟩
theorem sortA:Go.Proofs.SlLaysM.n5 Tryz.prog sortA_ren:={
 mixed:=by kernel_rfl
 f5:=⟨Tryz.f109.name,by decide,Tryz.func109.trans (congrArg some (by kernel_rfl))⟩
 f7:=⟨Tryz.f131.name,by decide,Tryz.func131.trans (congrArg some (by kernel_rfl))⟩
 f8:=Tryz.func132.trans (congrArg some (by kernel_rfl))
 f10:=⟨Tryz.f136.name,by decide,Tryz.func136.trans (congrArg some (by kernel_rfl))⟩
 f11:=⟨Tryz.f137.name,by decide,Tryz.func137.trans (congrArg some (by kernel_rfl))⟩
 f12:=⟨Tryz.f138.name,by decide,Tryz.func138.trans (congrArg some (by kernel_rfl))⟩
 f13:=⟨Tryz.f139.name,by decide,Tryz.func139.trans (congrArg some (by kernel_rfl))⟩
 f14:=⟨Tryz.f140.name,by decide,Tryz.func140.trans (congrArg some (by kernel_rfl))⟩
 f15:=⟨Tryz.f141.name,by decide,Tryz.func141.trans (congrArg some (by kernel_rfl))⟩
 f16:=⟨Tryz.f142.name,by decide,Tryz.func142.trans (congrArg some (by kernel_rfl))⟩
 f17:=⟨Tryz.f143.name,by decide,Tryz.func143.trans (congrArg some (by kernel_rfl))⟩
 f18:=⟨Tryz.f144.name,by decide,Tryz.func144.trans (congrArg some (by kernel_rfl))⟩
 f19:=Tryz.func129.trans (congrArg some (by kernel_rfl))
 f20:=Tryz.func145.trans (congrArg some (by kernel_rfl))
 f30:=⟨Tryz.f157.name,by decide,Tryz.func157.trans (congrArg some (by kernel_rfl))⟩
 f31:=Tryz.func158.trans (congrArg some (by kernel_rfl))
 f32:=Tryz.func159.trans (congrArg some (by kernel_rfl))
 f33:=⟨Tryz.f160.name,by decide,Tryz.func160.trans (congrArg some (by kernel_rfl))⟩
 f34:=⟨Tryz.f161.name,by decide,Tryz.func161.trans (congrArg some (by kernel_rfl))⟩
 f35:=⟨Tryz.f162.name,by decide,Tryz.func162.trans (congrArg some (by kernel_rfl))⟩
 f40:=⟨Tryz.f166.name,by decide,Tryz.func166.trans (congrArg some (by kernel_rfl))⟩
 t0:=Tryz.underlying0
 a0:=Tryz.isAgg0
 z0:=Tryz.sizeOf0
 v0:=Tryz.zeroValue0
 t3:=Tryz.underlying3
 a3:=Tryz.isAgg3
 z3:=Tryz.sizeOf3
 v3:=Tryz.zeroValue3
 t4:=Tryz.underlying4
 a4:=Tryz.isAgg4
 z4:=Tryz.sizeOf4
 v4:=Tryz.zeroValue4
 t5:=Tryz.underlying5
 a5:=Tryz.isAgg5
 z5:=Tryz.sizeOf5
 v5:=Tryz.zeroValue5
 t9:=Tryz.underlying9
 a9:=Tryz.isAgg9
 z9:=Tryz.sizeOf9
 v9:=Tryz.zeroValue9
 t22:=Tryz.underlying76
 a22:=Tryz.isAgg76
 z22:=Tryz.sizeOf76
 v22:=Tryz.zeroValue76
 t23:=Tryz.underlying76
 a23:=Tryz.isAgg76
 z23:=Tryz.sizeOf76
 v23:=Tryz.zeroValue76
 t25:=Tryz.underlying3
 a25:=Tryz.isAgg3
 z25:=Tryz.sizeOf3
 v25:=Tryz.zeroValue3
 t32:=Tryz.underlying120
 a32:=Tryz.isAgg120
 z32:=Tryz.sizeOf120
 v32:=Tryz.zeroValue120
 t35:=Tryz.underlying145
 a35:=Tryz.isAgg145
 z35:=Tryz.sizeOf145
 v35:=Tryz.zeroValue145
 t36:=Tryz.underlying146
 a36:=Tryz.isAgg146
 z36:=Tryz.sizeOf146
 v36:=Tryz.zeroValue146
 t41:=Tryz.underlying108
 a41:=Tryz.isAgg108
 z41:=Tryz.sizeOf108
 v41:=Tryz.zeroValue108
 t44:=Tryz.underlying133
 a44:=Tryz.isAgg133
 z44:=Tryz.sizeOf133
 v44:=Tryz.zeroValue133
 t46:=Tryz.underlying141
 a46:=Tryz.isAgg141
 z46:=Tryz.sizeOf141
 v46:=Tryz.zeroValue141
 t53:=Tryz.underlying167
 a53:=Tryz.isAgg167
 z53:=Tryz.sizeOf167
 v53:=Tryz.zeroValue167
 t57:=Tryz.underlying171
 a57:=Tryz.isAgg171
 z57:=Tryz.sizeOf171
 v57:=Tryz.zeroValue171
 t63:=Tryz.underlying177
 a63:=Tryz.isAgg177
 z63:=Tryz.sizeOf177
 v63:=Tryz.zeroValue177
 t64:=Tryz.underlying178
 a64:=Tryz.isAgg178
 z64:=Tryz.sizeOf178
 v64:=Tryz.zeroValue178 }
theorem sortsA (m:Nat):AnyZI.SortsIn Tryz.prog sortedA_ren Fence.wide m :=
 ⟨fun blk off cap ss W hH hblk hsz=>callsIn_wide.2 (AnyM.slices_Sort_int sortA blk off cap ss W hH hblk hsz),
  fun p cap W=>callsIn_wide.2 (AnyM.slices_Sort_int_none sortA p cap W)⟩
theorem keys_any (mb:Option Nat) (w:World):Calls Tryz.prog 76 #[.map mb] w fun e w' =>e=.returned (.func (.func 110) #[] #[.pointer (some ⟨w.heap.size,0,none⟩)])∧w' =w.alloc (.cells #[.map mb] 94) :=
 callsIn_wide.1 (AnyZI.keys_in keysA Fence.wide 5 trivial rfl mb w)
theorem sorted_any (b k nn:Nat) (g:List DR) (w:World) (hk:k<w.heap.size) (hm:w.cell? ⟨k,0,none⟩=some (.map (some b))) (hown:w.ownsMap Tryz.prog 3 selfE b nn (mapD g)) (hl:g.length≤1000) :
  Calls Tryz.prog 75 #[.func (.func 110) #[] #[.pointer (some ⟨k,0,none⟩)]] w fun e w' =>∃v:Value,e=.returned v ∧
   w'.ownsRow w.heap.size 3 1 v (daysOf g).length ((daysOf g).map encZ)∧Below w.heap.size w w' :=by
 have hz:=mapD_size g;have hseq:SeqGives Fence.wide 2 Tryz.prog 110 #[.pointer (some ⟨k,0,none⟩)] encZ (fun ss=>ss.Perm (intKeys (mapD g))) (Maps.size (mapD g)) w :=
  AnyZI.keys_gives (ρ:=keysA_ren) { keysA with } Fence.wide _ trivial rfl (by omega) k b nn (mapD g) _ hk hm hown
 have cS:=AnyZI.sorted_in sortedA Fence.wide 5 trivial trivial trivial trivial rfl (by omega) (sortsA _) (enters_of Tryz.func109 (by kernel_rfl) rfl) 110 #[.pointer (some ⟨k,0,none⟩)] trivial (enters_of Tryz.func110 (by kernel_rfl) rfl) _ _ (by unfold maxLen;omega) (by omega) w hseq;refine (callsIn_wide.1 cS).mono ?_;rintro e w' ⟨v,ss,rfl,hS,hrow,-,hb⟩;have e2:=sorted_days hS;have e3:ss.length=(daysOf g).length:=by rw [hS.length_eq,(mapD_keys g).length_eq]
 rw [e2,e3] at hrow;exact ⟨v,rfl,hrow,hb⟩
end Go.Proofs.YtblgfmjlajhipaaGreatDoor
namespace Go.Proofs.YtblgfmjlajhipaaGreatDoor
open Go.RowKit Go.Shelf
open Dgt
theorem Rw.ok (r:Rw):r.val.Ok:=valQ_ok _ _ _
theorem Rw.rz {r:Rw} {k:Nat} (hk:1≤k) (h:r.n.size≤k∧r.d.size≤k):Rz r.val k:=valQ_sz hk h.1 h.2
def inJ (x:Int):Prop:= -9223372036854775808≤x∧x≤9223372036854775807
def ArgT (W:World) (v:Value):Prop:=∃p len cap,v=.slice p len cap∧len≤9223372036854775807 ∧
 ∀i,i<len→∃g off x y z,p=some ⟨g,off,none⟩∧g<W.heap.size∧inJ x∧inJ y∧inJ z∧W.cell? ⟨g,off+i*3,none⟩=some (.int .i64 x)∧W.cell? ⟨g,off+i*3+1,none⟩=some (.int .i64 y)∧W.cell? ⟨g,off+i*3+2,none⟩=some (.int .i64 z)
theorem ArgT.up {A W:World} {v:Value} (h:ArgT A v) (hb:Below A.heap.size A W):ArgT W v:=by
 obtain ⟨p,len,cap,h1,h2,h3⟩:=h;refine ⟨p,len,cap,h1,h2,fun i hi=> ?_⟩;obtain ⟨g,off,x,y,z,e1,e2,e3,e4,e5,e6,e7,e8⟩:=h3 i hi;exact ⟨g,off,x,y,z,e1,Nat.lt_of_lt_of_le e2 hb.size,e3,e4,e5,by rw [clU hb e2];exact e6,by rw [clU hb e2];exact e7,by rw [clU hb e2];exact e8⟩
def cells3 (l:List Rw):List Value:=l.flatMap fun s=>[.bool s.neg,.string s.n,.string s.d]
theorem cells3_len (l:List Rw):(cells3 l).length=l.length*3:=by
 induction l with
 | nil=>rfl
 | cons s l ih=>simp only [cells3,List.flatMap_cons,List.length_append,List.length_cons,List.length_nil] at ih ⊢;omega
theorem cells3_append (a b:List Rw):cells3 (a++b)=cells3 a++cells3 b:=by simp [cells3]
theorem cells3_at:∀(l:List Rw) (i:Nat) (h:i<l.length),(cells3 l)[i*3]? =some (.bool l[i].neg)∧(cells3 l)[i*3+1]? =some (.string l[i].n)∧(cells3 l)[i*3+2]? =some (.string l[i].d)
 | s::l,0,_=>by simp [cells3]
 | s::l,i+1,h=>by
  have e:cells3 (s::l)=.bool s.neg::.string s.n::.string s.d::cells3 l:=by simp [cells3]
  have ih:=cells3_at l i (by simpa using h);rw [e,show (i+1)*3=i*3+1+1+1 by omega];simpa using ih
theorem infoRat:(Tryz.prog.info? 29).map (fun i=>(i.zero,i.size,i.bytes))=some (some (.agg #[.bool false,.string ⟨#[]⟩,.string ⟨#[]⟩]),3,40):=by kernel_rfl
theorem own_lstR {W:World} {base:Nat} {e:TypeId} {v:Value} {l:List Rw} (h:W.ownsRow base e 3 v l.length (cells3 l)) (hl:l.length≤1000):LstR W v l:=by
 rcases h.2 with ⟨rfl,h0⟩|⟨g,cap,cur,rfl,hg,hgh,hnc,hcm,hcs,hct⟩
 ·exact .inl ⟨rfl,List.eq_nil_of_length_eq_zero h0⟩
 ·refine .inr ⟨g,0,cap,rfl,(Array.getElem?_eq_some_iff.1 hgh).1,hl,fun i hi=> ?_⟩;have hat:=cells3_at l i hi;have key:∀j x,(cells3 l)[j]? =some x→W.cell? ⟨g,0+j,none⟩=some x:=fun j x hx=>by
   rw [←hct,List.getElem?_take] at hx
   split at hx
   ·rw [Nat.zero_add,Lib.cell_of_heap hgh];rw [←Array.getElem?_toList];exact hx
   ·cases hx
  exact ⟨key _ _ hat.1,key _ _ hat.2.1,key _ _ hat.2.2⟩
def LstC (n:Nat) (W:World) (v:Value) (l:List (List Value)):Prop :=
 ∃p cap,v=.slice p l.length cap∧l.length≤cap∧l.length≤1000∧∀i (h:i<l.length),∃g off,p=some ⟨g,off,none⟩∧g<W.heap.size∧∀j u,l[i][j]? =some u→W.cell? ⟨g,off+i*n+j,none⟩=some u
theorem LstC.up {n:Nat} {A W:World} {v:Value} {l:List (List Value)} (h:LstC n A v l) (hb:Below A.heap.size A W):LstC n W v l:=by
 obtain ⟨p,cap,h1,h2,h3,h4⟩:=h;refine ⟨p,cap,h1,h2,h3,fun i hi=> ?_⟩;obtain ⟨g,off,k1,k2,k3⟩:=h4 i hi;exact ⟨g,off,k1,Nat.lt_of_lt_of_le k2 hb.size,fun j u hu=>by rw [clU hb k2];exact k3 j u hu⟩
theorem flat_at {n:Nat}:∀{l:List (List Value)},(∀r ∈ l,r.length=n)→∀i (h:i<l.length) j u,l[i][j]? =some u→l.flatten[i*n+j]? =some u
 | r::t,hn,0,_,j,u,hu=>by
  simp only [List.getElem_cons_zero] at hu;rw [List.flatten_cons,Nat.zero_mul,Nat.zero_add,List.getElem?_append_left (List.getElem?_eq_some_iff.1 hu).1];exact hu
 | r::t,hn,i+1,h,j,u,hu=>by
  have hr:=hn r (by simp);rw [List.flatten_cons,List.getElem?_append_right (by rw [hr,Nat.add_mul];omega),hr,show (i+1)*n+j-n=i*n+j by rw [Nat.add_mul];omega];exact flat_at (fun r hr=>hn r (by simp [hr])) i (by simpa using h) j u (by simpa using hu)
theorem own_lstC {n:Nat} {W:World} {base:Nat} {e:TypeId} {v:Value} {l:List (List Value)} (h:W.ownsRow base e n v l.length l.flatten) (hn:∀r ∈ l,r.length=n) (hl:l.length≤1000):LstC n W v l:=by
 rcases h.2 with ⟨rfl,h0⟩|⟨g,cap,cur,rfl,hg,hgh,hnc,hcm,hcs,hct⟩
 ·exact ⟨none,0,by rw [h0],by omega,hl,fun i hi=>by omega⟩
 ·refine ⟨some ⟨g,0,none⟩,cap,rfl,hnc,hl,fun i hi=>⟨g,0,rfl,(Array.getElem?_eq_some_iff.1 hgh).1,fun j u hu=> ?_⟩⟩;have hx:=flat_at hn i hi j u hu;rw [←hct,List.getElem?_take] at hx
  split at hx
  ·rw [Nat.zero_add,Lib.cell_of_heap hgh];rw [←Array.getElem?_toList];exact hx
  ·cases hx
def cntB (T:Nat→Bool):Nat→Nat
 | 0=>0
 | n+1=>if T n=true then cntB T n else n+1
theorem cntB_le {T:Nat→Bool}:∀{n:Nat},cntB T n≤n
 | 0=>Nat.le_refl _
 | n+1=>by
  have h:=@cntB_le T n;unfold cntB;split
  ·omega
  ·exact Nat.le_refl _
theorem cntB_above {T:Nat→Bool}:∀{n k:Nat},cntB T n≤k→k<n→T k=true
 | 0,k,_,h=>absurd h (by omega)
 | n+1,k,h1,h2=>by
  unfold cntB at h1
  split at h1
  ·rename_i h3
   by_cases e:k=n
   ·rw [e];exact h3
   ·exact cntB_above h1 (by omega)
  ·omega
theorem cntB_at {T:Nat→Bool}:∀{n:Nat},0<cntB T n→T (cntB T n-1)=false
 | 0,h=>absurd h (by unfold cntB;omega)
 | n+1,h=>by
  unfold cntB at h ⊢
  split
  ·rename_i h2;rw [if_pos h2] at h;exact cntB_at h
  ·rename_i h2;simpa using h2
theorem cntB_unique {T:Nat→Bool} {n i:Nat} (hi:i≤n) (h1:∀k,k<i→T k=false) (h2:∀k,i≤k→k<n→T k=true):i=cntB T n:=by
 have hle:=@cntB_le T n;rcases Nat.lt_trichotomy i (cntB T n) with h3|h3|h3
 ·have a:=cntB_at (T:=T) (n:=n) (by omega);rw [h2 _ (by omega) (by omega)] at a;cases a
 ·exact h3
 ·have a:=cntB_above (T:=T) (n:=n) (k:=cntB T n) (Nat.le_refl _) (by omega);rw [h1 _ h3] at a;cases a
section
variable {m:List BT} {x y:Rt}
theorem cntT_B (h:Sch m) (hx:x.Ok):cntB (fun k=>decide (0<cmpR (frT m k) x)) m.length=cntT m x:=by
 have key:∀k,decide (0<cmpR (frT m k) x)=decide (x.q<frQ m k):=fun k=>decide_eq_decide.2 (by
  rw [cmpR_q (h.frOk k) hx,sgQ_gt0];unfold frQ;grind)
 unfold cntT;refine cnt_unique h.inc cntB_le (fun k hk=> ?_) (fun k h1 h2=> ?_)
 ·rcases Nat.lt_or_ge k (cntB (fun k=>decide (0<cmpR (frT m k) x)) m.length-1) with hlt|hge
  ·have a:=cntB_at (T:=fun k=>decide (0<cmpR (frT m k) x)) (n:=m.length) (by omega);rw [key] at a;have:=h.inc.lt hlt (by have:=@cntB_le (fun k=>decide (0<cmpR (frT m k) x)) m.length;omega);have:=of_decide_eq_false a;grind
  ·have e:k=cntB (fun k=>decide (0<cmpR (frT m k) x)) m.length-1:=by omega
   have a:=cntB_at (T:=fun k=>decide (0<cmpR (frT m k) x)) (n:=m.length) (by omega);rw [key, ←e] at a;have:=of_decide_eq_false a;grind
 ·have a:=cntB_above h1 h2;simp only [key] at a;exact of_decide_eq_true a
def kT (m:List BT) (y:Rt):Nat:=cntB (fun k=>decide (0≤cmpR (begT m k) y)) m.length
def invT (m:List BT) (y:Rt):Rt:=addR (frT m (kT m y-1)) (quoR (subR y (begT m (kT m y-1))) (rtT m (kT m y-1)))
def fallsT (m:List BT):Bool:=m.any fun b=>decide (sgnR b.2<0)
theorem rate_nn (h:Sch m) (hf:fallsT m=false) (k:Nat) (hk:k<m.length):0≤rtQ m k:=by
 unfold fallsT at hf;rw [Bool.eq_false_iff] at hf;unfold rtQ;rcases Classical.em (0≤(rtT m k).q) with h1|h1
 ·exact h1
 ·exfalso;apply hf
  rw [List.any_eq_true];refine ⟨m[k],List.getElem_mem hk,decide_eq_true ?_⟩;rw [rtT_at hk] at h1;rw [sgnR_q (h.ok _ (List.getElem_mem hk)).2,sgQ_lt0];grind
theorem beg_test (h:Sch m) (hy:y.Ok) (k:Nat):decide (0≤cmpR (begT m k) y)=decide (y.q≤begF (frQ m) (rtQ m) k):=decide_eq_decide.2 (by
 rw [cmpR_q (beg_ok h k) hy,sgQ_ge0,q_beg h];grind)
theorem kT_eq (h:Sch m) (hy:y.Ok):kT m y=cntB (fun k=>decide (y.q≤begF (frQ m) (rtQ m) k)) m.length:=by
 unfold kT;rw [show (fun k=>decide (0≤cmpR (begT m k) y))=fun k=>decide (y.q≤begF (frQ m) (rtQ m) k) from funext (beg_test h hy)]
theorem beg_up (h:Sch m) (hf:fallsT m=false) (hy:y.Ok) {i j:Nat} (hij:i≤j) (hj:j<m.length) (hi:decide (0≤cmpR (begT m i) y)=true):decide (0≤cmpR (begT m j) y)=true:=by
 rw [beg_test h hy] at hi ⊢;have:=beg_mono h.inc (rate_nn h hf) hij hj;have:=of_decide_eq_true hi;exact decide_eq_true (by grind)
theorem k_pos (h:Sch m) (hy:y.Ok) (hp:0<y.q):0<kT m y:=by
 apply Nat.pos_of_ne_zero
 intro h0;unfold kT at h0;have:=cntB_above (T:=fun k=>decide (0≤cmpR (begT m k) y)) (n:=m.length) (k:=0) (by omega) h.pos;simp only [beg_test h hy] at this;have h2:=of_decide_eq_true this;have:begF (frQ m) (rtQ m) 0=0:=rfl
 grind
theorem kth (h:Sch m) (hf:fallsT m=false) (hy:y.Ok) (hp:0<y.q):Kth (frQ m) (rtQ m) m.length y.q (kT m y-1):=by
 have h0:=k_pos h hy hp;have hle:kT m y≤m.length:=cntB_le;refine ⟨by omega,?_,fun e=> ?_⟩
 ·rw [kT_eq h hy] at h0 ⊢;have:=of_decide_eq_false (cntB_at h0)
  grind
 ·rw [kT_eq h hy] at h0 e ⊢;exact of_decide_eq_true (cntB_above (T:=fun k=>decide (y.q≤begF (frQ m) (rtQ m) k)) (n:=m.length) (by omega) e)
end
def invV (l:List Bk) (y:Rw):Rw × Int :=
 if ckB l=0 then
  (if (fallsT (valsB l)|| !y.right)=true then (zrow,1) else
   if fitsR y=true then
    (if sgnR y.val<0 then (zrow,15) else if sgnR y.val=0 then (y,0) else
     if (rtT (valsB l) (kT (valsB l) y.val-1)).num=0 then (zrow,15) else
      if fitT (invT (valsB l) y.val)=true then (rawR (invT (valsB l) y.val),0) else (zrow,3))
   else (zrow,3))
 else (zrow,ckB l)
def riseV (l:List Bk):Bool:=decide (ckB l=0)&& !fallsT (valsB l)
end Go.Proofs.YtblgfmjlajhipaaGreatDoor
