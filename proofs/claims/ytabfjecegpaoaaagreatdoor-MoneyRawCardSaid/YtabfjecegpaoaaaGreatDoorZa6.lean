/- Contracts that the proofs of this seat share. Each theorem names its conditions. -/
import Derived.Lib.ItoaNum
import Derived.Lib.Itoa
import Derived.Lib.AppendIntMem
import Derived.Test.YtabfjecegpaoaaaGreatDoorZa5
set_option maxHeartbeats 16000000
set_option linter.unusedVariables false
namespace Go.Proofs.YtabfjecegpaoaaaGreatDoor
open Go.RowKit Go.Shelf
open Dgt
structure Rt where
 neg:Bool
 num:Nat
 den:Nat
theorem Rt.ext' {a b:Rt} (h1:a.neg=b.neg) (h2:a.num=b.num) (h3:a.den=b.den):a=b:=by
 cases a;cases b;simp_all
structure Rt.Ok (a:Rt):Prop where
 pos:0<a.den
 one:Nat.gcd a.num a.den=1
 nz:a.neg=true→0<a.num
def zeroR:Rt:=⟨false,0,1⟩
theorem zeroR_ok:zeroR.Ok:=⟨by decide,by decide,fun h=>by cases h⟩
def low (neg:Bool) (n d:Nat):Rt:=⟨neg&&decide (0<n/Nat.gcd n d),n/Nat.gcd n d,d/Nat.gcd n d⟩
theorem low_ok (neg:Bool) {n d:Nat} (hd:0<d):(low neg n d).Ok:=by
 have hg:0<Nat.gcd n d:=Nat.gcd_pos_of_pos_right n hd;refine ⟨Nat.div_pos (Nat.le_of_dvd hd (Nat.gcd_dvd_right n d)) hg,?_,fun h=> ?_⟩
 ·show Nat.gcd (n/Nat.gcd n d) (d/Nat.gcd n d)=1;rw [Nat.gcd_div (Nat.gcd_dvd_left n d) (Nat.gcd_dvd_right n d),Nat.div_self hg]
 simp only [low,Bool.and_eq_true,decide_eq_true_eq] at h;exact h.2
theorem low_zero (neg:Bool) {d:Nat} (hd:0<d):low neg 0 d=zeroR:=by
 refine Rt.ext' ?_ ?_ ?_
 ·simp [low,zeroR]
 ·simp [low,zeroR]
 ·simp [low,zeroR,Nat.gcd_zero_left,Nat.div_self hd]
theorem low_num_pos {neg:Bool} {n d:Nat} (hn:0<n):0<n/Nat.gcd n d :=
 Nat.div_pos (Nat.le_of_dvd hn (Nat.gcd_dvd_left n d)) (Nat.gcd_pos_of_pos_left d hn)
theorem Rt.Ok.zero {a:Rt} (h:a.Ok) (h0:a.num=0):a=zeroR:=by
 refine Rt.ext' ?_ h0 ?_
 ·cases hn:a.neg
  ·rfl
  ·have:=h.nz hn;omega
 ·have:=h.one;rw [h0,Nat.gcd_zero_left] at this;exact this
def negR (a:Rt):Rt:=⟨!a.neg&&decide (0<a.num),a.num,a.den⟩
def addR (a b:Rt):Rt :=
 if a.neg=b.neg then low a.neg (a.num*b.den+b.num*a.den) (a.den*b.den)
 else if b.num*a.den≤a.num*b.den then low a.neg (a.num*b.den-b.num*a.den) (a.den*b.den)
 else low b.neg (b.num*a.den-a.num*b.den) (a.den*b.den)
def mulR (a b:Rt):Rt:=low (a.neg != b.neg) (a.num*b.num) (a.den*b.den)
def quoR (a b:Rt):Rt:=low (a.neg != b.neg) (a.num*b.den) (a.den*b.num)
def subR (a b:Rt):Rt:=addR a (negR b)
def sgnR (a:Rt):Int:=if a.num=0 then 0 else if a.neg then-1 else 1
def cmpR (a b:Rt):Int:=sgnR (subR a b)
def ofR (n:Int):Rt:=⟨decide (n<0),n.natAbs,1⟩
theorem negR_ok {a:Rt} (h:a.Ok):(negR a).Ok:=⟨h.pos,h.one,fun e=>by simpa [negR] using (by simpa [negR] using e:a.neg=false∧0<a.num).2⟩
theorem addR_ok {a b:Rt} (ha:a.Ok) (hb:b.Ok):(addR a b).Ok:=by
 have:=Nat.mul_pos ha.pos hb.pos;unfold addR;split
 ·exact low_ok _ this
 ·split<;>exact low_ok _ this
theorem mulR_ok {a b:Rt} (ha:a.Ok) (hb:b.Ok):(mulR a b).Ok:=low_ok _ (Nat.mul_pos ha.pos hb.pos)
theorem quoR_ok {a b:Rt} (ha:a.Ok) (hb:0<b.num):(quoR a b).Ok:=low_ok _ (Nat.mul_pos ha.pos hb)
theorem subR_ok {a b:Rt} (ha:a.Ok) (hb:b.Ok):(subR a b).Ok:=addR_ok ha (negR_ok hb)
theorem ofR_ok (n:Int):(ofR n).Ok:=⟨Nat.one_pos,Nat.gcd_one_right _,fun h=>by simp [ofR] at h;simp [ofR];omega⟩
def Rz (a:Rt) (k:Nat):Prop:=Sz a.num k∧Sz a.den k
theorem Rz.mono {a:Rt} {k j:Nat} (h:Rz a k) (hj:k≤j):Rz a j:=⟨h.1.mono hj,h.2.mono hj⟩
theorem low_sz {neg:Bool} {n d k:Nat} (hn:Sz n k) (hd:Sz d k):Rz (low neg n d) k:=⟨hn.div _,hd.div _⟩
theorem negR_sz {a:Rt} {k:Nat} (h:Rz a k):Rz (negR a) k:=h
theorem addR_sz {a b:Rt} {i j:Nat} (ha:Rz a i) (hb:Rz b j):Rz (addR a b) (i+j+1):=by
 have h1:=ha.1.mul hb.2;have h2:=hb.1.mul ha.2;have h3:=(ha.2.mul hb.2).mono (Nat.le_succ _);rw [Nat.add_comm j i] at h2;unfold addR;split
 ·exact low_sz (h1.add h2) h3
 ·split
  ·exact low_sz ((h1.sub _).mono (Nat.le_succ _)) h3
  ·exact low_sz ((h2.sub _).mono (Nat.le_succ _)) h3
theorem mulR_sz {a b:Rt} {i j:Nat} (ha:Rz a i) (hb:Rz b j):Rz (mulR a b) (i+j):=low_sz (ha.1.mul hb.1) (ha.2.mul hb.2)
theorem quoR_sz {a b:Rt} {i j:Nat} (ha:Rz a i) (hb:Rz b j):Rz (quoR a b) (i+j):=low_sz (ha.1.mul hb.2) (ha.2.mul hb.1)
theorem subR_sz {a b:Rt} {i j:Nat} (ha:Rz a i) (hb:Rz b j):Rz (subR a b) (i+j+1):=addR_sz ha (negR_sz hb)
theorem zeroR_sz:Rz zeroR 1:=⟨by unfold Sz zeroR;decide,by unfold Sz zeroR;decide⟩
theorem ofR_sz {n:Int} (h1: -9223372036854775808≤n) (h2:n≤9223372036854775807):Rz (ofR n) 8:=⟨by unfold Sz ofR;simp only;omega,(show Sz 1 8 by unfold Sz;decide)⟩
def ratV (neg:Bool) (n d:ByteArray):Value:=.agg #[.bool neg,.string n,.string d]
def rtV (a:Rt):Value:=.agg #[.bool a.neg,.string (encS a.num),.string (encS a.den)]
def rightR (neg:Bool) (n d:ByteArray):Bool:=rightN n&&rightN d&&decide (0<numS d)&&decide (Nat.gcd (numS n) (numS d)=1)&&(!neg||decide (0<numS n))
def valQ (neg:Bool) (n d:ByteArray):Rt:=if rightR neg n d=true then ⟨neg,numS n,numS d⟩ else zeroR
theorem rightN_eq {a:ByteArray} (h:rightN a=true):encS (numS a)=a:=by simpa [rightN] using h
theorem rightR_iff {neg:Bool} {n d:ByteArray}:rightR neg n d=true↔(rightN n=true∧rightN d=true∧(⟨neg,numS n,numS d⟩:Rt).Ok):=by
 unfold rightR;simp only [Bool.and_eq_true,decide_eq_true_eq,Bool.or_eq_true,Bool.not_eq_true']
 constructor
 ·rintro ⟨⟨⟨⟨h1,h2⟩,h3⟩,h4⟩,h5⟩;exact ⟨h1,h2,h3,h4,fun e=>by rcases h5 with h|h;rw [show neg=true from e] at h;cases h;exact h⟩
 ·rintro ⟨h1,h2,h⟩;exact ⟨⟨⟨⟨h1,h2⟩,h.pos⟩,h.one⟩,by cases hn:neg;exact .inl rfl;exact .inr (h.nz hn)⟩
theorem valQ_ok (neg:Bool) (n d:ByteArray):(valQ neg n d).Ok:=by
 unfold valQ
 split
 ·rename_i h;exact (rightR_iff.1 h).2.2
 ·exact zeroR_ok
theorem valQ_sz {neg:Bool} {n d:ByteArray} {k:Nat} (hk:1≤k) (hn:n.size≤k) (hd:d.size≤k):Rz (valQ neg n d) k:=by
 unfold valQ
 split
 ·exact ⟨(Sz.num n).mono hn,(Sz.num d).mono hd⟩
 ·exact zeroR_sz.mono hk
theorem ratV_right {neg:Bool} {n d:ByteArray} (h:rightR neg n d=true):ratV neg n d=rtV (valQ neg n d):=by
 obtain ⟨h1,h2,-⟩:=rightR_iff.1 h;unfold ratV rtV valQ;rw [if_pos h];simp only [rightN_eq h1,rightN_eq h2]
theorem rightR_of {a:Rt} (h:a.Ok):rightR a.neg (encS a.num) (encS a.den)=true :=
 rightR_iff.2 ⟨right_enc _,right_enc _,by rw [numS_encS,numS_encS];exact h⟩
theorem valQ_of {a:Rt} (h:a.Ok):valQ a.neg (encS a.num) (encS a.den)=a:=by
 unfold valQ;rw [if_pos (rightR_of h),numS_encS,numS_encS]
def iv (neg:Bool) (n:Nat):Int:=if neg then-(n:Int) else n
def Rt.q (a:Rt):Rat:=mkRat (iv a.neg a.num) a.den
theorem iv_natAbs (neg:Bool) (n:Nat):(iv neg n).natAbs=n:=by unfold iv;cases neg<;>simp
theorem Rt.Ok.red {a:Rt} (h:a.Ok):Nat.gcd (iv a.neg a.num).natAbs a.den=1:=by rw [iv_natAbs];exact h.one
theorem Rt.Ok.q_eq {a:Rt} (h:a.Ok):a.q=⟨iv a.neg a.num,a.den,Nat.pos_iff_ne_zero.1 h.pos,h.red⟩:=by
 unfold Rt.q;rw [Rat.mk_eq_mkRat]
theorem Rt.Ok.qnum {a:Rt} (h:a.Ok):a.q.num=iv a.neg a.num:=by rw [h.q_eq]
theorem Rt.Ok.qden {a:Rt} (h:a.Ok):a.q.den=a.den:=by rw [h.q_eq]
theorem q_inj {a b:Rt} (ha:a.Ok) (hb:b.Ok) (h:a.q=b.q):a=b:=by
 have h1:iv a.neg a.num=iv b.neg b.num:=by rw [←ha.qnum, ←hb.qnum,h]
 have h2:a.den=b.den:=by rw [←ha.qden, ←hb.qden,h]
 have h3:a.num=b.num:=by rw [←iv_natAbs a.neg a.num, ←iv_natAbs b.neg b.num,h1]
 refine Rt.ext' ?_ h3 h2;have p1:=ha.nz;have p2:=hb.nz;rw [h3] at h1
 revert h1 p1 p2
 rw [h3];cases a.neg<;>cases b.neg<;>simp [iv]<;>omega
theorem iv_mul (x y:Bool) (m n:Nat):iv x m*iv y n=iv (x != y) (m*n):=by
 cases x<;>cases y<;>simp [iv,Int.neg_mul,Int.mul_neg]
theorem q_low (neg:Bool) {n d:Nat} (hd:0<d):(low neg n d).q=mkRat (iv neg n) d:=by
 have hg:0<Nat.gcd n d:=Nat.gcd_pos_of_pos_right n hd;have e1:n/Nat.gcd n d*Nat.gcd n d=n:=Nat.div_mul_cancel (Nat.gcd_dvd_left n d);have e2:d/Nat.gcd n d*Nat.gcd n d=d:=Nat.div_mul_cancel (Nat.gcd_dvd_right n d);have e3:iv (low neg n d).neg (n/Nat.gcd n d)*((Nat.gcd n d:Nat):Int)=iv neg n:=by
  show iv (neg&&decide (0<n/Nat.gcd n d)) (n/Nat.gcd n d)*_=_
  generalize n/Nat.gcd n d=u at e1 ⊢
  generalize Nat.gcd n d=g at e1 ⊢
  subst e1
  by_cases h0:0<u
  ·cases neg<;>simp [h0,iv,Int.neg_mul]
  ·obtain rfl:u=0:=by omega
   cases neg<;>simp [iv]
 unfold Rt.q;show mkRat (iv (low neg n d).neg (n/Nat.gcd n d)) (d/Nat.gcd n d)=_;rw [←Rat.mkRat_mul_right (a:=Nat.gcd n d) (by omega),e3,e2]
theorem q_zero:zeroR.q=0:=by decide
theorem q_of (n:Int):(ofR n).q=(n:Rat):=by
 unfold Rt.q ofR iv;have:(if decide (n<0)=true then-((n.natAbs:Nat):Int) else (n.natAbs:Nat))=n:=by
  by_cases h:n<0
  ·simp [h];omega
  ·simp [h];omega
 simp only at this ⊢;rw [this,Rat.mkRat_eq_div]
 grind
theorem q_neg (a:Rt):(negR a).q= -a.q:=by
 unfold Rt.q negR;rw [Rat.neg_mkRat]
 congr 1
 unfold iv
 by_cases h:0<a.num
 ·cases a.neg<;>simp [h]
 ·have:a.num=0:=by omega
  cases a.neg<;>simp [this]
theorem q_add {a b:Rt} (ha:a.Ok) (hb:b.Ok):(addR a b).q=a.q+b.q:=by
 have hd:=Nat.mul_pos ha.pos hb.pos;have e:a.q+b.q=mkRat (iv a.neg a.num*b.den+iv b.neg b.num*a.den) (a.den*b.den):=by
  unfold Rt.q;rw [Rat.mkRat_add_mkRat _ _ (by have:=ha.pos;omega) (by have:=hb.pos;omega)]
 rw [e];unfold addR
 split
 ·rename_i h
  rw [q_low _ hd]
  congr 1
  rw [h];unfold iv;cases b.neg<;>simp [Int.neg_mul,Int.neg_add]
 ·rename_i h
  split
  ·rename_i h2
   rw [q_low _ hd]
   congr 1
   revert h
   have e1:((a.num*b.den-b.num*a.den:Nat):Int)=(a.num:Int)*b.den-b.num*a.den:=by rw [Int.ofNat_sub h2];simp
   unfold iv;cases a.neg<;>cases b.neg<;>simp only [reduceCtorEq,not_true_eq_false,not_false_eq_true,if_true,if_false,false_implies,forall_const,Bool.false_eq_true,Int.neg_mul,e1]<;>omega
  ·rename_i h2
   rw [q_low _ hd]
   congr 1
   revert h
   have e1:((b.num*a.den-a.num*b.den:Nat):Int)=(b.num:Int)*a.den-a.num*b.den:=by rw [Int.ofNat_sub (Nat.le_of_lt (Nat.lt_of_not_le h2))];simp
   unfold iv;cases a.neg<;>cases b.neg<;>simp only [reduceCtorEq,not_true_eq_false,not_false_eq_true,if_true,if_false,false_implies,forall_const,Bool.false_eq_true,Int.neg_mul,e1]<;>omega
theorem q_mul {a b:Rt} (ha:a.Ok) (hb:b.Ok):(mulR a b).q=a.q*b.q:=by
 unfold mulR;rw [q_low _ (Nat.mul_pos ha.pos hb.pos)];unfold Rt.q;rw [Rat.mkRat_mul_mkRat,iv_mul]
theorem q_sub {a b:Rt} (ha:a.Ok) (hb:b.Ok):(subR a b).q=a.q-b.q:=by
 unfold subR;rw [q_add ha (negR_ok hb),q_neg,Rat.sub_eq_add_neg]
theorem q_eq_zero {a:Rt} (ha:a.Ok):a.q=0↔a.num=0:=by
 unfold Rt.q;rw [Rat.mkRat_eq_zero (by have:=ha.pos;omega)];unfold iv;cases a.neg<;>simp
theorem q_quo {a b:Rt} (ha:a.Ok) (hb:b.Ok) (h:b.num≠0):(quoR a b).q=a.q/b.q:=by
 have hq:b.q≠0:=fun e=>h ((q_eq_zero hb).1 e)
 have e:(quoR a b).q*b.q=a.q:=by
  unfold quoR;rw [q_low _ (Nat.mul_pos ha.pos (by omega))];unfold Rt.q;rw [Rat.mkRat_mul_mkRat,iv_mul];have:iv (((a.neg != b.neg)) != b.neg) (a.num*b.den*b.num)=iv a.neg a.num*((b.num*b.den:Nat):Int):=by
   unfold iv;cases a.neg<;>cases b.neg<;>simp<;>grind
  rw [this];rw [show a.den*b.num*b.den=a.den*(b.num*b.den) by rw [Nat.mul_assoc]];exact Rat.mkRat_mul_right (by have:=Nat.mul_pos (show 0<b.num by omega) hb.pos;omega)
 rw [←e,Rat.mul_div_cancel hq]
theorem q_sgn {a:Rt} (ha:a.Ok):(sgnR a=0↔a.q=0)∧(sgnR a=1↔0<a.q)∧(sgnR a= -1↔a.q<0):=by
 refine ⟨?_,?_,?_⟩
 ·rw [q_eq_zero ha];unfold sgnR;split
  ·simp_all
  ·split<;>simp_all
 ·rw [Rat.lt_iff,ha.qnum];unfold sgnR iv
  by_cases h:a.num=0
  ·simp [h]
  ·cases a.neg<;>simp [h]<;>omega
 ·rw [Rat.lt_iff,ha.qnum];unfold sgnR iv
  by_cases h:a.num=0
  ·simp [h]
  ·cases a.neg<;>simp [h]<;>omega
theorem sgn_cases (a:Rt):sgnR a=0∨sgnR a=1∨sgnR a= -1:=by
 unfold sgnR;split
 ·exact .inl rfl
 ·split
  ·exact .inr (.inr rfl)
  ·exact .inr (.inl rfl)
def sgQ (x:Rat):Int:=if x=0 then 0 else if x<0 then-1 else 1
theorem sgnR_q {a:Rt} (ha:a.Ok):sgnR a=sgQ a.q:=by
 obtain ⟨h0,h1,h2⟩:=q_sgn ha;unfold sgQ;rcases sgn_cases a with h|h|h
 ·rw [h,if_pos (h0.1 h)]
 ·have:=h1.1 h;rw [h,if_neg (fun e=>by rw [e] at this;exact absurd this Rat.lt_irrefl),if_neg (by grind)]
 ·have:=h2.1 h;rw [h,if_neg (fun e=>by rw [e] at this;exact absurd this Rat.lt_irrefl),if_pos this]
theorem cmpR_q {a b:Rt} (ha:a.Ok) (hb:b.Ok):cmpR a b=sgQ (a.q-b.q):=by
 unfold cmpR;rw [sgnR_q (subR_ok ha hb),q_sub ha hb]
theorem sgQ_pos {x:Rat} (h:0<x):sgQ x=1:=by unfold sgQ;rw [if_neg (by grind),if_neg (by grind)]
theorem sgQ_neg {x:Rat} (h:x<0):sgQ x= -1:=by unfold sgQ;rw [if_neg (by grind),if_pos h]
theorem tri (x:Rat):x=0∨0<x∨x<0:=by grind
theorem sgQ_lt0 {x:Rat}:sgQ x<0↔x<0:=by
 rcases tri x with h|h|h
 ·subst h;exact ⟨fun e=>(by cases e),fun e=>by grind⟩
 ·rw [sgQ_pos h];exact ⟨fun e=>(by omega),fun e=>by grind⟩
 ·rw [sgQ_neg h];exact ⟨fun _=>h,fun _=>by omega⟩
instance:DecidableEq Rt:=fun a b=>if h:a.neg=b.neg∧a.num=b.num∧a.den=b.den then isTrue (Rt.ext' h.1 h.2.1 h.2.2) else isFalse (fun e=>h (by subst e;exact ⟨rfl,rfl,rfl⟩))
def flR (a:Rt):Rt:=ofR a.q.floor
theorem flR_ok (a:Rt):(flR a).Ok:=ofR_ok _
theorem low_one (neg:Bool) (n:Nat):low neg n 1=ofR (iv neg n):=by
 refine q_inj (low_ok _ Nat.one_pos) (ofR_ok _) ?_;rw [q_low _ Nat.one_pos,q_of,Rat.mkRat_eq_div]
 grind
def wholeN (a:Rt):Nat:=if a.neg=true∧a.num%a.den≠0 then a.num/a.den+1 else a.num/a.den
theorem whole_fl {a:Rt} (h:a.Ok):low a.neg (wholeN a) 1=flR a:=by
 rw [low_one];unfold flR
 congr 1
 rw [Rat.floor_def,h.qnum,h.qden];have hp:=h.pos;unfold iv wholeN;cases hn:a.neg
 ·simp
 ·simp only [true_and,if_true]
  by_cases hr:a.num%a.den=0
  ·rw [if_neg (by simpa using hr)];obtain ⟨k,hk⟩:=Nat.dvd_of_mod_eq_zero hr;rw [hk,Nat.mul_div_cancel_left k hp]
   push_cast
   rw [Int.neg_mul_eq_mul_neg];rw [Int.mul_ediv_cancel_left _ (by omega)]
  ·rw [if_pos (by simpa using hr)];have h1:=Nat.div_add_mod a.num a.den;have h2:=Nat.mod_lt a.num hp
   generalize a.num/a.den=u at h1 ⊢
   generalize a.num%a.den=v at h1 h2 hr
   generalize a.den=d at *
   rw [←h1]
   symm
   have e:(-(((d*u+v:Nat)):Int))=((d:Int)-v)+d*(-(u+1:Int)):=by push_cast;grind
   rw [e,Int.add_mul_ediv_left _ _ (by omega),Int.ediv_eq_zero_of_lt (by omega) (by omega)]
   push_cast;omega
def downR (a s:Rt):Rt:=mulR (flR (quoR a s)) s
theorem downR_ok {a s:Rt} (hs:s.Ok):(downR a s).Ok:=mulR_ok (flR_ok _) hs
def ahead (ov:Nat→Rat) (i k:Nat):Prop:=ov k<ov i∨(ov i=ov k∧i<k)
structure Ordd (ov:Nat→Rat) (n:Nat) (s:List Nat):Prop where
 perm:s.Perm (List.range n)
 pw:s.Pairwise (ahead ov)
variable {ov:Nat→Rat} {n:Nat} {s:List Nat}
theorem Ordd.len (h:Ordd ov n s):s.length=n:=by rw [h.perm.length_eq,List.length_range]
theorem Ordd.mem (h:Ordd ov n s) {i:Nat}:i ∈ s↔i<n:=by rw [h.perm.mem_iff,List.mem_range]
theorem Ordd.nodup (h:Ordd ov n s):s.Nodup:=h.perm.nodup_iff.2 List.nodup_range
theorem Ordd.parts (h:Ordd ov n s) (m:Nat):∀a ∈ s.take m,∀b ∈ s.drop m,ahead ov a b:=by
 have hp:=h.pw;rw [←List.take_append_drop m s,List.pairwise_append] at hp;exact hp.2.2
theorem Ordd.best (h:Ordd ov n s) {j b:Nat} (hj:j<s.length) (hb:b<n) (hn:b ∉ s.take j) (hbest:∀i,i<n→i ∉ s.take j→¬ahead ov i b):s[j]=b:=by
 have hm:=h.mem.2 hb;rw [←List.take_append_drop j s,List.mem_append] at hm;rcases hm with hm|hm
 ·exact absurd hm hn
 ·rw [List.drop_eq_getElem_cons hj,List.mem_cons] at hm;rcases hm with hm|hm
  ·exact hm.symm
  ·exfalso
   have hp:=h.pw;rw [←List.take_append_drop (j+1) s,List.pairwise_append] at hp;have hin:s[j] ∈ s.take (j+1):=by rw [List.take_succ_eq_append_getElem hj];exact List.mem_append_right _ (List.mem_singleton.2 rfl)
   refine hbest s[j] (h.mem.1 (List.getElem_mem hj)) (fun hc=> ?_) (hp.2.2 _ hin _ hm);have hd:=h.nodup;rw [←List.take_append_drop j s,List.nodup_append] at hd;exact hd.2.2 _ hc _ (by rw [List.drop_eq_getElem_cons hj];exact List.mem_cons_self) rfl
theorem Ordd.count (h:Ordd ov n s) {m:Nat} (hm:m≤n):(List.range n).countP (fun k=>decide (k ∈ s.take m))=m:=by
 rw [←h.perm.countP_eq];have e:s.countP (fun k=>decide (k ∈ s.take m))=(s.take m).countP (fun k=>decide (k ∈ s.take m))+(s.drop m).countP (fun k=>decide (k ∈ s.take m)):=by
  rw [←List.countP_append,List.take_append_drop]
 rw [e];have h1:(s.take m).countP (fun k=>decide (k ∈ s.take m))=(s.take m).length:=List.countP_eq_length.2 fun a ha=>by simpa using ha
 have h2:(s.drop m).countP (fun k=>decide (k ∈ s.take m))=0:=List.countP_eq_zero.2 fun a ha=>by
  have hd:=h.nodup;rw [←List.take_append_drop m s,List.nodup_append] at hd;simpa using fun hc=>hd.2.2 _ hc _ ha rfl
 rw [h1,h2,List.length_take,h.len];omega
def sumQ (f:Nat→Rat):Nat→Rat
 | 0=>0
 | n+1=>sumQ f n+f n
theorem sumQ_congr {f g:Nat→Rat}:∀{n:Nat},(∀k,k<n→f k=g k)→sumQ f n=sumQ g n
 | 0,_=>rfl
 | n+1,h=>by rw [sumQ,sumQ,sumQ_congr (fun k hk=>h k (by omega)),h n (by omega)]
theorem sumQ_add (f g:Nat→Rat):∀n,sumQ (fun k=>f k+g k) n=sumQ f n+sumQ g n
 | 0=>(Rat.add_zero 0).symm
 | n+1=>by rw [sumQ,sumQ,sumQ,sumQ_add];grind
theorem sumQ_scale (c:Rat) (f:Nat→Rat):∀n,sumQ (fun k=>c*f k) n=c*sumQ f n
 | 0=>by simp [sumQ]
 | n+1=>by rw [sumQ,sumQ,sumQ_scale];grind
theorem sumQ_nonneg {f:Nat→Rat}:∀{n:Nat},(∀k,k<n→0≤f k)→0≤sumQ f n
 | 0,_=>by simp [sumQ]
 | n+1,h=>by have h1:=sumQ_nonneg (n:=n) (fun k hk=>h k (by omega));have h2:=h n (by omega);rw [sumQ];grind
theorem sumQ_le_mem {f:Nat→Rat}:∀{n k:Nat},(∀k,k<n→0≤f k)→k<n→f k≤sumQ f n
 | 0,_,_,h=>by omega
 | n+1,k,h,hk=>by
  have h0:=sumQ_nonneg (n:=n) (fun k hk=>h k (by omega));have h2:=h n (by omega);rw [sumQ]
  by_cases e:k=n
  ·subst e;grind
  ·have:=sumQ_le_mem (n:=n) (k:=k) (fun k hk=>h k (by omega)) (by omega);grind
theorem sumQ_count (p:Nat→Bool):∀n,sumQ (fun k=>if p k then 1 else 0) n=(((List.range n).countP p:Nat):Rat)
 | 0=>by simp [sumQ]
 | n+1=>by
  rw [sumQ,sumQ_count p n,List.range_succ,List.countP_append];cases h:p n<;>simp [h]
  grind
theorem sumQ_lt_count {f:Nat→Rat}:∀{n:Nat},(∀k,k<n→0≤f k∧f k<1)→sumQ f n≤(((List.range n).countP (fun k=>decide (0<f k)):Nat):Rat)
 | 0,_=>by simp [sumQ]
 | n+1,h=>by
  have h1:=sumQ_lt_count (n:=n) (fun k hk=>h k (by omega));have h2:=h n (by omega);rw [sumQ,List.range_succ,List.countP_append]
  by_cases e:0<f n
  ·simp [e];grind
  ·simp [e];grind
theorem nat_le_of_rat {m n:Nat} (h:(m:Rat)≤(n:Rat)):m≤n:=by
 have:=Rat.intCast_le_intCast.1 (show ((m:Int):Rat)≤((n:Int):Rat) from h);omega
theorem rest_le {f:Nat→Rat} {n m:Nat} (h:∀k,k<n→0≤f k∧f k<1) (hm:(m:Rat)=sumQ f n):m≤n:=by
 have h1:=sumQ_lt_count h;rw [←hm] at h1;exact Nat.le_trans (nat_le_of_rat h1) (by have:=List.countP_le_length (p:=fun k=>decide (0<f k)) (l:=List.range n);rwa [List.length_range] at this)
theorem Ordd.pos (h:Ordd ov n s) {m k:Nat} (hf:∀k,k<n→0≤ov k∧ov k<1) (hm:(m:Rat)=sumQ ov n) (hk:k ∈ s.take m):0<ov k:=by
 have hkn:k<n:=h.mem.1 (List.mem_of_mem_take hk)
 by_cases h0:0<ov k
 ·exact h0
 exfalso
 have hmn:=rest_le hf hm;have e0:ov k=0:=by have:=hf k hkn;grind
 have h1:=sumQ_lt_count hf;rw [←hm] at h1;have h2:=nat_le_of_rat h1;rw [←h.perm.countP_eq, ←List.take_append_drop m s,List.countP_append] at h2;have h3:(s.drop m).countP (fun k=>decide (0<ov k))=0:=List.countP_eq_zero.2 fun a ha=>by
  have:=h.parts m k hk a ha;have hb:=hf a (h.mem.1 (List.mem_of_mem_drop ha));unfold ahead at this;simp only [decide_eq_true_eq]
  grind
 have h4:(s.take m).countP (fun k=>decide (0<ov k))<(s.take m).length:=by
  refine Nat.lt_of_le_of_ne List.countP_le_length fun e=> ?_
  have:=List.countP_eq_length.1 e k hk;exact h0 (by simpa using this)
 rw [List.length_take,h.len] at h4;omega
def upR (a s:Rt):Rt:=if downR a s=a then downR a s else addR (downR a s) s
def overR (a s:Rt):Rt:=subR a (downR a s)
def nearR (a s:Rt):Rt:=if 0≤cmpR (addR (overR a s) (overR a s)) s then addR (downR a s) s else downR a s
section
variable {a b s:Rt}
theorem overR_ok (ha:a.Ok) (hs:s.Ok):(overR a s).Ok:=subR_ok ha (downR_ok hs)
theorem num_ne (hs:s.Ok) (h:0<s.q):s.num≠0:=fun e=>by rw [(q_eq_zero hs).2 e] at h;exact absurd h Rat.lt_irrefl
theorem div_mulc {x y:Rat} (h:0<y):x/y*y=x:=Rat.div_mul_cancel (by grind)
end
end Go.Proofs.YtabfjecegpaoaaaGreatDoor
namespace Go.Proofs.YtabfjecegpaoaaaGreatDoor
open Go.Lib
def padD:Nat→Nat→List UInt8
 | 0,_=>[]
 | k+1,r=>padD k (r/10)++[UInt8.ofNat (48+r%10)]
theorem padD_zero:∀k,padD k 0=List.replicate k 48
 | 0=>rfl
 | k+1=>by
  rw [padD,Nat.zero_div,padD_zero k,Nat.zero_mod,show (UInt8.ofNat (48+0))=48 from rfl,List.replicate_succ']
theorem decDigits_pad {q:Nat} (hq:0<q):∀k r,r<10^k→decDigits (q*10^k+r)=decDigits q++padD k r
 | 0,r,h=>by
  have hr:r=0:=by simpa using h
  subst hr;simp [padD]
 | k+1,r,h=>by
  have hp:0<10^k:=Nat.pow_pos (by decide)
  have he:q*10^(k+1)+r=(q*10^k+r/10)*10+r%10:=by
   rw [Nat.pow_succ,Nat.add_mul,Nat.mul_assoc];omega
  have hb:10≤q*10^(k+1)+r:=by
   rw [Nat.pow_succ, ←Nat.mul_assoc]
   have:0<q*10^k:=Nat.mul_pos hq hp
   omega
  rw [decDigits,dif_neg (by omega)]
  rw [show (q*10^(k+1)+r)/10=q*10^k+r/10 from by rw [he];omega,show (q*10^(k+1)+r)%10=r%10 from by rw [he];omega]
  rw [decDigits_pad hq k (r/10) (by rw [Nat.pow_succ] at h;omega),padD,List.append_assoc]
theorem padD_dec:∀k r,r<10^(k+1)→padD (k+1) r=List.replicate (k+1-nDigits r) 48++decDigits r
 | 0,r,h=>by
  have h' :r<10:=by simpa using h
  rw [nDigits_small h',decDigits,dif_pos h',padD,padD,Nat.mod_eq_of_lt h'];rfl
 | k+1,r,h=>by
  rw [padD]
  by_cases h' :r<10
  ·rw [nDigits_small h',decDigits,dif_pos h',Nat.div_eq_of_lt h',padD_zero,Nat.mod_eq_of_lt h'];rfl
  ·rw [padD_dec k (r/10) (by rw [Nat.pow_succ] at h;omega),nDigits_big h',List.append_assoc]
   conv=>rhs;rw [decDigits,dif_neg h']
   rw [show k+1+1-(nDigits (r/10)+1)=k+1-nDigits (r/10) from by omega]
theorem nDigits_le9 {r:Nat} (h:r<1000000000):nDigits r≤9:=by
 by_cases h9:nDigits r≤9
 ·exact h9
 ·exfalso
  have hk:∀k u,10^k≤u→k+1≤nDigits u:=by
   intro k
   induction k with
   | zero=>intro u _;exact nDigits_pos u
   | succ k ih =>
    intro u hu
    rw [Nat.pow_succ] at hu
    have hp:0<10^k:=Nat.pow_pos (by decide)
    rw [nDigits_big (by omega)]
    have:=ih (u/10) (by omega)
    omega
  have hk2:∀k u,u<10^(k+1)→nDigits u≤k+1:=by
   intro k
   induction k with
   | zero=>intro u hu;rw [nDigits_small (by simpa using hu)];exact Nat.le_refl _
   | succ k ih =>
    intro u hu
    by_cases hs:u<10
    ·rw [nDigits_small hs];omega
    ·rw [nDigits_big hs]
     have:=ih (u/10) (by rw [Nat.pow_succ] at hu;omega)
     omega
  exact h9 (hk2 8 r h)
theorem dec_round {n:Nat} (hq:0<n/1000000000):decDigits n=decDigits (n/1000000000)++(List.replicate (9-nDigits (n%1000000000)) 48++decDigits (n%1000000000)):=by
 have h:=decDigits_pad hq 9 (n%1000000000) (Nat.mod_lt _ (by decide))
 rw [padD_dec 8 _ (Nat.mod_lt _ (by decide))] at h
 rw [←h]
 congr 1
 omega
end Go.Proofs.YtabfjecegpaoaaaGreatDoor
namespace Go.Proofs.YtabfjecegpaoaaaGreatDoor
open Go.RowKit Go.Shelf
open Dgt
theorem str_append (a b:List UInt8):(⟨a.toArray⟩:ByteArray)++⟨b.toArray⟩=⟨(a++b).toArray⟩:=by
 apply ByteArray.ext
 simp
def strLen:Value→Nat
 | .string s=>s.size
 | _=>0
theorem nDigits_lt {k:Nat}:∀{u:Nat},u<10^(k+1)→Lib.nDigits u≤k+1:=by
 induction k with
 | zero=>intro u hu;rw [Lib.nDigits_small (by simpa using hu)];exact Nat.le_refl _
 | succ k ih =>
  intro u hu
  by_cases hs:u<10
  ·rw [Lib.nDigits_small hs];omega
  ·rw [Lib.nDigits_big hs];have:=ih (u:=u/10) (by rw [Nat.pow_succ] at hu;omega);omega
theorem dec_size (a:ByteArray):(Lib.decDigits (numS a)).length≤3*a.size+1:=by
 rw [Lib.decDigits_length];refine nDigits_lt ?_;have h:=numS_lt a;have h2:(256:Nat)^a.size≤10^(3*a.size):=by
  rw [Nat.pow_mul];exact Nat.pow_le_pow_left (by decide) _
 have h3:(10:Nat)^(3*a.size)≤10^(3*a.size+1):=Nat.pow_le_pow_right (by decide) (by omega);omega
theorem repeat_zeros (c:Nat):(⟨(Lib.repeatL (⟨#[48]⟩:ByteArray).data.toList c).toArray⟩:ByteArray)=⟨(List.replicate c 48).toArray⟩:=by
 congr 2
 induction c with
 | zero=>rfl
 | succ c ih=>rw [Lib.repeatL,List.replicate_succ,ih];rfl
set_option maxRecDepth 100000 in
theorem Text_any (a:ByteArray) (w:World) (ha:a.size≤100000000) (htab:Lib.TabIs Tryz.prog w "internal/strconv.uint64pow10" .u64 Lib.pow10Tab) :
  Gv 75 #[.string a] w (.string ⟨(Lib.decDigits (numS a)).toArray⟩):=by
 unfold Gv;have OA:=hD (of_any a · (by omega));have HT:=hD (Lib.tabBelow_of_tabIs htab);have hL:=dec_size a;have LA:Hid ((digs 4294967296 (numS a)).length≤1000000000):=hD (Nat.le_trans (len32 a) (by omega));obtain ⟨N,hN⟩:∃N,numS a=N:=⟨_,rfl⟩;rw [hN] at OA LA hL ⊢;obtain ⟨L,hLL⟩:∃L,(Lib.decDigits N).length=L:=⟨_,rfl⟩;have HL9:Hid (L≤300000001):=hD (by omega);have HLL:=hD hLL;clear hN hL hLL ha htab;go_enter Tryz.func75,Tryz.ntmps75;go_wp2_with fail;refine (OA.out _).mono ?_;rintro e w1 ⟨v1,rfl,hl,hb⟩;have H1:=hD hl;have HB:=hD hb;clear hl hb;go_wp2_with fail
 go_loopw [3,4] (fun v s wr=>∃(n:Nat) (o:List UInt8),s=.string ⟨o.toArray⟩∧Hid (Lim wr v (digs 4294967296 n))∧Hid (Lib.decDigits N=Lib.decDigits n++o)∧Hid ((digs 4294967296 n).length≤1000000000)∧Hid (Below w.heap.size w wr)) (fun _ s _=>L-strLen s)
 case atStart=>exact ⟨N,[],rfl,H1,hD (by simp),LA,HB⟩
 case round =>
  obtain ⟨n,o,rfl,HV,HD,HLN,HBW⟩:=hrel;go_wp2_with fail;refine (short_any _ _ 1000000000 _ HV.out HLN.out (by decide) (by decide)).mono ?_;rintro e w2 ⟨v2,rfl,hl,hb⟩;rw [valB_digs (by decide)] at hl ⊢;have H2:=hD hl;have HB2:=hD (HBW.out.trans (hb.mono HBW.out.size));obtain ⟨r,hr⟩:∃r,n%1000000000=r:=⟨_,rfl⟩;have hr9:(r:Int)<1000000000:=by omega
  rw [hr];have HR:=hD hr;clear hl hb hr;go_wp2_with fail;refine (Tryz.strconv_Itoa (r:Int) (by omega) (by omega) _ (HT.out.on HB2.out).here).mono ?_;rintro e w3 ⟨rfl,k,os,rfl⟩;rw [Lib.itoa_nonneg];have HB3:=hD (HB2.out.trans (Lib.below_grow w.heap.size w2 HB2.out.size k os));have H3:=hD (H2.out.up (Lib.below_grow w2.heap.size w2 (Nat.le_refl _) k os));obtain ⟨W3,hW3⟩:∃W3,Sort.grow (w2.drewN k) os=W3:=⟨_,rfl⟩;rw [hW3] at HB3 H3 ⊢;clear hW3;have hnd:Lib.nDigits r≤9:=nDigits_le9 (by omega);have hnl:((Lib.decDigits r).length:Int)=(Lib.nDigits r:Int):=by rw [Lib.decDigits_length]
  obtain ⟨pv,nv,cv,rfl,hnv,-⟩:=H3.out.open_;obtain ⟨d,hd⟩:∃d,Lib.decDigits r=d:=⟨_,rfl⟩;rw [hd] at hnl ⊢;have hol:o.length≤300000001:=by
   have h1:=congrArg List.length HD.out;rw [List.length_append,HLL.out] at h1;have:=HL9.out;omega
  have hdl:(d.length:Int)≤9:=by omega
  have hol' :(o.length:Int)≤300000001:=by omega
  clear hol;have HDD:=hD hd
  by_cases hq:n/1000000000=0
  ·have hrn:r=n:=by have:=HR.out;omega
   have HE:Hid (Lib.decDigits N=d++o):=hD (by rw [HD.out, ←hrn,HDD.out]);rw [hq,digs_zero] at hnv;obtain rfl:nv=0:=hnv;clear hd hnl;go_wp2_with fail;go_ret;exact ⟨by rw [HE.out, ←str_append];rfl,HB3.out⟩
  ·have hq' :0<n/1000000000:=by omega
   have hdr:=dec_round hq';rw [HR.out,HDD.out] at hdr;have hnv0:¬(nv:Int)=0:=by
    intro h0;have:(digs 4294967296 (n/1000000000)).length=0:=by omega
    rw [List.length_eq_zero_iff,digs_eq_nil (by decide)] at this;omega
   have HDR:=hD hdr;obtain ⟨c,hc⟩:∃c:Nat,9-Lib.nDigits r=c:=⟨_,rfl⟩;have hc9:(9:Int)-(d.length:Int)=(c:Int):=by omega
   have HC:=hD hc;clear hd hnl hdr hc hq hq' hnv hnd;have hnvb:((nv:Int)==0)=false:=by simpa using hnv0
   clear hnv0;go_wp2_with fail;refine (Tryz.strings_Repeat ⟨#[48]⟩ c _ (by omega) (by show 1*c≤_;omega)).mono ?_;rintro e w4 ⟨rfl,hb4⟩;rw [repeat_zeros c];have hlr:((List.replicate c (48:UInt8)).length:Int)=(c:Int):=by simp
   have hc9' :(c:Int)≤9:=by omega
   have HB4:=hD (HB3.out.trans (hb4.mono HB3.out.size));have H4:=hD (H3.out.up hb4);have HO:Hid (Lib.decDigits N=Lib.decDigits (n/1000000000)++((List.replicate c 48++d)++o)):=hD (by rw [HD.out,HDR.out,HC.out];simp);obtain ⟨z,hz⟩:∃z,List.replicate c (48:UInt8)=z:=⟨_,rfl⟩;rw [hz] at hlr HO ⊢;have HZ:=hD hz;clear hb4 hz hc9;go_wp2_with fail
   go_roundw
   case rel=>exact ⟨n/1000000000,(z++d)++o,by rw [←str_append, ←str_append],H4,HO,hD (Nat.le_trans (digs_len_mono (by decide) (Nat.div_le_self _ _)) HLN.out),HB4⟩
   case measure =>
    have h1:=congrArg List.length HO.out;rw [List.length_append,HLL.out] at h1;have h2:0<(Lib.decDigits (n/1000000000)).length:=by rw [Lib.decDigits_length];exact Lib.nDigits_pos _
    have h3:0<d.length:=by rw [←HDD.out,Lib.decDigits_length];exact Lib.nDigits_pos _
    rw [List.length_append,List.length_append] at h1;have e1:∀l:List UInt8,strLen (.string ⟨l.toArray⟩)=l.length:=fun l=>rfl
    simp only [str_append,e1,List.length_append];omega
end Go.Proofs.YtabfjecegpaoaaaGreatDoor
