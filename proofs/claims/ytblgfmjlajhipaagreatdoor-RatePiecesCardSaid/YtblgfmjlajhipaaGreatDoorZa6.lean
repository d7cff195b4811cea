/- Contracts that the proofs of this seat share. Each theorem names its conditions. -/

import Derived.Test.YtblgfmjlajhipaaGreatDoorZa5
import Derived.Test.YtblgfmjlajhipaaGreatDoorZa1
set_option maxHeartbeats 16000000
set_option linter.unusedVariables false
namespace Go.Proofs.YtblgfmjlajhipaaGreatDoor
open Go.RowKit Go.Shelf
open Dgt
structure Rt where
 neg:Bool
 num:Nat
 den:Nat
theorem Rt.ext' {a b:Rt} (h1:a.neg=b.neg) (h2:a.num=b.num) (h3:a.den=b.den):a=b:=by
 cases a;cases b;simp_all
structure Rt.Ok (a:Rt):Prop where
 pos:0<a.den
 one:Nat.gcd a.num a.den=1
 nz:a.neg=true→0<a.num
def zeroR:Rt:=⟨false,0,1⟩
theorem zeroR_ok:zeroR.Ok:=⟨by decide,by decide,fun h=>by cases h⟩
def low (neg:Bool) (n d:Nat):Rt:=⟨neg&&decide (0<n/Nat.gcd n d),n/Nat.gcd n d,d/Nat.gcd n d⟩
theorem low_ok (neg:Bool) {n d:Nat} (hd:0<d):(low neg n d).Ok:=by
 have hg:0<Nat.gcd n d:=Nat.gcd_pos_of_pos_right n hd;refine ⟨Nat.div_pos (Nat.le_of_dvd hd (Nat.gcd_dvd_right n d)) hg,?_,fun h=> ?_⟩
 ·show Nat.gcd (n/Nat.gcd n d) (d/Nat.gcd n d)=1;rw [Nat.gcd_div (Nat.gcd_dvd_left n d) (Nat.gcd_dvd_right n d),Nat.div_self hg]
 simp only [low,Bool.and_eq_true,decide_eq_true_eq] at h;exact h.2
theorem low_zero (neg:Bool) {d:Nat} (hd:0<d):low neg 0 d=zeroR:=by
 refine Rt.ext' ?_ ?_ ?_
 ·simp [low,zeroR]
 ·simp [low,zeroR]
 ·simp [low,zeroR,Nat.gcd_zero_left,Nat.div_self hd]
theorem low_num_pos {neg:Bool} {n d:Nat} (hn:0<n):0<n/Nat.gcd n d :=
 Nat.div_pos (Nat.le_of_dvd hn (Nat.gcd_dvd_left n d)) (Nat.gcd_pos_of_pos_left d hn)
theorem Rt.Ok.zero {a:Rt} (h:a.Ok) (h0:a.num=0):a=zeroR:=by
 refine Rt.ext' ?_ h0 ?_
 ·cases hn:a.neg
  ·rfl
  ·have:=h.nz hn;omega
 ·have:=h.one;rw [h0,Nat.gcd_zero_left] at this;exact this
def negR (a:Rt):Rt:=⟨!a.neg&&decide (0<a.num),a.num,a.den⟩
def addR (a b:Rt):Rt :=
 if a.neg=b.neg then low a.neg (a.num*b.den+b.num*a.den) (a.den*b.den)
 else if b.num*a.den≤a.num*b.den then low a.neg (a.num*b.den-b.num*a.den) (a.den*b.den)
 else low b.neg (b.num*a.den-a.num*b.den) (a.den*b.den)
def mulR (a b:Rt):Rt:=low (a.neg != b.neg) (a.num*b.num) (a.den*b.den)
def quoR (a b:Rt):Rt:=low (a.neg != b.neg) (a.num*b.den) (a.den*b.num)
def subR (a b:Rt):Rt:=addR a (negR b)
def sgnR (a:Rt):Int:=if a.num=0 then 0 else if a.neg then-1 else 1
def cmpR (a b:Rt):Int:=sgnR (subR a b)
def ofR (n:Int):Rt:=⟨decide (n<0),n.natAbs,1⟩
theorem negR_ok {a:Rt} (h:a.Ok):(negR a).Ok:=⟨h.pos,h.one,fun e=>by simpa [negR] using (by simpa [negR] using e:a.neg=false∧0<a.num).2⟩
theorem addR_ok {a b:Rt} (ha:a.Ok) (hb:b.Ok):(addR a b).Ok:=by
 have:=Nat.mul_pos ha.pos hb.pos;unfold addR;split
 ·exact low_ok _ this
 ·split<;>exact low_ok _ this
theorem mulR_ok {a b:Rt} (ha:a.Ok) (hb:b.Ok):(mulR a b).Ok:=low_ok _ (Nat.mul_pos ha.pos hb.pos)
theorem quoR_ok {a b:Rt} (ha:a.Ok) (hb:0<b.num):(quoR a b).Ok:=low_ok _ (Nat.mul_pos ha.pos hb)
theorem subR_ok {a b:Rt} (ha:a.Ok) (hb:b.Ok):(subR a b).Ok:=addR_ok ha (negR_ok hb)
theorem ofR_ok (n:Int):(ofR n).Ok:=⟨Nat.one_pos,Nat.gcd_one_right _,fun h=>by simp [ofR] at h;simp [ofR];omega⟩
def Rz (a:Rt) (k:Nat):Prop:=Sz a.num k∧Sz a.den k
theorem Rz.mono {a:Rt} {k j:Nat} (h:Rz a k) (hj:k≤j):Rz a j:=⟨h.1.mono hj,h.2.mono hj⟩
theorem low_sz {neg:Bool} {n d k:Nat} (hn:Sz n k) (hd:Sz d k):Rz (low neg n d) k:=⟨hn.div _,hd.div _⟩
theorem negR_sz {a:Rt} {k:Nat} (h:Rz a k):Rz (negR a) k:=h
theorem addR_sz {a b:Rt} {i j:Nat} (ha:Rz a i) (hb:Rz b j):Rz (addR a b) (i+j+1):=by
 have h1:=ha.1.mul hb.2;have h2:=hb.1.mul ha.2;have h3:=(ha.2.mul hb.2).mono (Nat.le_succ _);rw [Nat.add_comm j i] at h2;unfold addR;split
 ·exact low_sz (h1.add h2) h3
 ·split
  ·exact low_sz ((h1.sub _).mono (Nat.le_succ _)) h3
  ·exact low_sz ((h2.sub _).mono (Nat.le_succ _)) h3
theorem mulR_sz {a b:Rt} {i j:Nat} (ha:Rz a i) (hb:Rz b j):Rz (mulR a b) (i+j):=low_sz (ha.1.mul hb.1) (ha.2.mul hb.2)
theorem quoR_sz {a b:Rt} {i j:Nat} (ha:Rz a i) (hb:Rz b j):Rz (quoR a b) (i+j):=low_sz (ha.1.mul hb.2) (ha.2.mul hb.1)
theorem subR_sz {a b:Rt} {i j:Nat} (ha:Rz a i) (hb:Rz b j):Rz (subR a b) (i+j+1):=addR_sz ha (negR_sz hb)
theorem zeroR_sz:Rz zeroR 1:=⟨by unfold Sz zeroR;decide,by unfold Sz zeroR;decide⟩
theorem ofR_sz {n:Int} (h1: -9223372036854775808≤n) (h2:n≤9223372036854775807):Rz (ofR n) 8:=⟨by unfold Sz ofR;simp only;omega,(show Sz 1 8 by unfold Sz;decide)⟩
def ratV (neg:Bool) (n d:ByteArray):Value:=.agg #[.bool neg,.string n,.string d]
def rtV (a:Rt):Value:=.agg #[.bool a.neg,.string (encS a.num),.string (encS a.den)]
def rightR (neg:Bool) (n d:ByteArray):Bool:=rightN n&&rightN d&&decide (0<numS d)&&decide (Nat.gcd (numS n) (numS d)=1)&&(!neg||decide (0<numS n))
def valQ (neg:Bool) (n d:ByteArray):Rt:=if rightR neg n d=true then ⟨neg,numS n,numS d⟩ else zeroR
theorem rightN_eq {a:ByteArray} (h:rightN a=true):encS (numS a)=a:=by simpa [rightN] using h
theorem rightR_iff {neg:Bool} {n d:ByteArray}:rightR neg n d=true↔(rightN n=true∧rightN d=true∧(⟨neg,numS n,numS d⟩:Rt).Ok):=by
 unfold rightR;simp only [Bool.and_eq_true,decide_eq_true_eq,Bool.or_eq_true,Bool.not_eq_true']
 constructor
 ·rintro ⟨⟨⟨⟨h1,h2⟩,h3⟩,h4⟩,h5⟩;exact ⟨h1,h2,h3,h4,fun e=>by rcases h5 with h|h;rw [show neg=true from e] at h;cases h;exact h⟩
 ·rintro ⟨h1,h2,h⟩;exact ⟨⟨⟨⟨h1,h2⟩,h.pos⟩,h.one⟩,by cases hn:neg;exact .inl rfl;exact .inr (h.nz hn)⟩
theorem valQ_ok (neg:Bool) (n d:ByteArray):(valQ neg n d).Ok:=by
 unfold valQ
 split
 ·rename_i h;exact (rightR_iff.1 h).2.2
 ·exact zeroR_ok
theorem valQ_sz {neg:Bool} {n d:ByteArray} {k:Nat} (hk:1≤k) (hn:n.size≤k) (hd:d.size≤k):Rz (valQ neg n d) k:=by
 unfold valQ
 split
 ·exact ⟨(Sz.num n).mono hn,(Sz.num d).mono hd⟩
 ·exact zeroR_sz.mono hk
theorem ratV_right {neg:Bool} {n d:ByteArray} (h:rightR neg n d=true):ratV neg n d=rtV (valQ neg n d):=by
 obtain ⟨h1,h2,-⟩:=rightR_iff.1 h;unfold ratV rtV valQ;rw [if_pos h];simp only [rightN_eq h1,rightN_eq h2]
theorem rightR_of {a:Rt} (h:a.Ok):rightR a.neg (encS a.num) (encS a.den)=true :=
 rightR_iff.2 ⟨right_enc _,right_enc _,by rw [numS_encS,numS_encS];exact h⟩
theorem valQ_of {a:Rt} (h:a.Ok):valQ a.neg (encS a.num) (encS a.den)=a:=by
 unfold valQ;rw [if_pos (rightR_of h),numS_encS,numS_encS]
def iv (neg:Bool) (n:Nat):Int:=if neg then-(n:Int) else n
def Rt.q (a:Rt):Rat:=mkRat (iv a.neg a.num) a.den
theorem iv_natAbs (neg:Bool) (n:Nat):(iv neg n).natAbs=n:=by unfold iv;cases neg<;>simp
theorem Rt.Ok.red {a:Rt} (h:a.Ok):Nat.gcd (iv a.neg a.num).natAbs a.den=1:=by rw [iv_natAbs];exact h.one
theorem Rt.Ok.q_eq {a:Rt} (h:a.Ok):a.q=⟨iv a.neg a.num,a.den,Nat.pos_iff_ne_zero.1 h.pos,h.red⟩:=by
 unfold Rt.q;rw [Rat.mk_eq_mkRat]
theorem Rt.Ok.qnum {a:Rt} (h:a.Ok):a.q.num=iv a.neg a.num:=by rw [h.q_eq]
theorem Rt.Ok.qden {a:Rt} (h:a.Ok):a.q.den=a.den:=by rw [h.q_eq]
theorem q_inj {a b:Rt} (ha:a.Ok) (hb:b.Ok) (h:a.q=b.q):a=b:=by
 have h1:iv a.neg a.num=iv b.neg b.num:=by rw [←ha.qnum, ←hb.qnum,h]
 have h2:a.den=b.den:=by rw [←ha.qden, ←hb.qden,h]
 have h3:a.num=b.num:=by rw [←iv_natAbs a.neg a.num, ←iv_natAbs b.neg b.num,h1]
 refine Rt.ext' ?_ h3 h2;have p1:=ha.nz;have p2:=hb.nz;rw [h3] at h1
 revert h1 p1 p2
 rw [h3];cases a.neg<;>cases b.neg<;>simp [iv]<;>omega
theorem iv_mul (x y:Bool) (m n:Nat):iv x m*iv y n=iv (x != y) (m*n):=by
 cases x<;>cases y<;>simp [iv,Int.neg_mul,Int.mul_neg]
theorem q_low (neg:Bool) {n d:Nat} (hd:0<d):(low neg n d).q=mkRat (iv neg n) d:=by
 have hg:0<Nat.gcd n d:=Nat.gcd_pos_of_pos_right n hd;have e1:n/Nat.gcd n d*Nat.gcd n d=n:=Nat.div_mul_cancel (Nat.gcd_dvd_left n d);have e2:d/Nat.gcd n d*Nat.gcd n d=d:=Nat.div_mul_cancel (Nat.gcd_dvd_right n d);have e3:iv (low neg n d).neg (n/Nat.gcd n d)*((Nat.gcd n d:Nat):Int)=iv neg n:=by
  show iv (neg&&decide (0<n/Nat.gcd n d)) (n/Nat.gcd n d)*_=_
  generalize n/Nat.gcd n d=u at e1 ⊢
  generalize Nat.gcd n d=g at e1 ⊢
  subst e1
  by_cases h0:0<u
  ·cases neg<;>simp [h0,iv,Int.neg_mul]
  ·obtain rfl:u=0:=by omega
   cases neg<;>simp [iv]
 unfold Rt.q;show mkRat (iv (low neg n d).neg (n/Nat.gcd n d)) (d/Nat.gcd n d)=_;rw [←Rat.mkRat_mul_right (a:=Nat.gcd n d) (by omega),e3,e2]
theorem q_of (n:Int):(ofR n).q=(n:Rat):=by
 unfold Rt.q ofR iv;have:(if decide (n<0)=true then-((n.natAbs:Nat):Int) else (n.natAbs:Nat))=n:=by
  by_cases h:n<0
  ·simp [h];omega
  ·simp [h];omega
 simp only at this ⊢;rw [this,Rat.mkRat_eq_div]
 grind
theorem q_neg (a:Rt):(negR a).q= -a.q:=by
 unfold Rt.q negR;rw [Rat.neg_mkRat]
 congr 1
 unfold iv
 by_cases h:0<a.num
 ·cases a.neg<;>simp [h]
 ·have:a.num=0:=by omega
  cases a.neg<;>simp [this]
theorem q_add {a b:Rt} (ha:a.Ok) (hb:b.Ok):(addR a b).q=a.q+b.q:=by
 have hd:=Nat.mul_pos ha.pos hb.pos;have e:a.q+b.q=mkRat (iv a.neg a.num*b.den+iv b.neg b.num*a.den) (a.den*b.den):=by
  unfold Rt.q;rw [Rat.mkRat_add_mkRat _ _ (by have:=ha.pos;omega) (by have:=hb.pos;omega)]
 rw [e];unfold addR
 split
 ·rename_i h
  rw [q_low _ hd]
  congr 1
  rw [h];unfold iv;cases b.neg<;>simp [Int.neg_mul,Int.neg_add]
 ·rename_i h
  split
  ·rename_i h2
   rw [q_low _ hd]
   congr 1
   revert h
   have e1:((a.num*b.den-b.num*a.den:Nat):Int)=(a.num:Int)*b.den-b.num*a.den:=by rw [Int.ofNat_sub h2];simp
   unfold iv;cases a.neg<;>cases b.neg<;>simp only [reduceCtorEq,not_true_eq_false,not_false_eq_true,if_true,if_false,false_implies,forall_const,Bool.false_eq_true,Int.neg_mul,e1]<;>omega
  ·rename_i h2
   rw [q_low _ hd]
   congr 1
   revert h
   have e1:((b.num*a.den-a.num*b.den:Nat):Int)=(b.num:Int)*a.den-a.num*b.den:=by rw [Int.ofNat_sub (Nat.le_of_lt (Nat.lt_of_not_le h2))];simp
   unfold iv;cases a.neg<;>cases b.neg<;>simp only [reduceCtorEq,not_true_eq_false,not_false_eq_true,if_true,if_false,false_implies,forall_const,Bool.false_eq_true,Int.neg_mul,e1]<;>omega
theorem q_mul {a b:Rt} (ha:a.Ok) (hb:b.Ok):(mulR a b).q=a.q*b.q:=by
 unfold mulR;rw [q_low _ (Nat.mul_pos ha.pos hb.pos)];unfold Rt.q;rw [Rat.mkRat_mul_mkRat,iv_mul]
theorem q_sub {a b:Rt} (ha:a.Ok) (hb:b.Ok):(subR a b).q=a.q-b.q:=by
 unfold subR;rw [q_add ha (negR_ok hb),q_neg,Rat.sub_eq_add_neg]
theorem q_eq_zero {a:Rt} (ha:a.Ok):a.q=0↔a.num=0:=by
 unfold Rt.q;rw [Rat.mkRat_eq_zero (by have:=ha.pos;omega)];unfold iv;cases a.neg<;>simp
theorem q_sgn {a:Rt} (ha:a.Ok):(sgnR a=0↔a.q=0)∧(sgnR a=1↔0<a.q)∧(sgnR a= -1↔a.q<0):=by
 refine ⟨?_,?_,?_⟩
 ·rw [q_eq_zero ha];unfold sgnR;split
  ·simp_all
  ·split<;>simp_all
 ·rw [Rat.lt_iff,ha.qnum];unfold sgnR iv
  by_cases h:a.num=0
  ·simp [h]
  ·cases a.neg<;>simp [h]<;>omega
 ·rw [Rat.lt_iff,ha.qnum];unfold sgnR iv
  by_cases h:a.num=0
  ·simp [h]
  ·cases a.neg<;>simp [h]<;>omega
theorem sgn_cases (a:Rt):sgnR a=0∨sgnR a=1∨sgnR a= -1:=by
 unfold sgnR;split
 ·exact .inl rfl
 ·split
  ·exact .inr (.inr rfl)
  ·exact .inr (.inl rfl)
def sgQ (x:Rat):Int:=if x=0 then 0 else if x<0 then-1 else 1
theorem sgnR_q {a:Rt} (ha:a.Ok):sgnR a=sgQ a.q:=by
 obtain ⟨h0,h1,h2⟩:=q_sgn ha;unfold sgQ;rcases sgn_cases a with h|h|h
 ·rw [h,if_pos (h0.1 h)]
 ·have:=h1.1 h;rw [h,if_neg (fun e=>by rw [e] at this;exact absurd this Rat.lt_irrefl),if_neg (by grind)]
 ·have:=h2.1 h;rw [h,if_neg (fun e=>by rw [e] at this;exact absurd this Rat.lt_irrefl),if_pos this]
theorem cmpR_q {a b:Rt} (ha:a.Ok) (hb:b.Ok):cmpR a b=sgQ (a.q-b.q):=by
 unfold cmpR;rw [sgnR_q (subR_ok ha hb),q_sub ha hb]
theorem sgQ_pos {x:Rat} (h:0<x):sgQ x=1:=by unfold sgQ;rw [if_neg (by grind),if_neg (by grind)]
theorem sgQ_neg {x:Rat} (h:x<0):sgQ x= -1:=by unfold sgQ;rw [if_neg (by grind),if_pos h]
theorem tri (x:Rat):x=0∨0<x∨x<0:=by grind
theorem sgQ_lt0 {x:Rat}:sgQ x<0↔x<0:=by
 rcases tri x with h|h|h
 ·subst h;exact ⟨fun e=>(by cases e),fun e=>by grind⟩
 ·rw [sgQ_pos h];exact ⟨fun e=>(by omega),fun e=>by grind⟩
 ·rw [sgQ_neg h];exact ⟨fun _=>h,fun _=>by omega⟩
theorem sgQ_gt0 {x:Rat}:0<sgQ x↔0<x:=by
 rcases tri x with h|h|h
 ·subst h;exact ⟨fun e=>(by cases e),fun e=>by grind⟩
 ·rw [sgQ_pos h];exact ⟨fun _=>h,fun _=>by omega⟩
 ·rw [sgQ_neg h];exact ⟨fun e=>(by omega),fun e=>by grind⟩
theorem sgQ_ge0 {x:Rat}:0≤sgQ x↔0≤x:=by
 have h:=sgQ_lt0 (x:=x)
 constructor
 ·intro h1;have:¬x<0:=fun e=>by have:=h.2 e;omega
  grind
 ·intro h1;have:¬sgQ x<0:=fun e=>by have:=h.1 e;grind
  omega
instance rtDec:DecidableEq Rt:=fun a b=>if h:a.neg=b.neg∧a.num=b.num∧a.den=b.den then isTrue (Rt.ext' h.1 h.2.1 h.2.2) else isFalse (fun e=>h (by rw [e];exact ⟨rfl,rfl,rfl⟩))
abbrev DR:=Int × Rt
def rateOf (g:List DR) (d:Int):Rt:=g.foldl (fun s e=>if e.1=d then e.2 else s) zeroR
def insD (d:Int):List Int→List Int
 | []=>[d]
 | x::t=>if d<x then d::x::t else if d=x then x::t else x::insD d t
def daysOf (g:List DR):List Int:=g.foldl (fun s e=>insD e.1 s) []
inductive Up:List Int→Prop
 | nil:Up []
 | cons {x:Int} {t:List Int} (h:∀y ∈ t,x<y) (ht:Up t):Up (x::t)
theorem mem_insD {d x:Int}:∀{l:List Int},x ∈ insD d l↔x=d∨x ∈ l
 | []=>by simp [insD]
 | y::t=>by
  unfold insD
  split
  ·simp
  ·split
   ·rename_i h;subst h;simp
   ·have:=mem_insD (d:=d) (x:=x) (l:=t);simp [this];grind
theorem up_insD {d:Int}:∀{l:List Int},Up l→Up (insD d l)
 | [],_=>.cons (by simp) .nil
 | x::t,.cons h ht=>by
  unfold insD
  split
  ·rename_i h1
   exact .cons (fun y hy=>by rcases List.mem_cons.1 hy with rfl|hy;exact h1;have:=h y hy;omega) (.cons h ht)
  ·split
   ·exact .cons h ht
   ·exact .cons (fun y hy=>by rcases mem_insD.1 hy with rfl|hy;omega;exact h y hy) (up_insD ht)
theorem daysAux (g:List DR):∀(s:List Int),Up s→Up (g.foldl (fun s e=>insD e.1 s) s)∧∀x,x ∈ g.foldl (fun s e=>insD e.1 s) s↔x ∈ s∨∃e ∈ g,e.1=x:=by
 induction g with
 | nil=>intro s hs;exact ⟨hs,by simp⟩
 | cons e t ih =>
  intro s hs;obtain ⟨h1,h2⟩:=ih (insD e.1 s) (up_insD hs);refine ⟨h1,fun x=> ?_⟩;rw [List.foldl_cons,h2,mem_insD];simp only [List.mem_cons]
  constructor
  ·rintro ((h|h)|⟨y,h,h3⟩)
   ·exact .inr ⟨e,.inl rfl,h.symm⟩
   ·exact .inl h
   ·exact .inr ⟨y,.inr h,h3⟩
  ·rintro (h|⟨y,rfl|h,h3⟩)
   ·exact .inl (.inr h)
   ·exact .inl (.inl h3.symm)
   ·exact .inr ⟨y,h,h3⟩
theorem days_up (g:List DR):Up (daysOf g):=(daysAux g [] .nil).1
theorem mem_days {g:List DR} {x:Int}:x ∈ daysOf g↔∃e ∈ g,e.1=x:=by
 unfold daysOf;rw [(daysAux g [] .nil).2 x];simp
theorem Up.tail {x:Int} {t:List Int}:Up (x::t)→Up t|.cons _ h=>h
theorem Up.head {x:Int} {t:List Int}:Up (x::t)→∀y ∈ t,x<y|.cons h _=>h
def normL (g:List DR):List Int→Rt→List DR
 | [],_=>[]
 | d::t,last=>if rateOf g d=last then normL g t last else (d,rateOf g d)::normL g t (rateOf g d)
def normG (g:List DR):List DR:=normL g (daysOf g) zeroR
def onL:List DR→Rt→Int→Rt
 | [],last,_=>last
 | e::t,last,day=>if e.1≤day then onL t e.2 day else last
def seqL (g:List DR):List Int→Rt→Int→Rt
 | [],last,_=>last
 | d::t,last,day=>if d≤day then seqL g t (rateOf g d) day else last
theorem mem_normL {g:List DR} {e:DR}:∀{ds:List Int} {last:Rt},e ∈ normL g ds last→e.1 ∈ ds∧e.2=rateOf g e.1
 | [],_,h=>by simp [normL] at h
 | d::t,last,h=>by
  unfold normL at h
  split at h
  ·have:=mem_normL h;exact ⟨List.mem_cons_of_mem _ this.1,this.2⟩
  ·rcases List.mem_cons.1 h with rfl|h
   ·exact ⟨by simp,rfl⟩
   ·have:=mem_normL h;exact ⟨List.mem_cons_of_mem _ this.1,this.2⟩
theorem onL_late:∀{n:List DR} {last:Rt} {day:Int},(∀e ∈ n,day<e.1)→onL n last day=last
 | [],_,_,_=>rfl
 | e::t,last,day,h=>by unfold onL;rw [if_neg (by have:=h e (by simp);omega)]
theorem on_norm (g:List DR) (day:Int):∀{ds:List Int} {last:Rt},Up ds→onL (normL g ds last) last day=seqL g ds last day
 | [],_,_=>rfl
 | d::t,last,hu=>by
  unfold normL seqL
  by_cases hd:d≤day
  ·rw [if_pos hd]
   split
   ·rename_i h;rw [h];exact on_norm g day hu.tail
   ·unfold onL;rw [if_pos hd];exact on_norm g day hu.tail
  ·rw [if_neg hd]
   split
   ·refine onL_late fun e he=> ?_
    have:=hu.head e.1 (mem_normL he).1;omega
   ·unfold onL;rw [if_neg hd]
def onF (g:List DR) (day:Int):DR:=g.foldl (fun s e=>if e.1≤day∧s.1≤e.1 then e else s) (-1,zeroR)
theorem onF_snoc (g:List DR) (e:DR) (day:Int):onF (g++[e]) day=if e.1≤day∧(onF g day).1≤e.1 then e else onF g day:=by
 unfold onF;rw [List.foldl_append];rfl
theorem rateOf_snoc (g:List DR) (e:DR) (d:Int):rateOf (g++[e]) d=if e.1=d then e.2 else rateOf g d:=by
 unfold rateOf;rw [List.foldl_append];rfl
theorem snoc_ind {α:Type} {P:List α→Prop} (h0:P []) (h1:∀l x,P l→P (l++[x])) (l:List α):P l:=by
 have:∀r:List α,P r.reverse:=fun r=>by
  induction r with
  | nil=>exact h0
  | cons x t ih=>rw [List.reverse_cons];exact h1 _ _ ih
 have h:=this l.reverse
 rwa [List.reverse_reverse] at h
theorem onF_spec (g:List DR) (day:Int) (hg:∀e ∈ g,0≤e.1) :
  ((onF g day=(-1,zeroR))∧∀e ∈ g,day<e.1)∨((onF g day).1≤day∧(∃e ∈ g,e.1=(onF g day).1)∧(onF g day).2=rateOf g (onF g day).1∧∀e ∈ g,e.1≤day→e.1≤(onF g day).1):=by
 revert hg
 refine snoc_ind (P:=fun g=>(∀e ∈ g,0≤e.1)→((onF g day=(-1,zeroR))∧∀e ∈ g,day<e.1)∨((onF g day).1≤day∧(∃e ∈ g,e.1=(onF g day).1)∧(onF g day).2=rateOf g (onF g day).1∧∀e ∈ g,e.1≤day→e.1≤(onF g day).1)) ?_ ?_ g
 ·intro _;exact .inl ⟨rfl,by simp⟩
 ·intro l x ih hg;have ih:=ih (fun e he=>hg e (by simp [he]));have hx:=hg x (by simp);rw [onF_snoc]
  by_cases hd:x.1≤day
  ·by_cases hl:(onF l day).1≤x.1
   ·rw [if_pos ⟨hd,hl⟩];refine .inr ⟨hd,⟨x,by simp,rfl⟩,by rw [rateOf_snoc,if_pos rfl],fun e he hed=> ?_⟩;rcases List.mem_append.1 he with he|he
    ·rcases ih with ⟨h1,h2⟩|⟨h1,h2,h3,h4⟩
     ·have:=h2 e he;omega
     ·have:=h4 e he hed;omega
    ·rw [List.mem_singleton.1 he];exact Int.le_refl _
   ·rw [if_neg (fun h=>hl h.2)];rcases ih with ⟨h1,h2⟩|⟨h1,⟨y,h2,h2'⟩,h3,h4⟩
    ·rw [h1] at hl;simp only at hl;omega
    ·refine .inr ⟨h1,⟨y,by simp [h2],h2'⟩,by rw [rateOf_snoc,if_neg (by omega)];exact h3,fun e he hed=> ?_⟩;rcases List.mem_append.1 he with he|he
     ·exact h4 e he hed
     ·rw [List.mem_singleton.1 he];omega
  ·rw [if_neg (fun h=>hd h.1)];rcases ih with ⟨h1,h2⟩|⟨h1,⟨y,h2,h2'⟩,h3,h4⟩
   ·refine .inl ⟨h1,fun e he=> ?_⟩;rcases List.mem_append.1 he with he|he
    ·exact h2 e he
    ·rw [List.mem_singleton.1 he];omega
   ·refine .inr ⟨h1,⟨y,by simp [h2],h2'⟩,by rw [rateOf_snoc,if_neg (by omega)];exact h3,fun e he hed=> ?_⟩;rcases List.mem_append.1 he with he|he
    ·exact h4 e he hed
    ·rw [List.mem_singleton.1 he] at hed;omega
theorem seq_late (g:List DR) {day:Int}:∀{ds:List Int} {last:Rt},(∀d ∈ ds,day<d)→seqL g ds last day=last
 | [],_,_=>rfl
 | d::t,last,h=>by unfold seqL;rw [if_neg (by have:=h d (by simp);omega)]
theorem seq_max (g:List DR) {day M:Int}:∀{ds:List Int} {last:Rt},Up ds→M ∈ ds→M≤day→(∀d ∈ ds,d≤day→d≤M)→seqL g ds last day=rateOf g M
 | [],_,_,h,_,_=>by simp at h
 | d::t,last,hu,hm,hM,h=>by
  unfold seqL;rcases List.mem_cons.1 hm with rfl|hm2
  ·rw [if_pos hM];refine seq_late g fun x hx=> ?_
   have h1:=hu.head x hx;rcases Int.lt_or_le day x with h2|h2
   ·exact h2
   ·have:=h x (List.mem_cons_of_mem _ hx) h2;omega
  ·rw [if_pos (by have:=hu.head M hm2;omega)];exact seq_max g hu.tail hm2 hM (fun x hx=>h x (List.mem_cons_of_mem _ hx))
theorem onF_seq (g:List DR) (day:Int) (hg:∀e ∈ g,0≤e.1):(onF g day).2=seqL g (daysOf g) zeroR day:=by
 rcases onF_spec g day hg with ⟨h1,h2⟩|⟨h1,⟨y,hy,hy2⟩,h3,h4⟩
 ·rw [h1,seq_late g fun d hd=> ?_];obtain ⟨e,he,rfl⟩:=mem_days.1 hd;exact h2 e he
 ·rw [h3,seq_max g (days_up g) (mem_days.2 ⟨y,hy,hy2⟩) h1 fun d hd hdd=> ?_];obtain ⟨e,he,rfl⟩:=mem_days.1 hd;exact h4 e he hdd
theorem on_eq (g:List DR) (day:Int) (hg:∀e ∈ g,0≤e.1):onL (normG g) zeroR day=(onF g day).2:=by
 rw [onF_seq g day hg];exact on_norm g day (days_up g)
inductive Chg:List DR→Rt→Int→Prop
 | nil {last:Rt} {d:Int}:Chg [] last d
 | cons {e:DR} {t:List DR} {last:Rt} {d:Int} (h1:d<e.1) (h2:e.2≠last) (h3:Chg t e.2 e.1):Chg (e::t) last d
theorem norm_chg (g:List DR):∀{ds:List Int} {last:Rt} {d:Int},Up ds→(∀x ∈ ds,d<x)→Chg (normL g ds last) last d
 | [],_,_,_,_=>.nil
 | x::t,last,d,hu,h=>by
  unfold normL
  split
  ·exact norm_chg g hu.tail (fun y hy=>h y (List.mem_cons_of_mem _ hy))
  ·rename_i hne
   exact .cons (h x (by simp)) hne (norm_chg g hu.tail hu.head)
theorem Chg.lt {n:List DR} {last:Rt} {d:Int} (h:Chg n last d):∀e ∈ n,d<e.1:=by
 induction h with
 | nil=>simp
 | cons h1 _ _ ih=>intro x hx;rcases List.mem_cons.1 hx with rfl|hx;exact h1;have:=ih x hx;omega
theorem days_pos {g:List DR} {lo:Int} (hg:∀e ∈ g,lo≤e.1):∀x ∈ daysOf g,lo-1<x:=fun x hx=>by
 obtain ⟨e,he,rfl⟩:=mem_days.1 hx;have:=hg e he;omega
theorem normG_chg (g:List DR) (hg:∀e ∈ g,0≤e.1):Chg (normG g) zeroR (-1):=norm_chg g (days_up g) (fun x hx=>by have:=days_pos hg x hx;omega)
def overF (n:List DR) (fr to:Int):Rat :=
 match n with
 | []=>0
 | e::t=>(let hi:=(match t with|[]=>to|e2::_=>min to e2.1);let lo:=max e.1 fr;if lo<hi then e.2.q*((hi-lo:Int):Rat) else 0)+overF t fr to
def sumF (f:Nat→Rat):Nat→Rat
 | 0=>0
 | n+1=>sumF f n+f n
theorem sumF_s (f:Nat→Rat) (n:Nat):sumF f (n+1)=sumF f n+f n:=rfl
theorem sumF_0 (f:Nat→Rat):sumF f 0=0:=rfl
theorem sumF_congr {f g:Nat→Rat}:∀{n:Nat},(∀k,k<n→f k=g k)→sumF f n=sumF g n
 | 0,_=>rfl
 | n+1,h=>by rw [sumF_s,sumF_s,sumF_congr (fun k hk=>h k (by omega)),h n (by omega)]
theorem sumF_cut {f:Nat→Rat} {m:Nat}:∀{n:Nat},m≤n→(∀k,m≤k→k<n→f k=0)→sumF f n=sumF f m
 | 0,h,_=>by rw [show m=0 by omega]
 | n+1,h,hz=>by
  by_cases e:m=n+1
  ·rw [e]
  ·rw [sumF_s,sumF_cut (by omega) (fun k h1 h2=>hz k h1 (by omega)),hz n (by omega) (by omega),Rat.add_zero]
theorem sumF_le {f g:Nat→Rat}:∀{n:Nat},(∀k,k<n→f k≤g k)→sumF f n≤sumF g n
 | 0,_=>Rat.le_refl
 | n+1,h=>by
  rw [sumF_s,sumF_s];have h1:=sumF_le (n:=n) (fun k hk=>h k (by omega));have h2:=h n (by omega)
  grind
def posQ (x:Rat):Rat:=if x<0 then 0 else x
theorem posQ_of {x:Rat} (h:0≤x):posQ x=x:=by unfold posQ;split<;>grind
theorem posQ_zero {x:Rat} (h:x≤0):posQ x=0:=by unfold posQ;split<;>grind
theorem posQ_mono {x y:Rat} (h:x≤y):posQ x≤posQ y:=by unfold posQ;split<;>split<;>grind
section
variable {F R:Nat→Rat} {n:Nat} {x y:Rat}
def endQ (F:Nat→Rat) (n k:Nat) (x:Rat):Rat:=if k+1<n∧F (k+1)<x then F (k+1) else x
def partQ (F:Nat→Rat) (n k:Nat) (x:Rat):Rat:=posQ (endQ F n k x-F k)
def valF (F R:Nat→Rat) (n:Nat) (x:Rat):Rat:=sumF (fun k=>R k*partQ F n k x) n
def begF (F R:Nat→Rat) (j:Nat):Rat:=sumF (fun k=>(F (k+1)-F k)*R k) j
def Inc (F:Nat→Rat) (n:Nat):Prop:=∀k,k+1<n→F k<F (k+1)
theorem Inc.lt (h:Inc F n) {i:Nat}:∀{j:Nat},i<j→j<n→F i<F j
 | 0,h1,_=>by omega
 | j+1,h1,h2=>by
  by_cases e:i=j
  ·rw [e];exact h j h2
  ·have:=h.lt (i:=i) (j:=j) (by omega) (by omega);have:=h j h2;grind
theorem Inc.le (h:Inc F n) {i j:Nat} (h1:i≤j) (h2:j<n):F i≤F j:=by
 by_cases e:i=j
 ·rw [e];exact Rat.le_refl
 ·have:=h.lt (i:=i) (j:=j) (by omega) h2;grind
theorem part_zero (h:Inc F n) {k:Nat} (hk:k<n) (hx:x≤F k):partQ F n k x=0:=by
 unfold partQ endQ
 split
 ·rename_i h2;have:=h.le (i:=k) (j:=k+1) (by omega) h2.1;grind
 ·exact posQ_zero (by grind)
theorem part_full (h:Inc F n) {k:Nat} (hk:k+1<n) (hx:F (k+1)≤x):partQ F n k x=F (k+1)-F k:=by
 unfold partQ endQ;have:=h k hk
 split
 ·exact posQ_of (by grind)
 ·rename_i h2;have:x=F (k+1):=by grind
  rw [this];exact posQ_of (by grind)
theorem part_in {k:Nat} (h1:F k≤x) (h2:k+1<n→x≤F (k+1)):partQ F n k x=x-F k:=by
 unfold partQ endQ;rw [if_neg (by intro h;have:=h2 h.1;grind)];exact posQ_of (by grind)
theorem val_at (h:Inc F n) {j:Nat} (hj:j<n) (h1:F j≤x) (h2:j+1<n→x≤F (j+1)):valF F R n x=begF F R j+R j*(x-F j):=by
 unfold valF begF;rw [sumF_cut (m:=j+1) (by omega) (fun k hk hkn=>by
  have e:j+1<n:=by omega
  have:=h2 e;have:=h.le (i:=j+1) (j:=k) hk hkn;rw [part_zero h hkn (by grind)];grind)]
 show sumF _ j+R j*partQ F n j x=_;rw [part_in h1 h2]
 congr 1
 refine sumF_congr fun k hk=> ?_
 have:=h.le (i:=k+1) (j:=j) (by omega) hj;rw [part_full h (by omega) (by grind)];grind
theorem val_low (h:Inc F n) (hx:0<n→x≤F 0):valF F R n x=0:=by
 unfold valF;rw [sumF_cut (m:=0) (by omega) (fun k _ hk=>by
  have:=hx (by omega);have:=h.le (i:=0) (j:=k) (by omega) hk;rw [part_zero h hk (by grind)];grind)]
 rfl
theorem val_beg (h:Inc F n) {j:Nat} (hj:j<n):valF F R n (F j)=begF F R j:=by
 rw [val_at h hj Rat.le_refl (fun e=>by have:=h j e;grind)];grind
def cntF (F:Nat→Rat) (x:Rat):Nat→Nat
 | 0=>0
 | n+1=>if F n≤x then n+1 else cntF F x n
theorem cnt_le:∀{n:Nat},cntF F x n≤n
 | 0=>Nat.le_refl _
 | n+1=>by
  have h:=@cnt_le n;unfold cntF;split
  ·exact Nat.le_refl _
  ·omega
theorem cnt_at:∀{n:Nat},0<cntF F x n→F (cntF F x n-1)≤x
 | 0,h=>absurd h (by unfold cntF;omega)
 | n+1,h=>by
  unfold cntF at h ⊢
  split
  ·rename_i h2;exact h2
  ·rename_i h2;rw [if_neg h2] at h;exact cnt_at h
theorem cnt_above:∀{n k:Nat},cntF F x n≤k→k<n→x<F k
 | 0,k,_,h=>absurd h (by omega)
 | n+1,k,h1,h2=>by
  unfold cntF at h1
  split at h1
  ·omega
  ·rename_i h3
   by_cases e:k=n
   ·rw [e];grind
   ·exact cnt_above h1 (by omega)
theorem cnt_unique (h:Inc F n) {i:Nat} (hi:i≤n) (h1:∀k,k<i→F k≤x) (h2:∀k,i≤k→k<n→x<F k):i=cntF F x n:=by
 rcases Nat.lt_trichotomy i (cntF F x n) with h3|h3|h3
 ·have a:=cnt_at (F:=F) (x:=x) (n:=n) (by omega);have b:=h2 (cntF F x n-1) (by omega) (by have:=cnt_le (F:=F) (x:=x) (n:=n);omega)
  grind
 ·exact h3
 ·have a:=cnt_above (F:=F) (x:=x) (n:=n) (k:=cntF F x n) (Nat.le_refl _) (by omega);have b:=h1 _ h3
  grind
theorem val_cnt (h:Inc F n) (hc:0<cntF F x n):valF F R n x=begF F R (cntF F x n-1)+R (cntF F x n-1)*(x-F (cntF F x n-1)):=by
 have:=cnt_le (F:=F) (x:=x) (n:=n);refine val_at h (by omega) (cnt_at hc) (fun e=> ?_);have:=cnt_above (F:=F) (x:=x) (n:=n) (k:=cntF F x n-1+1) (by omega) e
 grind
theorem val_cnt0 (h:Inc F n) (hc:cntF F x n=0):valF F R n x=0 :=
 val_low h (fun hn=>by have:=cnt_above (F:=F) (x:=x) (n:=n) (k:=0) (by omega) hn;grind)
theorem part_mono (h:x≤y) (k:Nat):partQ F n k x≤partQ F n k y:=by
 unfold partQ;refine posQ_mono ?_;unfold endQ
 split<;>split<;>grind
theorem val_mono (h:Inc F n) (hn:0<n) (hr:∀k,k<n→0≤R k) (hxy:x≤y):valF F R n x≤valF F R n y:=by
 unfold valF;refine sumF_le fun k hk=> ?_
 have h1:=part_mono (F:=F) (n:=n) hxy k;have h2:=hr k hk;have:=Rat.mul_nonneg h2 (show 0≤partQ F n k y-partQ F n k x by grind)
 grind
theorem beg_mono (h:Inc F n) (hr:∀k,k<n→0≤R k) {i j:Nat} (hij:i≤j) (hj:j<n):begF F R i≤begF F R j:=by
 rw [←val_beg h (by omega), ←val_beg h hj];exact val_mono h (by omega) hr (h.le hij hj)
structure Kth (F R:Nat→Rat) (n:Nat) (y:Rat) (K:Nat):Prop where
 lt:K<n
 below:begF F R K<y
 above:K+1<n→y≤begF F R (K+1)
end
structure Gd (D:Nat) (B:Rat) (x:Rat):Prop where
 int:∃z:Int,x*D=z
 lo: -B≤x
 hi:x≤B
section
variable {D E:Nat} {B C x y:Rat}
theorem natc (m n:Nat):((m*n:Nat):Rat)=(m:Rat)*n:=by rw [Rat.natCast_mul]
theorem Gd.add (h:Gd D B x) (k:Gd D C y):Gd D (B+C) (x+y):=by
 obtain ⟨z,hz⟩:=h.int;obtain ⟨u,hu⟩:=k.int;have:=h.lo;have:=h.hi;have:=k.lo;have:=k.hi;refine ⟨⟨z+u,by rw [Rat.intCast_add];grind⟩,by grind,by grind⟩
theorem Gd.neg (h:Gd D B x):Gd D B (-x):=by
 obtain ⟨z,hz⟩:=h.int;have:=h.lo;have:=h.hi;refine ⟨⟨-z,by rw [Rat.intCast_neg];grind⟩,by grind,by grind⟩
theorem Gd.sub (h:Gd D B x) (k:Gd D C y):Gd D (B+C) (x-y):=by rw [Rat.sub_eq_add_neg];exact h.add k.neg
theorem Gd.mul (h:Gd D B x) (k:Gd E C y):Gd (D*E) (B*C) (x*y):=by
 obtain ⟨z,hz⟩:=h.int;obtain ⟨u,hu⟩:=k.int;have h1:=h.lo;have h2:=h.hi;have k1:=k.lo;have k2:=k.hi;have p1:=Rat.mul_nonneg (show 0≤B-x by grind) (show 0≤C-y by grind);have p2:=Rat.mul_nonneg (show 0≤B+x by grind) (show 0≤C+y by grind);have p3:=Rat.mul_nonneg (show 0≤B-x by grind) (show 0≤C+y by grind);have p4:=Rat.mul_nonneg (show 0≤B+x by grind) (show 0≤C-y by grind);refine ⟨⟨z*u,by rw [Rat.intCast_mul,natc];grind⟩,by grind,by grind⟩
theorem Gd.of (n:Int) (h1: -B≤n) (h2:(n:Rat)≤B):Gd 1 B (n:Rat):=⟨⟨n,by grind⟩,h1,h2⟩
theorem Gd.zero (D:Nat) (h:0≤B):Gd D B 0:=⟨⟨0,by grind⟩,by grind,by grind⟩
end
end Go.Proofs.YtblgfmjlajhipaaGreatDoor
namespace Go.Proofs.YtblgfmjlajhipaaGreatDoor
open Go Go.RowKit
def wpTail (P:Program) (ops:Array Oper) (Q:Exit→Act→World→Prop):Nat→Nat→Act→World→Prop
 | 0,_,a,w=>Q .normal a w
 | n+1,i,a,w=>wpOp P ops Q i (fun a' w' =>wpTail P ops Q n (i+1) a' w') a w
def tailB (ops:Array Oper) (L:Nat):Bool:=(List.range ops.size).all fun m=>decide (m<L)||needB ops m
theorem all_before {ops:Array Oper} {i:Nat} {o:Oper} {listed:Array Bool} (hneed:needB ops i=true) (ho:ops[i]? =some o) (hall:∀e ∈ o.after,Region.binds .any e=true→listed.getD e.on false=true)
  (hcl:∀j o,ops[j]? =some o→listed.getD j false=true→∀e ∈ o.after,Region.binds .any e=true→listed.getD e.on false=true):∀j,j<i→listed.getD j false=true:=by
 have key:∀d m,m+d=i→m<i→listed.getD m false=true:=by
  intro d
  induction d using Nat.strongRecOn with
  | _ d ih =>
   intro m hm hmi
   have h1:=List.all_eq_true.1 hneed m (by simp;omega)
   obtain ⟨k,hk,h2⟩:=List.any_eq_true.1 h1
   simp only [List.mem_range] at hk
   simp only [Bool.and_eq_true,decide_eq_true_eq] at h2
   obtain ⟨hmk,h3⟩:=h2
   cases hok:ops[k]? with
   | none=>rw [hok] at h3;simp at h3
   | some ok =>
    rw [hok] at h3
    obtain ⟨e,he,h4⟩:=Array.any_eq_true'.1 (show (ok.after.any fun e=>decide (e.on=m)&&Region.binds .any e)=true from h3)
    simp only [Bool.and_eq_true,decide_eq_true_eq] at h4
    by_cases hki:k=i
    ·subst hki
     rw [ho] at hok
     obtain rfl:=Option.some.inj hok
     have:=hall e he h4.2
     rwa [h4.1] at this
    ·have:=hcl k ok hok (ih (i-k) (by omega) k (by omega) (by omega)) e he h4.2
     rwa [h4.1] at this
 exact fun j hj=>key (i-j) j (by omega) hj
theorem dst_extract (ops:Array Oper) (L j:Nat) (hj:j<L) (hL:L≤ops.size):dstOf (ops.extract 0 L) j=dstOf ops j:=by
 unfold dstOf
 rw [Array.getElem?_extract,if_pos (by rw [Nat.min_eq_left hL];omega),Nat.zero_add]
section
variable {P:Program} {ops:Array Oper} {Q:Exit→Act→World→Prop} {T0:Array Value} {S:Array Bool→Nat→Value→World→Prop} {R:Array Bool→World→Prop}
theorem RSt.put_one {listed:Array Bool} {a:Act} {w w' :World} {i:Nat} {o:Oper} {v:Value} (hsl:slotsB ops T0.size=true) (hI:RSt ops T0 S R listed a w) (ho:ops[i]? =some o) (hun' :listed.getD i false=false) (hall:∀e ∈ o.after,Region.binds .any e=true→listed.getD e.on false=true)
  (hS:S (listed.setIfInBounds i true) i (gives o.dst v) w') (hR:R (listed.setIfInBounds i true) w') (hkeep:∀j u,j≠i→listed.getD j false=true→S listed j u w→S (listed.setIfInBounds i true) j u w'):RSt ops T0 S R (listed.setIfInBounds i true) (a.put o.dst v) w' :=by
 have hio:i<ops.size:=(Array.getElem?_eq_some_iff.1 ho).1
 have hdo:dstOf ops i=o.dst:=by simp [dstOf,ho]
 refine ⟨by simpa using hI.lsize,by rw [put_size];exact hI.size,by rw [put_defers];exact hI.defers,fun t ht=> ?_,fun j hj=> ?_,hR,fun j oj hoj hj e he hb=> ?_⟩
 ·have hne:o.dst≠some t:=fun e=>by
   have:=ht i (hdo.trans e)
   simp [hI.lsize,hio] at this
  have hb:=hI.base t (fun j hj=>by
   by_cases hji:j=i
   ·subst hji;exact hun'
   ·have:=ht j hj
    rwa [getD_set_ne false (Ne.symm hji)] at this)
  cases hd:o.dst with
  | none=>simpa [Act.put] using hb
  | some d =>
   show (a.tmps.setIfInBounds d v).getD t undef=_
   rw [getD_set,if_neg (fun h=>hne (by rw [hd,h.1]))]
   exact hb
 ·by_cases hji:j=i
  ·subst hji
   have e:inSlot (a.put o.dst v) (dstOf ops j)=gives o.dst v:=by
    rw [hdo]
    cases hd:o.dst with
    | none=>rfl
    | some d =>
     show (a.tmps.setIfInBounds d v).getD d undef=v
     rw [getD_set,if_pos ⟨rfl,by rw [hI.size];exact slots_lt hsl (hdo.trans hd)⟩]
   rw [e];exact hS
  ·have hj' :listed.getD j false=true:=by rwa [getD_set_ne false (Ne.symm hji)] at hj
   have e:inSlot (a.put o.dst v) (dstOf ops j)=inSlot a (dstOf ops j):=by
    cases hdj:dstOf ops j with
    | none=>rfl
    | some c =>
     cases hd:o.dst with
     | none=>rfl
     | some d =>
      show (a.tmps.setIfInBounds d v).getD c undef=_
      rw [getD_set,if_neg (fun h=>hji (slots_ne hsl hdj (by rw [hdo,hd,h.1])))]
      rfl
   rw [e]
   exact hkeep j _ hji hj' (hI.vals j hj')
 ·by_cases hji:j=i
  ·subst hji
   rw [ho] at hoj
   obtain rfl:=Option.some.inj hoj
   exact getD_set_true (hall e he hb)
  ·have hj' :listed.getD j false=true:=by rwa [getD_set_ne false (Ne.symm hji)] at hj
   exact getD_set_true (hI.closed j oj hoj hj' e he hb)
theorem RSt.frame {listed:Array Bool} {a:Act} {w:World} {L:Nat} {b:Nat→Bool} (hL:L≤ops.size) (hsl:slotsB (ops.extract 0 L) T0.size=true) (hov:overB (ops.extract 0 L) T0.size b=true) (hI:RSt ops T0 S R listed a w) (hun:∀j,L≤j→listed.getD j false=false) :
  a={ tmps:=(over b (fun d=>a.tmps.getD d undef) 0 T0.toList).toArray,defers:=[] }:=by
 rw [←fill_over hsl hov]
 have hT:a.tmps=fill (ops.extract 0 L) (fun d=>a.tmps.getD d undef) (ops.extract 0 L).size T0:=by
  refine arr_ext (by rw [fill_size];exact hI.size) fun t=> ?_
  rw [fill_get _ _ T0 (fun j d h=>slots_lt hsl h) t]
  split
  ·rfl
  ·rename_i hno
   exact hI.base t fun j hj=>by
    rcases Nat.lt_or_ge j L with h|h
    ·have h2:=(dst_extract ops L j h hL).trans hj
     exact absurd ⟨j,dstOf_lt h2,h2⟩ hno
    ·exact hun j h
 obtain ⟨tm,df⟩:=a
 have hd:df=[]:=hI.defers
 subst hd
 rw [←hT]
end
section
variable {P:Program} {ops:Array Oper} {Q:Exit→Act→World→Prop} {T0:Array Value}
theorem wpTl {id:Nat} {w:World} (hm:P.follows .mixedOrders=true) (S:Nat→Value→World→Prop) (L:Nat) (b:Nat→Bool) (hL:L≤ops.size) (hov:overB (ops.extract 0 L) T0.size b=true) (hsl:slotsB ops T0.size=true) (hsl' :slotsB (ops.extract 0 L) T0.size=true) (hbk:backR ops=true) (htl:tailB ops L=true)
  (hup:∀j v w w',Below w.heap.size w w' →S j v w→S j v w')
  (hstep:∀i,i<L→∀o listed a w',RAt ops T0 (fun j v w=>j<L→S j v w) w i o listed a w' →
   ∀K:Act→World→Prop,(∀v w'',S i (gives o.dst v) w'' →Below w'.heap.size w' w'' →K (a.put o.dst v) w'')→wpOp P ops Q i K a w')
  (htail:∀(s:Nat→Value) w',(∀j,j<L→S j (match dstOf ops j with|some d=>s d|none=>undef) w')→Below w.heap.size w w' →wpTail P ops Q (ops.size-L) L { tmps:=(over b s 0 T0.toList).toArray,defers:=[] } w') :
  (Code.region id ops true).wp P Q { tmps:=T0,defers:=[] } w:=by
 have hnd:∀m,L≤m→m<ops.size→needB ops m=true:=fun m h1 h2=>by
  have:=List.all_eq_true.1 htl m (by simpa using h2)
  simp only [Bool.or_eq_true,decide_eq_true_eq] at this
  rcases this with h|h
  ·omega
  ·exact h
 have hfin:∀listed a w',RSt ops T0 (fun _ j v w=>j<L→S j v w) (fun _ w' =>Below w.heap.size w w') listed a w' →(∀j,L≤j→listed.getD j false=false)→(∀j,j<L→listed.getD j false=true)→wpTail P ops Q (ops.size-L) L a w' :=by
  intro listed a w' hI hun hall
  rw [hI.frame hL hsl' hov hun]
  refine htail _ w' (fun j hj=> ?_) hI.glob
  have:=hI.vals j (hall j hj) hj
  cases hd:dstOf ops j with
  | none=>rw [hd] at this;exact this
  | some d=>rw [hd] at this;exact this
 refine wp_region_inv (fun listed a w' =>(RSt ops T0 (fun _ j v w=>j<L→S j v w) (fun _ w' =>Below w.heap.size w w') listed a w' ∧∀j,L≤j→listed.getD j false=false) ∨
  (∃m,L<m∧m≤ops.size∧listed.size=ops.size∧(∀j,j<ops.size→listed.getD j false=decide (j<m))∧wpTail P ops Q (ops.size-m) m a w')) hm ?_ ?_ ?_
 ·exact .inl ⟨⟨by simp,rfl,rfl,fun _ _=>rfl,fun j hj=>(by rw [getD_falses] at hj;cases hj),(Below.refl _ _).drew,fun j o _ hj=>by rw [getD_falses] at hj;cases hj⟩,fun j _=>getD_falses _ _⟩
 ·rintro listed a w' hI i o ho hun hall
  have hio:i<ops.size:=(Array.getElem?_eq_some_iff.1 ho).1
  have hun' :listed.getD i false=false:=by
   rcases Nat.lt_or_ge i listed.size with h' |h'
   ·simp [h'] at hun ⊢;exact hun
   ·simp [Array.getElem?_eq_none h'] at hun
  have hset:∀m,listed.size=ops.size→(∀j,j<ops.size→listed.getD j false=decide (j<m))→i=m→∀j,j<ops.size→(listed.setIfInBounds i true).getD j false=decide (j<m+1):=by
   intro m hls hj him j hjs
   subst him
   by_cases hji:j=i
   ·subst hji;simp [hls,hio]
   ·rw [getD_set_ne false (Ne.symm hji),hj j hjs]
    simp;omega
  rcases hI with ⟨hI,hL'⟩|⟨m,hm1,hm2,hls,hlst,htl'⟩
  ·by_cases hiL:i<L
   ·refine hstep i hiL o listed a w' ⟨ho,hall,fun t ht=>hI.base t (fun j hj=>absurd hj (free_ne ht)),hI.vals,hI.glob,hun',hI.closed,hI.base⟩ _ fun v w'' h1 h2=>.inl ⟨?_,fun j hj=>(getD_set_ne false (by omega)).trans (hL' j hj)⟩
    exact hI.put_one hsl ho hun' hall (fun _=>h1) (hI.glob.trans (h2.mono hI.glob.size)) fun j u _ _ hS hj=>hup j u w' w'' h2 (hS hj)
   ·have hb:=all_before (hnd i (by omega) hio) ho hall hI.closed
    have hiL:i=L:=by
     rcases Nat.lt_or_ge L i with h|h
     ·have:=hb L h
      rw [hL' L (Nat.le_refl _)] at this;cases this
     ·omega
    subst hiL
    have h:=hfin listed a w' hI hL' hb
    rw [show ops.size-i=(ops.size-(i+1))+1 by omega] at h
    refine wpOp_mono (fun a' w'' h=>.inr ⟨i+1,by omega,by omega,by simpa using hI.lsize,hset i hI.lsize (fun j hj=> ?_) rfl,h⟩) h
    by_cases hji:j<i
    ·rw [hb j hji];simp [hji]
    ·rw [hL' j (by omega)];simp [hji]
  ·have him:i=m:=by
    have h1:=hlst i hio
    rw [hun'] at h1
    have h2:¬i<m:=by simpa using h1.symm
    rcases Nat.lt_or_ge m i with h|h
    ·have:=all_before (hnd i (by omega) hio) ho hall (fun j o ho' hj e he hb=>by
      have hjs:j<ops.size:=(Array.getElem?_eq_some_iff.1 ho').1
      have h3:=List.all_eq_true.1 hbk j (by simpa using hjs)
      rw [ho'] at h3
      have h4:=Array.all_eq_true'.1 (show (o.after.all fun e=> !Region.binds .any e||decide (e.on<j))=true from h3) e he
      rw [hb] at h4
      have h5:e.on<j:=by simpa using h4
      have h6:=hlst j hjs
      rw [hj] at h6
      have h7:j<m:=by simpa using h6.symm
      rw [hlst e.on (by omega)];simp;omega) m h
     rw [hlst m (by omega)] at this
     simp at this
    ·omega
   subst him
   have h:=htl'
   rw [show ops.size-i=(ops.size-(i+1))+1 by omega] at h
   exact wpOp_mono (fun a' w'' h=>.inr ⟨i+1,by omega,by omega,by simpa using hls,hset i hls hlst rfl,h⟩) h
 ·rintro listed a w' hI hr
  have hback:∀j o,ops[j]? =some o→∀e ∈ o.after,Region.binds .any e=true→e.on<j:=fun j o ho e he hb=>by
   have h1:=List.all_eq_true.1 hbk j (by simpa using (Array.getElem?_eq_some_iff.1 ho).1)
   rw [ho] at h1
   have h2:=Array.all_eq_true'.1 (show (o.after.all fun e=> !Region.binds .any e||decide (e.on<j))=true from h1) e he
   rw [hb] at h2
   simpa using h2
  rcases hI with ⟨hI,hL'⟩|⟨m,hm1,hm2,hls,hlst,htl'⟩
  ·have hup:∀j,j<ops.size→listed.getD j false=true:=fun j hj=>by
    have:=all_up hI.lsize hback hr j hj
    have hs:j<listed.size:=by rw [hI.lsize];exact hj
    simpa [hs] using this
   have hLs:L=ops.size:=by
    rcases Nat.lt_or_ge L ops.size with h|h
    ·have:=hup L h
     rw [hL' L (Nat.le_refl _)] at this;cases this
    ·omega
   have h:=hfin listed a w' hI hL' (fun j hj=>hup j (by omega))
   rw [hLs,Nat.sub_self] at h
   exact h
  ·have hms:m=ops.size:=by
    rcases Nat.lt_or_ge m ops.size with h|h
    ·have:=all_up hls hback hr m h
     have hs:m<listed.size:=by rw [hls];exact h
     have h2:=hlst m h
     simp [hs] at this h2
     rw [this] at h2;cases h2
    ·omega
   rw [hms,Nat.sub_self] at htl'
   exact htl'
theorem tail_step {n i:Nat} {o:Oper} {a:Act} {w:World} (ho:ops[i]? =some o) (hg:o.guard=none) (h:Oper.wp P o a w (fun a' w' =>wpTail P ops Q n (i+1) a' w') Q):wpTail P ops Q (n+1) i a w:=pStp ho hg h
end
end Go.Proofs.YtblgfmjlajhipaaGreatDoor
