/- Contracts that the proofs of this seat share. Each theorem names its conditions. -/
import Derived.Below
set_option maxHeartbeats 16000000
set_option linter.unusedVariables false
namespace Go.Proofs.YtblgfmjlajhipaaGreatDoor.Dgt
def valB (B:Nat):List Nat→Nat
 | []=>0
 | x::l=>x+B*valB B l
def okB (B:Nat) (l:List Nat):Prop:=∀x ∈ l,x<B
theorem okB.tail {B x:Nat} {l:List Nat} (h:okB B (x::l)):okB B l:=fun y hy=>h y (by simp [hy])
theorem okB.take {B:Nat} {l:List Nat} (h:okB B l) (k:Nat):okB B (l.take k):=fun y hy=>h y (List.mem_of_mem_take hy)
theorem okB.drop {B:Nat} {l:List Nat} (h:okB B l) (k:Nat):okB B (l.drop k):=fun y hy=>h y (List.mem_of_mem_drop hy)
theorem okB.append {B:Nat} {a b:List Nat} (ha:okB B a) (hb:okB B b):okB B (a++b):=fun y hy=>(List.mem_append.1 hy).elim (ha y) (hb y)
theorem okB.get {B:Nat} {l:List Nat} (h:okB B l) {i:Nat} (hi:i<l.length):l[i]<B:=h _ (List.getElem_mem hi)
theorem okB.set {B:Nat} {l:List Nat} (h:okB B l) {i x:Nat} (hx:x<B):okB B (l.set i x):=fun y hy=>by
 rcases List.mem_or_eq_of_mem_set hy with h1|rfl
 ·exact h y h1
 ·exact hx
theorem okB_nil (B:Nat):okB B []:=fun _ h=>by cases h
theorem valB_append (B:Nat):∀a b:List Nat,valB B (a++b)=valB B a+B^a.length*valB B b
 | [],b=>by simp [valB]
 | x::a,b=>by
  show x+B*valB B (a++b)=x+B*valB B a+B^(a.length+1)*valB B b
  rw [valB_append B a b,Nat.mul_add,Nat.pow_succ,Nat.mul_comm (B^a.length) B,Nat.mul_assoc,Nat.add_assoc]
theorem valB_snoc (B:Nat) (a:List Nat) (x:Nat):valB B (a++[x])=valB B a+B^a.length*x:=by
 rw [valB_append];simp [valB]
theorem valB_one (B x:Nat):valB B [x]=x:=by simp [valB]
theorem valB_zeros (B n:Nat):valB B (List.replicate n 0)=0:=by
 induction n with
 | zero=>rfl
 | succ n ih=>rw [List.replicate_succ,valB,ih];simp
theorem valB_lt {B:Nat}:∀{l:List Nat},okB B l→valB B l<B^l.length
 | [],_=>by simp [valB]
 | x::l,h=>by
  have hx:=h x (by simp)
  have hl:=valB_lt h.tail
  show x+B*valB B l<B^(l.length+1)
  rw [Nat.pow_succ,Nat.mul_comm (B^l.length) B]
  have:B*(valB B l+1)≤B*B^l.length:=Nat.mul_le_mul_left B hl
  rw [Nat.mul_add] at this
  omega
theorem valB_take_succ {B:Nat} {l:List Nat} {k:Nat} (h:k<l.length):valB B (l.take (k+1))=valB B (l.take k)+B^k*l[k]:=by
 rw [List.take_succ_eq_append_getElem h,valB_snoc,List.length_take,Nat.min_eq_left (Nat.le_of_lt h)]
theorem valB_split (B:Nat) (l:List Nat) (k:Nat):valB B l=valB B (l.take k)+B^(min k l.length)*valB B (l.drop k):=by
 conv=>lhs;rw [←List.take_append_drop k l]
 rw [valB_append,List.length_take]
theorem valB_set {B:Nat}:∀{l:List Nat} {k:Nat} (x:Nat) (h:k<l.length),valB B (l.set k x)+B^k*l[k]=valB B l+B^k*x
 | y::l,0,x,h=>by simp [valB];omega
 | y::l,k+1,x,h=>by
  have ih:=valB_set (B:=B) (l:=l) (k:=k) x (by simpa using h)
  have e:∀z:Nat,B^(k+1)*z=B*(B^k*z):=fun z=>by rw [Nat.pow_succ,Nat.mul_comm (B^k) B,Nat.mul_assoc]
  simp only [List.set_cons_succ,valB,List.getElem_cons_succ,e]
  have:=congrArg (B* ·) ih
  simp only [Nat.mul_add] at this
  omega
def digs (B n:Nat):List Nat:=if h:n=0∨B<2 then [] else n%B::digs B (n/B)
termination_by n
decreasing_by exact Nat.div_lt_self (by omega) (by omega)
theorem digs_zero (B:Nat):digs B 0=[]:=by rw [digs];simp
theorem digs_pos {B n:Nat} (hB:2≤B) (hn:0<n):digs B n=n%B::digs B (n/B):=by rw [digs];rw [dif_neg (by omega)]
theorem valB_digs {B:Nat} (hB:2≤B) (n:Nat):valB B (digs B n)=n:=by
 induction n using Nat.strongRecOn with
 | _ n ih =>
  rcases Nat.eq_zero_or_pos n with rfl|hn
  ·rw [digs_zero];rfl
  ·rw [digs_pos hB hn,valB,ih _ (Nat.div_lt_self hn (by omega)),Nat.mod_add_div]
theorem okB_digs {B:Nat} (hB:2≤B) (n:Nat):okB B (digs B n):=by
 induction n using Nat.strongRecOn with
 | _ n ih =>
  rcases Nat.eq_zero_or_pos n with rfl|hn
  ·rw [digs_zero];exact okB_nil B
  ·rw [digs_pos hB hn]
   intro x hx
   rcases List.mem_cons.1 hx with rfl|hx
   ·exact Nat.mod_lt _ (by omega)
   ·exact ih _ (Nat.div_lt_self hn (by omega)) x hx
def nzL (l:List Nat):Prop:=∀h:l≠[],l.getLast h≠0
theorem nzL_nil:nzL []:=fun h=>absurd rfl h
theorem nzL_cons {x:Nat} {l:List Nat} (h:nzL l) (h0:l=[]→x≠0):nzL (x::l):=fun hne=>by
 cases l with
 | nil=>simpa using h0 rfl
 | cons y r=>simpa [List.getLast_cons] using h (by simp)
theorem nzL.tail {x:Nat} {l:List Nat} (h:nzL (x::l)):nzL l:=fun hne=>by
 have:=h (by simp)
 rwa [List.getLast_cons hne] at this
theorem digs_eq_nil {B n:Nat} (hB:2≤B):digs B n=[]↔n=0:=by
 constructor
 ·intro h
  have:=valB_digs hB n
  rw [h] at this
  exact this.symm
 ·rintro rfl;exact digs_zero B
theorem nzL_digs {B:Nat} (hB:2≤B) (n:Nat):nzL (digs B n):=by
 induction n using Nat.strongRecOn with
 | _ n ih =>
  rcases Nat.eq_zero_or_pos n with rfl|hn
  ·rw [digs_zero];exact nzL_nil
  ·rw [digs_pos hB hn]
   refine nzL_cons (ih _ (Nat.div_lt_self hn (by omega))) fun h=> ?_
   have hq:=(digs_eq_nil hB).1 h
   have:n<B:=by
    rcases Nat.lt_or_ge n B with h|h
    ·exact h
    ·have:=Nat.div_pos h (by omega);omega
   rw [Nat.mod_eq_of_lt this];omega
theorem digs_valB {B:Nat} (hB:2≤B):∀{l:List Nat},okB B l→nzL l→digs B (valB B l)=l
 | [],_,_=>digs_zero B
 | x::l,ho,hz=>by
  have ih:=digs_valB hB ho.tail hz.tail
  have hx:=ho x (by simp)
  have hpos:0<valB B (x::l):=by
   show 0<x+B*valB B l
   cases l with
   | nil =>
    have:=hz (by simp);simp at this;simp [valB];omega
   | cons y r =>
    have:0<valB B (y::r):=by
     rcases Nat.eq_zero_or_pos (valB B (y::r)) with h|h
     ·rw [h,digs_zero] at ih;cases ih
     ·exact h
    have:=Nat.mul_pos (show 0<B by omega) this
    omega
  rw [digs_pos hB hpos]
  have e1:valB B (x::l)%B=x:=by
   show (x+B*valB B l)%B=x
   rw [Nat.add_mul_mod_self_left,Nat.mod_eq_of_lt hx]
  have e2:valB B (x::l)/B=valB B l:=by
   show (x+B*valB B l)/B=valB B l
   rw [Nat.add_mul_div_left _ _ (by omega),Nat.div_eq_of_lt hx,Nat.zero_add]
  rw [e1,e2,ih]
theorem valB_inj {B:Nat}:∀{a b:List Nat},okB B a→okB B b→a.length=b.length→valB B a=valB B b→a=b
 | [],[],_,_,_,_=>rfl
 | x::a,y::b,ha,hb,hl,hv=>by
  have hx:=ha x (by simp)
  have hy:=hb y (by simp)
  have hv' :x+B*valB B a=y+B*valB B b:=hv
  have e:x=y:=by
   have:=congrArg (· %B) hv'
   simp only [Nat.add_mul_mod_self_left,Nat.mod_eq_of_lt hx,Nat.mod_eq_of_lt hy] at this
   exact this
  subst e
  have hm:B*valB B a=B*valB B b:=by omega
  have:=Nat.eq_of_mul_eq_mul_left (by omega) hm
  rw [valB_inj ha.tail hb.tail (by simpa using hl) this]
def trimL (B:Nat) (l:List Nat):List Nat:=digs B (valB B l)
theorem trimL_zero {B:Nat} (l:List Nat):trimL B (l++[0])=trimL B l:=by
 unfold trimL;rw [valB_snoc];simp
theorem trimL_self {B:Nat} (hB:2≤B) {l:List Nat} (ho:okB B l) (hz:nzL l):trimL B l=l:=digs_valB hB ho hz
theorem digs_len_le {B:Nat} (hB:2≤B) {n k:Nat} (h:n<B^k):(digs B n).length≤k:=by
 induction k generalizing n with
 | zero =>
  have:n=0:=by simp at h;exact h
  subst this;simp [digs_zero]
 | succ k ih =>
  rcases Nat.eq_zero_or_pos n with rfl|hn
  ·simp [digs_zero]
  ·rw [digs_pos hB hn]
   have:n/B<B^k:=by
    rw [Nat.div_lt_iff_lt_mul (by omega)]
    rwa [Nat.pow_succ] at h
   have:=ih this
   simp;omega
theorem digs_lt {B:Nat} (hB:2≤B) (n:Nat):n<B^(digs B n).length:=by
 have:=valB_lt (okB_digs hB n)
 rwa [valB_digs hB] at this
theorem digs_ge {B:Nat} (hB:2≤B) {n:Nat} (hn:0<n):B^((digs B n).length-1)≤n:=by
 induction n using Nat.strongRecOn with
 | _ n ih =>
  rw [digs_pos hB hn]
  rcases Nat.eq_zero_or_pos (n/B) with h|h
  ·rw [h,digs_zero];simp;omega
  ·have i:=ih _ (Nat.div_lt_self hn (by omega)) h
   have hl:(digs B (n/B)).length≠0:=fun e=>by
    have:=List.eq_nil_of_length_eq_zero e
    rw [digs_eq_nil hB] at this;omega
   have e:(n%B::digs B (n/B)).length-1=((digs B (n/B)).length-1)+1:=by simp;omega
   rw [e,Nat.pow_succ]
   exact Nat.le_trans (Nat.mul_le_mul_right B i) (Nat.div_mul_le_self n B)
theorem digs_len_mono {B:Nat} (hB:2≤B) {m n:Nat} (h:m≤n):(digs B m).length≤(digs B n).length :=
 digs_len_le hB (Nat.lt_of_le_of_lt h (digs_lt hB n))
theorem trimL_len {B:Nat} (hB:2≤B) {l:List Nat} (ho:okB B l):(trimL B l).length≤l.length:=digs_len_le hB (valB_lt ho)
theorem digs_len_add {B:Nat} (hB:2≤B) (m n:Nat):(digs B (m+n)).length≤max (digs B m).length (digs B n).length+1:=by
 apply digs_len_le hB
 have h1:=digs_lt hB m;have h2:=digs_lt hB n
 have h3:B^(digs B m).length≤B^max (digs B m).length (digs B n).length:=Nat.pow_le_pow_right (by omega) (Nat.le_max_left _ _)
 have h4:B^(digs B n).length≤B^max (digs B m).length (digs B n).length:=Nat.pow_le_pow_right (by omega) (Nat.le_max_right _ _)
 rw [Nat.pow_succ]
 have:B^max (digs B m).length (digs B n).length*2≤B^max (digs B m).length (digs B n).length*B:=Nat.mul_le_mul_left _ hB
 omega
theorem digs_len_mul {B:Nat} (hB:2≤B) (m n:Nat):(digs B (m*n)).length≤(digs B m).length+(digs B n).length:=by
 apply digs_len_le hB
 rw [Nat.pow_add]
 have h1:=digs_lt hB m;have h2:=digs_lt hB n
 exact Nat.lt_of_le_of_lt (Nat.mul_le_mul_right n (Nat.le_of_lt h1)) (Nat.mul_lt_mul_of_pos_left h2 (Nat.pow_pos (by omega)))
def fixd (B:Nat):Nat→Nat→List Nat
 | 0,_=>[]
 | k+1,n=>n%B::fixd B k (n/B)
theorem fixd_len (B:Nat):∀k n,(fixd B k n).length=k
 | 0,_=>rfl
 | k+1,n=>by simp [fixd,fixd_len]
theorem fixd_ok {B:Nat} (hB:2≤B):∀k n,okB B (fixd B k n)
 | 0,_=>okB_nil B
 | k+1,n=>by
  intro x hx
  rcases List.mem_cons.1 hx with rfl|hx
  ·exact Nat.mod_lt _ (by omega)
  ·exact fixd_ok hB k (n/B) x hx
theorem valB_fixd {B:Nat}:∀k n,n<B^k→valB B (fixd B k n)=n
 | 0,n,h=>by simp at h;simp [fixd,valB,h]
 | k+1,n,h=>by
  have:n/B<B^k:=by
   rcases Nat.eq_zero_or_pos B with rfl|hb
   ·simp at h
   ·rw [Nat.div_lt_iff_lt_mul hb];rwa [Nat.pow_succ] at h
  rw [fixd,valB,valB_fixd k _ this,Nat.mod_add_div]
theorem fixd_get (B:Nat):∀k n i (h:i<(fixd B k n).length),(fixd B k n)[i]=n/B^i%B
 | 0,n,i,h=>absurd h (by simp [fixd])
 | k+1,n,0,h=>by simp [fixd]
 | k+1,n,i+1,h=>by
  simp only [fixd,List.getElem_cons_succ]
  rw [fixd_get B k (n/B) i (by simpa [fixd] using h),Nat.div_div_eq_div_mul,Nat.pow_succ,Nat.mul_comm B]
theorem fixd_of {B:Nat} (hB:2≤B) {l:List Nat} (ho:okB B l):l=fixd B l.length (valB B l) :=
 valB_inj ho (fixd_ok hB _ _) (fixd_len _ _ _).symm (valB_fixd _ _ (valB_lt ho)).symm
theorem trimL_fixd {B:Nat} {k n:Nat} (h:n<B^k):trimL B (fixd B k n)=digs B n:=by unfold trimL;rw [valB_fixd k n h]
theorem get_of_val {B:Nat} {l:List Nat} (ho:okB B l) {i:Nat} (hi:i<l.length):valB B l/B^i%B=l[i]:=by
 have h:=valB_split B l i
 rw [Nat.min_eq_left (Nat.le_of_lt hi)] at h
 have hB:0<B:=by have:=ho.get hi;omega
 have h1:valB B (l.take i)<B^i:=by
  have:=valB_lt (ho.take i)
  rwa [List.length_take,Nat.min_eq_left (Nat.le_of_lt hi)] at this
 rw [h,Nat.add_mul_div_left _ _ (Nat.pow_pos hB),Nat.div_eq_of_lt h1,Nat.zero_add,List.drop_eq_getElem_cons hi,valB,Nat.add_mul_mod_self_left,Nat.mod_eq_of_lt (ho.get hi)]
end Go.Proofs.YtblgfmjlajhipaaGreatDoor.Dgt
