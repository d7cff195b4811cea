/- Contracts that the proofs of this seat share. Each theorem names its conditions. -/
import Derived.RangeFuncKeeps
import Derived.Test.YtabfjecegpaoaaaGreatDoorZb5
import Derived.Test.YtabfjecegpaoaaaGreatDoorZb6
import Derived.Test.YtabfjecegpaoaaaGreatDoorZb8
import Derived.Test.YtabfjecegpaoaaaGreatDoorZc1
import Derived.Test.YtabfjecegpaoaaaGreatDoorZb2
import Derived.Test.YtabfjecegpaoaaaGreatDoorZb1
set_option maxHeartbeats 16000000
set_option linter.unusedVariables false
namespace Go.Proofs.YtabfjecegpaoaaaGreatDoor
open Go.RowKit Go.Shelf
open Dgt
def inJ (x:Int):Prop:= -9223372036854775808≤x∧x≤9223372036854775807
def ArgT (W:World) (v:Value):Prop:=∃p len cap,v=.slice p len cap∧len≤9223372036854775807 ∧
 ∀i,i<len→∃g off x y z,p=some ⟨g,off,none⟩∧g<W.heap.size∧inJ x∧inJ y∧inJ z∧W.cell? ⟨g,off+i*3,none⟩=some (.int .i64 x)∧W.cell? ⟨g,off+i*3+1,none⟩=some (.int .i64 y)∧W.cell? ⟨g,off+i*3+2,none⟩=some (.int .i64 z)
theorem ArgT.up {A W:World} {v:Value} (h:ArgT A v) (hb:Below A.heap.size A W):ArgT W v:=by
 obtain ⟨p,len,cap,h1,h2,h3⟩:=h;refine ⟨p,len,cap,h1,h2,fun i hi=> ?_⟩;obtain ⟨g,off,x,y,z,e1,e2,e3,e4,e5,e6,e7,e8⟩:=h3 i hi;exact ⟨g,off,x,y,z,e1,Nat.lt_of_lt_of_le e2 hb.size,e3,e4,e5,by rw [clU hb e2];exact e6,by rw [clU hb e2];exact e7,by rw [clU hb e2];exact e8⟩
def cells3 (l:List Rw):List Value:=l.flatMap fun s=>[.bool s.neg,.string s.n,.string s.d]
theorem cells3_len (l:List Rw):(cells3 l).length=l.length*3:=by
 induction l with
 | nil=>rfl
 | cons s l ih=>simp only [cells3,List.flatMap_cons,List.length_append,List.length_cons,List.length_nil] at ih ⊢;omega
theorem cells3_append (a b:List Rw):cells3 (a++b)=cells3 a++cells3 b:=by simp [cells3]
theorem cells3_at:∀(l:List Rw) (i:Nat) (h:i<l.length),(cells3 l)[i*3]? =some (.bool l[i].neg)∧(cells3 l)[i*3+1]? =some (.string l[i].n)∧(cells3 l)[i*3+2]? =some (.string l[i].d)
 | s::l,0,_=>by simp [cells3]
 | s::l,i+1,h=>by
  have e:cells3 (s::l)=.bool s.neg::.string s.n::.string s.d::cells3 l:=by simp [cells3]
  have ih:=cells3_at l i (by simpa using h);rw [e,show (i+1)*3=i*3+1+1+1 by omega];simpa using ih
theorem infoRat:(Tryz.prog.info? 26).map (fun i=>(i.zero,i.size,i.bytes))=some (some (.agg #[.bool false,.string ⟨#[]⟩,.string ⟨#[]⟩]),3,40):=by kernel_rfl
theorem own_lstR {W:World} {base:Nat} {e:TypeId} {v:Value} {l:List Rw} (h:W.ownsRow base e 3 v l.length (cells3 l)) (hl:l.length≤1000):LstR W v l:=by
 rcases h.2 with ⟨rfl,h0⟩|⟨g,cap,cur,rfl,hg,hgh,hnc,hcm,hcs,hct⟩
 ·exact .inl ⟨rfl,List.eq_nil_of_length_eq_zero h0⟩
 ·refine .inr ⟨g,0,cap,rfl,(Array.getElem?_eq_some_iff.1 hgh).1,hl,fun i hi=> ?_⟩;have hat:=cells3_at l i hi;have key:∀j x,(cells3 l)[j]? =some x→W.cell? ⟨g,0+j,none⟩=some x:=fun j x hx=>by
   rw [←hct,List.getElem?_take] at hx
   split at hx
   ·rw [Nat.zero_add,Lib.cell_of_heap hgh];rw [←Array.getElem?_toList];exact hx
   ·cases hx
  exact ⟨key _ _ hat.1,key _ _ hat.2.1,key _ _ hat.2.2⟩
def zr0:Rt:=⟨false,0,0⟩
theorem zr0_row:[Value.bool zr0.neg,.string (encS zr0.num),.string (encS zr0.den)]=[.bool false,.string ⟨#[]⟩,.string ⟨#[]⟩]:=by
 unfold zr0;rw [encS_zero]
theorem cel_zero:∀k,cel (List.replicate k zr0)=(List.replicate k [Value.bool false,.string ⟨#[]⟩,.string ⟨#[]⟩]).flatten
 | 0=>rfl
 | k+1=>by rw [List.replicate_succ,cel_cons,zr0_row,cel_zero k,List.replicate_succ,List.flatten_cons]
theorem infoQuota:(Tryz.prog.info? 69).map (fun i=>(i.zero,i.size,i.bytes))=some (some (.agg #[.bool false,.string ⟨#[]⟩,.string ⟨#[]⟩,.bool false,.string ⟨#[]⟩,.string ⟨#[]⟩]),6,80):=by kernel_rfl
theorem made_rep (z:List Value) (hz:0<z.length) (m:Nat):madeCells z.toArray (m*z.length)=(List.replicate m z).flatten.toArray:=by
 apply Array.ext'
 unfold madeCells;rw [Array.toList_map,Array.toList_range];show (List.range (m*z.length)).map (fun i=>z.toArray[i%z.length]!)=_;have h0:(List.range z.length).map (fun j=>z.toArray[j%z.length]!)=z:=by
  apply List.ext_getElem
  ·simp
  ·intro k h1 h2;rw [List.getElem_map,List.getElem_range,Nat.mod_eq_of_lt h2];rw [getElem!_pos z.toArray k (by simpa using h2)];simp
 induction m with
 | zero=>simp
 | succ m ih =>
  rw [Nat.succ_mul,List.range_add,List.map_append,List.map_map,ih,List.replicate_succ',List.flatten_append,List.flatten_singleton];have h1:(List.range z.length).map ((fun i=>z.toArray[i%z.length]!)∘fun x=>m*z.length+x)=(List.range z.length).map (fun j=>z.toArray[j%z.length]!):=by
   apply List.map_congr_left
   intro j hj;show z.toArray[(m*z.length+j)%z.length]! =_;rw [Nat.mul_comm,Nat.mul_add_mod]
  rw [h1,h0]
theorem made_six (n:Nat):madeCells #[.bool false,.string ⟨#[]⟩,.string ⟨#[]⟩,.bool false,.string ⟨#[]⟩,.string ⟨#[]⟩] (n*6)=(cel (List.replicate (2*n) zr0)).toArray:=by
 have h:=made_rep [.bool false,.string ⟨#[]⟩,.string ⟨#[]⟩] (by decide) (2*n);have h2:=made_rep [.bool false,.string ⟨#[]⟩,.string ⟨#[]⟩,.bool false,.string ⟨#[]⟩,.string ⟨#[]⟩] (by decide) n;rw [cel_zero];refine h2.trans ?_
 congr 1
 induction n with
 | zero=>rfl
 | succ n ih=>rw [List.replicate_succ,List.flatten_cons,ih (made_rep _ (by decide) _) (made_rep _ (by decide) _),show 2*(n+1)=2*n+1+1 by omega,List.replicate_succ,List.replicate_succ,List.flatten_cons,List.flatten_cons];rfl
theorem made_three (n:Nat):madeCells #[.bool false,.string ⟨#[]⟩,.string ⟨#[]⟩] (n*3)=(cel (List.replicate n zr0)).toArray:=by
 rw [cel_zero];exact made_rep [.bool false,.string ⟨#[]⟩,.string ⟨#[]⟩] (by decide) n
theorem mk_quotas (n:Nat) (hn:n≤20) (W:World):(Instr.makeSlice 67 (.int .i64 (n:Int)) (.int .i64 (n:Int))).run Tryz.prog W =
  .ok (.slice (some ⟨W.heap.size,0,none⟩) n n) (W.alloc (.cells (cel (List.replicate (2*n) zr0)).toArray 69)):=by
 obtain ⟨i,hi,hzz⟩:=Option.map_eq_some_iff.1 infoQuota;simp only [Prod.mk.injEq] at hzz;obtain ⟨hz,hs,hb⟩:=hzz;have hr:=run_make (P:=Tryz.prog) W 67 69 i _ Tryz.underlying67 hi hz .i64 .i64 n n (by omega) (Int.le_refl _) (by rw [hb];omega) (by omega);simp only [Int.toNat_natCast,hs] at hr;rw [hr, ←made_six n];rfl
theorem mk_rats (n:Nat) (hn:n≤20) (W:World):(Instr.makeSlice 32 (.int .i64 (n:Int)) (.int .i64 (n:Int))).run Tryz.prog W =
  .ok (.slice (some ⟨W.heap.size,0,none⟩) n n) (W.alloc (.cells (cel (List.replicate n zr0)).toArray 26)):=by
 obtain ⟨i,hi,hzz⟩:=Option.map_eq_some_iff.1 infoRat;simp only [Prod.mk.injEq] at hzz;obtain ⟨hz,hs,hb⟩:=hzz;have hr:=run_make (P:=Tryz.prog) W 32 26 i _ Tryz.underlying32 hi hz .i64 .i64 n n (by omega) (Int.le_refl _) (by rw [hb];omega) (by omega);simp only [Int.toNat_natCast,hs] at hr;rw [hr, ←made_three n];rfl
def prs (f g:Nat→Rt) (n:Nat):List Rt:=(List.range n).flatMap fun i=>[f i,g i]
def lsf (f:Nat→Rt) (n:Nat):List Rt:=(List.range n).map f
def upd (f:Nat→Rt) (k:Nat) (x:Rt) (i:Nat):Rt:=if i=k then x else f i
theorem prs_succ (f g:Nat→Rt) (n:Nat):prs f g (n+1)=prs f g n++[f n,g n]:=by unfold prs;rw [List.range_succ,List.flatMap_append];rfl
theorem prs_len (f g:Nat→Rt):∀n,(prs f g n).length=2*n
 | 0=>rfl
 | n+1=>by rw [prs_succ,List.length_append,prs_len f g n];simp;omega
theorem prs_congr {f g f' g' :Nat→Rt}:∀{n:Nat},(∀i,i<n→f i=f' i)→(∀i,i<n→g i=g' i)→prs f g n=prs f' g' n
 | 0,_,_=>rfl
 | n+1,h,k=>by rw [prs_succ,prs_succ,prs_congr (fun i hi=>h i (by omega)) (fun i hi=>k i (by omega)),h n (by omega),k n (by omega)]
theorem prs_zero {a:Rt}:∀n,prs (fun _=>a) (fun _=>a) n=List.replicate (2*n) a
 | 0=>rfl
 | n+1=>by rw [prs_succ,prs_zero n,show 2*(n+1)=2*n+1+1 by omega,List.replicate_succ',List.replicate_succ',List.append_assoc];rfl
theorem prs_at0 (f g:Nat→Rt):∀{n i:Nat},i<n→(prs f g n)[2*i]? =some (f i)
 | 0,i,h=>by omega
 | n+1,i,h=>by
  rw [prs_succ]
  by_cases e:i=n
  ·subst e;rw [List.getElem?_append_right (by rw [prs_len];omega),prs_len,Nat.sub_self];rfl
  ·rw [List.getElem?_append_left (by rw [prs_len];omega)];exact prs_at0 f g (by omega)
theorem prs_at1 (f g:Nat→Rt):∀{n i:Nat},i<n→(prs f g n)[2*i+1]? =some (g i)
 | 0,i,h=>by omega
 | n+1,i,h=>by
  rw [prs_succ]
  by_cases e:i=n
  ·subst e;rw [List.getElem?_append_right (by rw [prs_len];omega),prs_len,show 2*i+1-2*i=1 by omega];rfl
  ·rw [List.getElem?_append_left (by rw [prs_len];omega)];exact prs_at1 f g (by omega)
theorem upd_other {f:Nat→Rt} {k i:Nat} {x:Rt} (h:i≠k):upd f k x i=f i:=if_neg h
theorem upd_same {f:Nat→Rt} {k:Nat} {x:Rt}:upd f k x k=x:=if_pos rfl
theorem upd_twice {f:Nat→Rt} {k:Nat} {x y:Rt}:upd (upd f k x) k y=upd f k y:=by
 funext i;unfold upd;by_cases h:i=k<;>simp [h]
theorem prs_set0 (f g:Nat→Rt) (x:Rt):∀{n i:Nat},i<n→(prs f g n).set (2*i) x=prs (upd f i x) g n
 | 0,i,h=>by omega
 | n+1,i,h=>by
  rw [prs_succ,prs_succ]
  by_cases e:i=n
  ·subst e;rw [List.set_append,if_neg (by rw [prs_len];omega),prs_len,Nat.sub_self,upd_same];rw [prs_congr (f:=upd f i x) (f' :=f) (g:=g) (g' :=g) (fun j hj=>upd_other (by omega)) (fun _ _=>rfl)];rfl
  ·rw [List.set_append,if_pos (by rw [prs_len];omega),prs_set0 f g x (by omega),upd_other (by omega)]
theorem prs_set1 (f g:Nat→Rt) (x:Rt):∀{n i:Nat},i<n→(prs f g n).set (2*i+1) x=prs f (upd g i x) n
 | 0,i,h=>by omega
 | n+1,i,h=>by
  rw [prs_succ,prs_succ]
  by_cases e:i=n
  ·subst e;rw [List.set_append,if_neg (by rw [prs_len];omega),prs_len,show 2*i+1-2*i=1 by omega,upd_same];rw [prs_congr (f:=f) (f' :=f) (g:=upd g i x) (g' :=g) (fun _ _=>rfl) (fun j hj=>upd_other (by omega))];rfl
  ·rw [List.set_append,if_pos (by rw [prs_len];omega),prs_set1 f g x (by omega),upd_other (by omega)]
theorem lsf_len (f:Nat→Rt) (n:Nat):(lsf f n).length=n:=by simp [lsf]
theorem lsf_at (f:Nat→Rt) {n i:Nat} (h:i<n):(lsf f n)[i]? =some (f i):=by simp [lsf,h]
theorem lsf_set (f:Nat→Rt) (x:Rt) {n i:Nat} (h:i<n):(lsf f n).set i x=lsf (upd f i x) n:=by
 apply List.ext_getElem?
 intro j;rw [List.getElem?_set]
 by_cases e:i=j
 ·subst e;rw [if_pos rfl,lsf_len,if_pos h,lsf_at _ h,upd_same]
 ·rw [if_neg e]
  by_cases hj:j<n
  ·rw [lsf_at _ hj,lsf_at _ hj,upd_other (Ne.symm e)]
  ·rw [List.getElem?_eq_none (by rw [lsf_len];omega),List.getElem?_eq_none (by rw [lsf_len];omega)]
theorem lsf_zero {a:Rt} (n:Nat):lsf (fun _=>a) n=List.replicate n a:=by simp [lsf,List.map_const']
theorem cel_store6 {W:World} {b:Nat} {t:TypeId} {l:List Rt} (h:W.heap[b]? =some (.cells (cel l).toArray t (0,0))) {i:Nat} (a:Rt) (hi:2*i<l.length) :
  (((W.setCell ⟨b,i*6,none⟩ (.bool a.neg)).setCell ⟨b,i*6+1,none⟩ (.string (encS a.num))).setCell ⟨b,i*6+2,none⟩ (.string (encS a.den))).heap[b]? =some (.cells (cel (l.set (2*i) a)).toArray t (0,0)):=by
 have:=cel_store h a hi
 rwa [show 2*i*3=i*6 by omega] at this
theorem cel_store7 {W:World} {b:Nat} {t:TypeId} {l:List Rt} (h:W.heap[b]? =some (.cells (cel l).toArray t (0,0))) {i:Nat} (a:Rt) (hi:2*i+1<l.length) :
  (((W.setCell ⟨b,i*6+3,none⟩ (.bool a.neg)).setCell ⟨b,i*6+4,none⟩ (.string (encS a.num))).setCell ⟨b,i*6+5,none⟩ (.string (encS a.den))).heap[b]? =some (.cells (cel (l.set (2*i+1) a)).toArray t (0,0)):=by
 have:=cel_store h a hi
 rwa [show (2*i+1)*3+1=i*6+4 by omega,show (2*i+1)*3+2=i*6+5 by omega,show (2*i+1)*3=i*6+3 by omega] at this
theorem cel_cells6 {W:World} {b:Nat} {t:TypeId} {l:List Rt} (h:W.heap[b]? =some (.cells (cel l).toArray t (0,0))) {i:Nat} {a:Rt} (ha:l[2*i]? =some a) :
  W.cell? ⟨b,i*6,none⟩=some (.bool a.neg)∧W.cell? ⟨b,i*6+1,none⟩=some (.string (encS a.num))∧W.cell? ⟨b,i*6+2,none⟩=some (.string (encS a.den)):=by
 have:=cel_cells h ha
 rwa [show 2*i*3=i*6 by omega] at this
theorem cel_cells7 {W:World} {b:Nat} {t:TypeId} {l:List Rt} (h:W.heap[b]? =some (.cells (cel l).toArray t (0,0))) {i:Nat} {a:Rt} (ha:l[2*i+1]? =some a) :
  W.cell? ⟨b,i*6+3,none⟩=some (.bool a.neg)∧W.cell? ⟨b,i*6+4,none⟩=some (.string (encS a.num))∧W.cell? ⟨b,i*6+5,none⟩=some (.string (encS a.den)):=by
 have:=cel_cells h ha
 rwa [show (2*i+1)*3+1=i*6+4 by omega,show (2*i+1)*3+2=i*6+5 by omega,show (2*i+1)*3=i*6+3 by omega] at this
theorem of_nat (n:Nat):ofR (n:Int)=⟨false,n,1⟩:=by unfold ofR;simp
section
variable (c:Int) (ws:List Rt)
def fQ (k i:Nat):Rt:=if i<k then ofR (zZ c ws i) else zr0
def gQ (k i:Nat):Rt:=if i<k then ovR c ws i else zr0
def lfZ (k:Nat):Int:=c.natAbs-sumZ (zZ c ws) k
def bQ (pre:List Nat) (i:Nat):Rt:=ofR (zZ c ws i+if i ∈ pre then 1 else 0)
def pQ (x:Nat→Int) (k i:Nat):Rt:=if i<k then ofC (sgZ c (x i)) else zr0
end
section
variable {c:Int} {ws:List Rt}
theorem fQ_zero:fQ c ws 0=fun _=>zr0:=by funext i;simp [fQ]
theorem gQ_zero:gQ c ws 0=fun _=>zr0:=by funext i;simp [gQ]
theorem pQ_zero {x:Nat→Int}:pQ c x 0=fun _=>zr0:=by funext i;simp [pQ]
theorem fQ_succ (k:Nat):upd (fQ c ws k) k (ofR (zZ c ws k))=fQ c ws (k+1):=by
 funext i;unfold upd fQ
 by_cases e:i=k
 ·subst e;simp
 ·rw [if_neg e];by_cases h:i<k
  ·rw [if_pos h,if_pos (by omega)]
  ·rw [if_neg h,if_neg (by omega)]
theorem gQ_succ (k:Nat):upd (gQ c ws k) k (ovR c ws k)=gQ c ws (k+1):=by
 funext i;unfold upd gQ
 by_cases e:i=k
 ·subst e;simp
 ·rw [if_neg e];by_cases h:i<k
  ·rw [if_pos h,if_pos (by omega)]
  ·rw [if_neg h,if_neg (by omega)]
theorem pQ_succ {x:Nat→Int} (k:Nat):upd (pQ c x k) k (ofC (sgZ c (x k)))=pQ c x (k+1):=by
 funext i;unfold upd pQ
 by_cases e:i=k
 ·subst e;simp
 ·rw [if_neg e];by_cases h:i<k
  ·rw [if_pos h,if_pos (by omega)]
  ·rw [if_neg h,if_neg (by omega)]
theorem fQ_end (n:Nat):prs (fQ c ws n) (gQ c ws n) n=prs (bQ c ws []) (ovR c ws) n :=
 prs_congr (fun i hi=>by unfold fQ bQ;rw [if_pos hi];simp) (fun i hi=>by unfold gQ;rw [if_pos hi])
theorem bQ_succ {pre:List Nat} {k:Nat} (h:k ∉ pre):upd (bQ c ws pre) k (addR (bQ c ws pre k) (ofR 1))=bQ c ws (pre++[k]):=by
 funext i;unfold upd
 by_cases e:i=k
 ·subst e;rw [if_pos rfl];unfold bQ;rw [add_of];simp [h]
 ·rw [if_neg e];unfold bQ;simp [e]
theorem lfZ_succ (k:Nat):subR (ofR (lfZ c ws k)) (ofR (zZ c ws k))=ofR (lfZ c ws (k+1)):=by rw [sub_of];unfold lfZ;rw [sumZ];congr 1;omega
theorem lfZ_end:lfZ c ws ws.length=lefZ c ws:=rfl
theorem sumZ_mono {f:Nat→Int} (h:∀i,0≤f i) {k n:Nat} (hk:k≤n):0≤sumZ f k∧sumZ f k≤sumZ f n:=by
 have h0:∀k,0≤sumZ f k:=fun k=>by
  induction k with
  | zero=>exact Int.le_refl _
  | succ k ih=>rw [sumZ];have:=h k;omega
 refine ⟨h0 k,?_⟩;obtain ⟨d,rfl⟩:∃d,n=k+d:=⟨n-k,by omega⟩;clear hk
 induction d with
 | zero=>exact Int.le_refl _
 | succ d ih=>rw [show k+(d+1)=(k+d)+1 by omega,sumZ];have:=h (k+d);omega
theorem Wts.lf_range (h:Wts ws) {k:Nat} (hk:k≤ws.length):0≤lfZ c ws k∧lfZ c ws k≤c.natAbs:=by
 have h1:=sumZ_mono (f:=zZ c ws) (fun i=>h.z_nn i) hk;have h2:=h.left_nn (c:=c);unfold lefZ at h2;unfold lfZ;omega
theorem sumL_raw:∀(l:List Rt) (A:Rt),(∀a ∈ l,a.Ok)→sumL (l.map rawR) A=l.foldl addR A
 | [],A,_=>rfl
 | a::l,A,h=>by
  show sumL (l.map rawR) (addR A (rawR a).val)=_;rw [rawR_val (h a (by simp)),sumL_raw l _ (fun x hx=>h x (by simp [hx]))];rfl
theorem sumT_raw {l:List Rt} (h:∀a ∈ l,a.Ok):sumL (l.map rawR) zeroR=sumT l:=sumL_raw l zeroR h
theorem szl_raw {l:List Rt} {k:Nat} (h:∀a ∈ l,Rz a k):SzL (l.map rawR) k:=by
 intro r hr;obtain ⟨a,ha,rfl⟩:=List.mem_map.1 hr;exact rawR_sz (h a ha)
theorem sumT_sz {l:List Rt} (ho:∀a ∈ l,a.Ok) (h:∀a ∈ l,Rz a 1000) (hn:l.length≤20):Rz (sumT l) 30000:=by
 rw [←sumT_raw ho];exact (sumL_sz (l.map rawR) zeroR 1 (szl_raw h) zeroR_sz).mono (by rw [List.length_map];omega)
theorem no_bad {l:List Rt} (ho:∀a ∈ l,a.Ok) (hn:∀a ∈ l,a.neg=false):(l.map rawR).any Rw.bad=false:=by
 rw [List.any_eq_false];intro r hr;obtain ⟨a,ha,rfl⟩:=List.mem_map.1 hr;unfold Rw.bad;rw [rawR_right (ho a ha)];simp [rawR,hn a ha]
theorem Wts.z_le (h:Wts ws) {k:Nat} (hk:k<ws.length):zZ c ws k≤c.natAbs:=by
 have h1:=h.lf_range (c:=c) (k:=k) (by omega);have h2:=h.lf_range (c:=c) (k:=k+1) (by omega);unfold lfZ at h1 h2;rw [sumZ] at h2;omega
theorem ovR_sz (h:Wts ws) (hz:∀a ∈ ws,Rz a 1000) (hn:ws.length≤20) (hc:c.natAbs<18446744073709551616) {k:Nat} (hk:k<ws.length):Rz (qtR c ws k) 40000∧Rz (ovR c ws k) 41000:=by
 have h1:Rz (qtR c ws k) 40000:=by
  unfold qtR;rw [getD_at' hk];exact (quoR_sz (mulR_sz (of_sz (n:=(c.natAbs:Int)) (by simpa using hc)) (hz _ (List.getElem_mem hk))) (sumT_sz h.ok hz hn)).mono (by decide)
 refine ⟨h1,?_⟩;unfold ovR;have h2:=h.z_le (c:=c) hk;have h3:=h.z_nn (c:=c) k;exact (subR_sz h1 (of_sz (n:=zZ c ws k) (by omega))).mono (by decide)
end
end Go.Proofs.YtabfjecegpaoaaaGreatDoor
namespace Go.Proofs.YtabfjecegpaoaaaGreatDoor
open Go Go.RowKit
structure RSd (D0:List Deferred) (ops:Array Oper) (T0:Array Value) (S:Array Bool→Nat→Value→World→Prop) (R:Array Bool→World→Prop) (listed:Array Bool) (a:Act) (w:World):Prop where
 lsize:listed.size=ops.size
 size:a.tmps.size=T0.size
 defers:a.defers=D0
 base:∀t,(∀j,dstOf ops j=some t→listed.getD j false=false)→a.tmps.getD t undef=T0.getD t undef
 vals:∀j,listed.getD j false=true→S listed j (inSlot a (dstOf ops j)) w
 glob:R listed w
 closed:∀j o,ops[j]? =some o→listed.getD j false=true→∀e ∈ o.after,Region.binds .any e=true→listed.getD e.on false=true
section
variable {P:Program} {ops:Array Oper} {Q:Exit→Act→World→Prop} {T0:Array Value} {D0:List Deferred} {S:Array Bool→Nat→Value→World→Prop} {R:Array Bool→World→Prop}
theorem RSd.put_one {listed:Array Bool} {a:Act} {w w' :World} {i:Nat} {o:Oper} {v:Value} (hsl:slotsB ops T0.size=true) (hI:RSd D0 ops T0 S R listed a w) (ho:ops[i]? =some o) (hun' :listed.getD i false=false) (hall:∀e ∈ o.after,Region.binds .any e=true→listed.getD e.on false=true)
  (hS:S (listed.setIfInBounds i true) i (gives o.dst v) w') (hR:R (listed.setIfInBounds i true) w') (hkeep:∀j u,j≠i→listed.getD j false=true→S listed j u w→S (listed.setIfInBounds i true) j u w'):RSd D0 ops T0 S R (listed.setIfInBounds i true) (a.put o.dst v) w' :=by
 have hio:i<ops.size:=(Array.getElem?_eq_some_iff.1 ho).1
 have hdo:dstOf ops i=o.dst:=by simp [dstOf,ho]
 refine ⟨by simpa using hI.lsize,by rw [put_size];exact hI.size,by rw [put_defers];exact hI.defers,fun t ht=> ?_,fun j hj=> ?_,hR,fun j oj hoj hj e he hb=> ?_⟩
 ·have hne:o.dst≠some t:=fun e=>by
   have:=ht i (hdo.trans e)
   simp [hI.lsize,hio] at this
  have hb:=hI.base t (fun j hj=>by
   by_cases hji:j=i
   ·subst hji;exact hun'
   ·have:=ht j hj
    rwa [getD_set_ne false (Ne.symm hji)] at this)
  cases hd:o.dst with
  | none=>simpa [Act.put] using hb
  | some d =>
   show (a.tmps.setIfInBounds d v).getD t undef=_
   rw [getD_set,if_neg (fun h=>hne (by rw [hd,h.1]))]
   exact hb
 ·by_cases hji:j=i
  ·subst hji
   have e:inSlot (a.put o.dst v) (dstOf ops j)=gives o.dst v:=by
    rw [hdo]
    cases hd:o.dst with
    | none=>rfl
    | some d =>
     show (a.tmps.setIfInBounds d v).getD d undef=v
     rw [getD_set,if_pos ⟨rfl,by rw [hI.size];exact slots_lt hsl (hdo.trans hd)⟩]
   rw [e];exact hS
  ·have hj' :listed.getD j false=true:=by rwa [getD_set_ne false (Ne.symm hji)] at hj
   have e:inSlot (a.put o.dst v) (dstOf ops j)=inSlot a (dstOf ops j):=by
    cases hdj:dstOf ops j with
    | none=>rfl
    | some c =>
     cases hd:o.dst with
     | none=>rfl
     | some d =>
      show (a.tmps.setIfInBounds d v).getD c undef=_
      rw [getD_set,if_neg (fun h=>hji (slots_ne hsl hdj (by rw [hdo,hd,h.1])))]
      rfl
   rw [e]
   exact hkeep j _ hji hj' (hI.vals j hj')
 ·by_cases hji:j=i
  ·subst hji
   rw [ho] at hoj
   obtain rfl:=Option.some.inj hoj
   exact getD_set_true (hall e he hb)
  ·have hj' :listed.getD j false=true:=by rwa [getD_set_ne false (Ne.symm hji)] at hj
   exact getD_set_true (hI.closed j oj hoj hj' e he hb)
theorem RSd.frame {listed:Array Bool} {a:Act} {w:World} {L:Nat} {b:Nat→Bool} (hL:L≤ops.size) (hsl:slotsB (ops.extract 0 L) T0.size=true) (hov:overB (ops.extract 0 L) T0.size b=true) (hI:RSd D0 ops T0 S R listed a w) (hun:∀j,L≤j→listed.getD j false=false) :
  a={ tmps:=(over b (fun d=>a.tmps.getD d undef) 0 T0.toList).toArray,defers:=D0 }:=by
 rw [←fill_over hsl hov]
 have hT:a.tmps=fill (ops.extract 0 L) (fun d=>a.tmps.getD d undef) (ops.extract 0 L).size T0:=by
  refine arr_ext (by rw [fill_size];exact hI.size) fun t=> ?_
  rw [fill_get _ _ T0 (fun j d h=>slots_lt hsl h) t]
  split
  ·rfl
  ·rename_i hno
   exact hI.base t fun j hj=>by
    rcases Nat.lt_or_ge j L with h|h
    ·have h2:=(dst_extract ops L j h hL).trans hj
     exact absurd ⟨j,dstOf_lt h2,h2⟩ hno
    ·exact hun j h
 obtain ⟨tm,df⟩:=a
 have hd:df=D0:=hI.defers
 rw [hd]
 rw [←hT]
end
section
variable {P:Program} {ops:Array Oper} {Q:Exit→Act→World→Prop} {T0:Array Value} {D0:List Deferred}
end
theorem getD_set_same {l:Array Bool} {n i:Nat} (h:l.size=n) (hi:i<n):(l.setIfInBounds i true).getD i false=true:=by simp [h,hi]
def needL (ops:Array Oper) (late:Nat→Bool) (L:Nat):Bool:=(List.range L).all fun j=>late j||(List.range (L+1)).any fun k=>decide (j<k)&& !late k&&(ops[k]?).any fun o=>o.after.any fun e=>decide (e.on=j)&&Region.binds .any e
theorem all_needed {ops:Array Oper} {late:Nat→Bool} {i:Nat} {o:Oper} {listed:Array Bool} (hneed:needL ops late i=true) (ho:ops[i]? =some o) (hall:∀e ∈ o.after,Region.binds .any e=true→listed.getD e.on false=true)
  (hcl:∀j o,ops[j]? =some o→listed.getD j false=true→∀e ∈ o.after,Region.binds .any e=true→listed.getD e.on false=true):∀j,j<i→late j=false→listed.getD j false=true:=by
 have key:∀d m,m+d=i→m<i→late m=false→listed.getD m false=true:=by
  intro d
  induction d using Nat.strongRecOn with
  | _ d ih =>
   intro m hm hmi hlm
   have h1:=List.all_eq_true.1 hneed m (by simp;omega)
   rw [hlm,Bool.false_or] at h1
   obtain ⟨k,hk,h2⟩:=List.any_eq_true.1 h1
   simp only [List.mem_range] at hk
   simp only [Bool.and_eq_true,decide_eq_true_eq,Bool.not_eq_true'] at h2
   obtain ⟨⟨hmk,hlk⟩,h3⟩:=h2
   cases hok:ops[k]? with
   | none=>rw [hok] at h3;simp at h3
   | some ok =>
    rw [hok] at h3
    obtain ⟨e,he,h4⟩:=Array.any_eq_true'.1 (show (ok.after.any fun e=>decide (e.on=m)&&Region.binds .any e)=true from h3)
    simp only [Bool.and_eq_true,decide_eq_true_eq] at h4
    by_cases hki:k=i
    ·subst hki
     rw [ho] at hok
     obtain rfl:=Option.some.inj hok
     have:=hall e he h4.2
     rwa [h4.1] at this
    ·have:=hcl k ok hok (ih (i-k) (by omega) k (by omega) (by omega) hlk) e he h4.2
     rwa [h4.1] at this
 exact fun j hj hl=>key (i-j) j (by omega) hj hl
section
variable {P:Program} {ops:Array Oper} {Q:Exit→Act→World→Prop} {T0:Array Value} {D0:List Deferred}
theorem wp_region_lateD {id:Nat} {w:World} (hm:P.follows .mixedOrders=true) (S:Nat→Value→World→Prop) (is:Nat) (late:Nat→Bool) (b:Nat→Bool) (St:World→World→Prop) (his:is<ops.size) (hlis:late is=false) (hov:overB ops T0.size b=true) (hsl:slotsB ops T0.size=true) (hbk:backR ops=true)
  (hneed:needL ops late is=true) (hbeh:((List.range ops.size).all fun m=>decide (m≤is)||late m)=true) (hnone:dstOf ops is=none)
  (hw:∀j v w w',S j v w→S j v w')
  (hstep:∀i,i<ops.size→i≠is→∀o listed a w',RAt ops T0 (fun j v w=>j≠is→S j v w) w i o listed a w' →
   ∀K:Act→World→Prop,(∀v w'',S i (gives o.dst v) w'' →Below w'.heap.size w' w'' →K (a.put o.dst v) w'')→wpOp P ops Q i K a w')
  (hlate:∀i,i<ops.size→late i=true→∀o listed a w',RAt ops T0 (fun j v w=>j≠is→S j v w) w' i o listed a w' →
   ∀K:Act→World→Prop,(∀v w'',S i (gives o.dst v) w'' →w'' =w' →K (a.put o.dst v) w'')→wpOp P ops Q i K a w')
  (hstore:∀o listed a w',RAt ops T0 (fun j v w=>j≠is→S j v w) w is o listed a w' →∀K:Act→World→Prop,(∀w'',St w' w'' →K a w'')→wpOp P ops Q is K a w')
  (hdone:∀(s:Nat→Value) w' w'',(∀j,j<ops.size→j≠is→S j (match dstOf ops j with|some d=>s d|none=>undef) w')→Below w.heap.size w w' →St w' w'' →Q .normal { tmps:=(over b s 0 T0.toList).toArray,defers:=D0 } w'') :
  (Code.region id ops true).wp P Q { tmps:=T0,defers:=D0 } w:=by
 refine wp_region_inv (fun listed a w' =>RSd D0 ops T0 (fun _ j v w=>j≠is→S j v w) (fun listed w' =>if listed.getD is false=true then ∃w1,Below w.heap.size w w1∧St w1 w' else Below w.heap.size w w') listed a w') hm ?_ ?_ ?_
 ·exact ⟨by simp,rfl,rfl,fun _ _=>rfl,fun j hj=>(by rw [getD_falses] at hj;cases hj),(by rw [getD_falses,if_neg (by decide)];exact (Below.refl _ _).drew),fun j o _ hj=>by rw [getD_falses] at hj;cases hj⟩
 ·rintro listed a w' hI i o ho hun hall
  have hio:i<ops.size:=(Array.getElem?_eq_some_iff.1 ho).1
  have hun' :listed.getD i false=false:=by
   rcases Nat.lt_or_ge i listed.size with h' |h'
   ·simp [h'] at hun ⊢;exact hun
   ·simp [Array.getElem?_eq_none h'] at hun
  by_cases hls:listed.getD is false=true
  ·have hg:=hI.glob
   rw [if_pos hls] at hg
   have hne:i≠is:=by rintro rfl;rw [hls] at hun';cases hun'
   have hlt:late i=true:=by
    cases hl:late i with
    | true=>rfl
    | false =>
     exfalso
     rcases Nat.lt_or_ge i is with h|h
     ·obtain ⟨os,hos⟩:∃os,ops[is]? =some os:=⟨_,Array.getElem?_eq_getElem his⟩
      have:=all_needed hneed hos (fun e he hb=>hI.closed is os hos hls e he hb) hI.closed i h hl
      rw [hun'] at this;cases this
     ·have h2:=List.all_eq_true.1 hbeh i (by simpa using hio)
      rw [hl] at h2
      have:i≤is:=by simpa using h2
      omega
   refine hlate i hio hlt o listed a w' ⟨ho,hall,fun t ht=>hI.base t (fun j hj=>absurd hj (free_ne ht)),hI.vals,Below.refl _ _,hun',hI.closed,hI.base⟩ _ fun v w'' h1 h2=> ?_
   subst h2
   refine hI.put_one hsl ho hun' hall (fun _=>h1) ?_ fun j u _ _ hS hj=>hS hj
   rw [getD_set_ne false hne,if_pos hls];exact hg
  ·have hg:=hI.glob
   rw [if_neg hls] at hg
   by_cases hne:i=is
   ·subst hne
    refine hstore o listed a w' ⟨ho,hall,fun t ht=>hI.base t (fun j hj=>absurd hj (free_ne ht)),hI.vals,hg,hun',hI.closed,hI.base⟩ _ fun w'' h1=> ?_
    have hd:o.dst=none:=by rw [←hnone];simp [dstOf,ho]
    have hp:a=a.put o.dst undef:=by rw [hd];rfl
    rw [hp]
    refine hI.put_one hsl ho hun' hall (fun h=>absurd rfl h) ?_ fun j u _ _ hS hj=>hw _ _ _ _ (hS hj)
    rw [getD_set_same hI.lsize hio,if_pos rfl]
    exact ⟨w',hg,h1⟩
   ·refine hstep i hio hne o listed a w' ⟨ho,hall,fun t ht=>hI.base t (fun j hj=>absurd hj (free_ne ht)),hI.vals,hg,hun',hI.closed,hI.base⟩ _ fun v w'' h1 h2=> ?_
    refine hI.put_one hsl ho hun' hall (fun _=>h1) ?_ fun j u _ _ hS hj=>hw _ _ _ _ (hS hj)
    rw [getD_set_ne false hne,if_neg hls]
    exact hg.trans (h2.mono hg.size)
 ·rintro listed a w' hI hr
  have hback:∀j o,ops[j]? =some o→∀e ∈ o.after,Region.binds .any e=true→e.on<j:=fun j o ho e he hb=>by
   have h1:=List.all_eq_true.1 hbk j (by simpa using (Array.getElem?_eq_some_iff.1 ho).1)
   rw [ho] at h1
   have h2:=Array.all_eq_true'.1 (show (o.after.all fun e=> !Region.binds .any e||decide (e.on<j))=true from h1) e he
   rw [hb] at h2
   simpa using h2
  have hup:∀j,j<ops.size→listed.getD j false=true:=fun j hj=>by
   have:=all_up hI.lsize hback hr j hj
   have hs:j<listed.size:=by rw [hI.lsize];exact hj
   simpa [hs] using this
  have hg:=hI.glob
  rw [if_pos (hup is his)] at hg
  obtain ⟨w1,h1,h2⟩:=hg
  have hx:ops.extract 0 ops.size=ops:=by simp
  rw [hI.frame (Nat.le_refl _) (by rw [hx];exact hsl) (by rw [hx];exact hov) (fun j hj=>by rw [Array.getD_eq_getD_getElem?,Array.getElem?_eq_none (by rw [hI.lsize];exact hj)];rfl)]
  refine hdone _ w1 w' (fun j hj hne=> ?_) h1 h2
  have:=hI.vals j (hup j hj) hne
  cases hd:dstOf ops j with
  | none=>rw [hd] at this;exact hw _ _ _ _ this
  | some d=>rw [hd] at this;exact hw _ _ _ _ this
end
end Go.Proofs.YtabfjecegpaoaaaGreatDoor
namespace Go.Proofs.YtabfjecegpaoaaaGreatDoor
open Go.RowKit Go.Shelf
open Dgt
def DivI (c:Int) (ws:List Rt) (n:Nat) (s:List Nat) (b10 bq b11 bs bo:Nat) (w0:World) (pre:List Nat) (A:World):Prop :=
 A.heap[b10]? =some (.cells #[.slice (some ⟨bq,0,none⟩) n n] 67 (0,0)) ∧
 A.heap[bq]? =some (.cells (cel (prs (bQ c ws pre) (ovR c ws) n)).toArray 69 (0,0)) ∧
 A.heap[b11]? =some (.cells #[.bool (ofR (lefZ c ws-pre.length)).neg,.string (encS (ofR (lefZ c ws-pre.length)).num),.string (encS (ofR (lefZ c ws-pre.length)).den)] 26 (0,0)) ∧
 A.heap[bs]? =some (.cells #[.slice (some ⟨bo,0,none⟩) n n] 54 (0,0))∧A.heap[bo]? =some (.cells (intsB s) 3 (0,0)) ∧
 pre.length≤(lefZ c ws).toNat∧Below w0.heap.size w0 A
def DivX (c:Int) (ws:List Rt) (n:Nat) (s:List Nat) (b10 bq b11 bs bo:Nat) (w0:World) (ex:Nat) (id:Nat) (pre:List Nat) (A:World):Prop :=
 DivI c ws n s b10 bq b11 bs bo w0 pre A∧id=ex∧lefZ c ws=pre.length∧∃rest,s=pre++rest
section
variable {c:Int} {ws:List Rt} {n:Nat} {s:List Nat} {b10 bq b11 bs bo:Nat} {w0:World}
theorem cells_put {W:World} {l b:Nat} {L:Loop} {o:Obj} {cs:Array Value} {t:TypeId} {fr:Nat × Nat} (hl:W.heap[l]? =some (.loop L)) (h:W.heap[b]? =some (.cells cs t fr)):(W.putObj l o).heap[b]? =some (.cells cs t fr):=by
 rw [heap_put_other (by rintro rfl;rw [hl] at h;cases h)];exact h
theorem DivI_up (pre:List Nat) (A B:World) (hb:Below A.heap.size A B) (h:DivI c ws n s b10 bq b11 bs bo w0 pre A):DivI c ws n s b10 bq b11 bs bo w0 pre B:=by
 obtain ⟨h1,h2,h3,h4,h5,h6,h7⟩:=h;exact ⟨hpU hb h1,hpU hb h2,hpU hb h3,hpU hb h4,hpU hb h5,h6,h7.trans (hb.mono h7.size)⟩
theorem DivI_put {l:Nat} (hwl:w0.heap.size≤l) (pre:List Nat) (A:World) (L L' :Loop) (hl:A.heap[l]? =some (.loop L)) (h:DivI c ws n s b10 bq b11 bs bo w0 pre A):DivI c ws n s b10 bq b11 bs bo w0 pre (A.putObj l (.loop L')):=by
 obtain ⟨h1,h2,h3,h4,h5,h6,h7⟩:=h;exact ⟨cells_put hl h1,cells_put hl h2,cells_put hl h3,cells_put hl h4,cells_put hl h5,h6,h7.trans (belowK_b (w:=w0) (Nat.le_refl _) A l _ _ hwl hl rfl rfl)⟩
theorem DivX_put {l ex:Nat} (hwl:w0.heap.size≤l) (id:Nat) (pre:List Nat) (A:World) (L L' :Loop) (hl:A.heap[l]? =some (.loop L)) (h:DivX c ws n s b10 bq b11 bs bo w0 ex id pre A):DivX c ws n s b10 bq b11 bs bo w0 ex id pre (A.putObj l (.loop L')) :=
 ⟨DivI_put hwl pre A L L' hl h.1,h.2⟩
theorem DivI_end {A:World} (hw:Wts ws) (hn:ws.length=n) (hS:OrdS c ws s) (h:DivI c ws n s b10 bq b11 bs bo w0 s A) :
  A.heap[bq]? =some (.cells (cel (prs (fun i=>ofR (xZ c ws s i)) (ovR c ws) n)).toArray 69 (0,0)):=by
 obtain ⟨h1,h2,h3,h4,h5,h6,h7⟩:=h;have hl:=hw.left_le (c:=c);have e:s.take (lefZ c ws).toNat=s:=List.take_of_length_le h6;rw [h2]
 congr 4
 exact prs_congr (fun i _=>by unfold bQ xZ;rw [e]) (fun _ _=>rfl)
theorem DivX_end {A:World} {ex id:Nat} {pre:List Nat} (h:DivX c ws n s b10 bq b11 bs bo w0 ex id pre A) :
  A.heap[bq]? =some (.cells (cel (prs (fun i=>ofR (xZ c ws s i)) (ovR c ws) n)).toArray 69 (0,0)):=by
 obtain ⟨⟨h1,h2,h3,h4,h5,h6,h7⟩,h8,h9,rest,h10⟩:=h;have e:s.take (lefZ c ws).toNat=pre:=by rw [h9,h10];simp
 rw [h2]
 congr 4
 exact prs_congr (fun i _=>by unfold bQ xZ;rw [e]) (fun _ _=>rfl)
theorem ord_of (hw:Wts ws) (h:Ordd (ovq (prs (bQ c ws []) (ovR c ws) ws.length)) ws.length s):OrdS c ws s:=by
 refine ⟨h.perm,?_⟩;refine h.pw.imp_of_mem ?_;intro i k hi hk hh;have key:∀i,i<ws.length→ovq (prs (bQ c ws []) (ovR c ws) ws.length) i=ovQ c ws i:=fun i hi=>by
  unfold ovq;rw [List.getD_eq_getElem?_getD,prs_at1 _ _ hi];exact hw.q_ov i
 unfold ahead at hh ⊢
 rwa [key i (h.mem.1 hi),key k (h.mem.1 hk)] at hh
end
end Go.Proofs.YtabfjecegpaoaaaGreatDoor
namespace Go.Proofs.YtabfjecegpaoaaaGreatDoor
open Go Go.RowKit
def wpTailI (F:Fence) (m:Nat) (P:Program) (ops:Array Oper) (Q:Exit→Act→World→Prop):Nat→Nat→Act→World→Prop
 | 0,_,a,w=>Q .normal a w
 | n+1,i,a,w=>wpOpIn F m P ops Q i (fun a' w' =>wpTailI F m P ops Q n (i+1) a' w') a w
section
variable {F:Fence} {n:Nat} {P:Program} {ops:Array Oper} {Q:Exit→Act→World→Prop} {T0:Array Value}
theorem wpIn_region_tail {id:Nat} {w:World} (hm:P.follows .mixedOrders=true) (S:Nat→Value→World→Prop) (L:Nat) (b:Nat→Bool) (hL:L≤ops.size) (hov:overB (ops.extract 0 L) T0.size b=true) (hsl:slotsB ops T0.size=true) (hsl' :slotsB (ops.extract 0 L) T0.size=true) (hbk:backR ops=true) (htl:tailB ops L=true)
  (hup:∀j v w w',Below w.heap.size w w' →S j v w→S j v w')
  (hstep:∀i,i<L→∀o listed a w',RAt ops T0 (fun j v w=>j<L→S j v w) w i o listed a w' →
   ∀K:Act→World→Prop,(∀v w'',S i (gives o.dst v) w'' →Below w'.heap.size w' w'' →K (a.put o.dst v) w'')→wpOpIn F n P ops Q i K a w')
  (htail:∀(s:Nat→Value) w',(∀j,j<L→S j (match dstOf ops j with|some d=>s d|none=>undef) w')→Below w.heap.size w w' →wpTailI F n P ops Q (ops.size-L) L { tmps:=(over b s 0 T0.toList).toArray,defers:=[] } w') :
  (Code.region id ops true).wpIn F n P Q { tmps:=T0,defers:=[] } w:=by
 have hnd:∀m,L≤m→m<ops.size→needB ops m=true:=fun m h1 h2=>by
  have:=List.all_eq_true.1 htl m (by simpa using h2)
  simp only [Bool.or_eq_true,decide_eq_true_eq] at this
  rcases this with h|h
  ·omega
  ·exact h
 have hfin:∀listed a w',RSt ops T0 (fun _ j v w=>j<L→S j v w) (fun _ w' =>Below w.heap.size w w') listed a w' →(∀j,L≤j→listed.getD j false=false)→(∀j,j<L→listed.getD j false=true)→wpTailI F n P ops Q (ops.size-L) L a w' :=by
  intro listed a w' hI hun hall
  rw [hI.frame hL hsl' hov hun]
  refine htail _ w' (fun j hj=> ?_) hI.glob
  have:=hI.vals j (hall j hj) hj
  cases hd:dstOf ops j with
  | none=>rw [hd] at this;exact this
  | some d=>rw [hd] at this;exact this
 refine wpIn_region_inv (fun listed a w' =>(RSt ops T0 (fun _ j v w=>j<L→S j v w) (fun _ w' =>Below w.heap.size w w') listed a w' ∧∀j,L≤j→listed.getD j false=false) ∨
  (∃m,L<m∧m≤ops.size∧listed.size=ops.size∧(∀j,j<ops.size→listed.getD j false=decide (j<m))∧wpTailI F n P ops Q (ops.size-m) m a w')) hm ?_ ?_ ?_
 ·exact .inl ⟨⟨by simp,rfl,rfl,fun _ _=>rfl,fun j hj=>(by rw [getD_falses] at hj;cases hj),(Below.refl _ _).drew,fun j o _ hj=>by rw [getD_falses] at hj;cases hj⟩,fun j _=>getD_falses _ _⟩
 ·rintro listed a w' hI i o ho hun hall
  have hio:i<ops.size:=(Array.getElem?_eq_some_iff.1 ho).1
  have hun' :listed.getD i false=false:=by
   rcases Nat.lt_or_ge i listed.size with h' |h'
   ·simp [h'] at hun ⊢;exact hun
   ·simp [Array.getElem?_eq_none h'] at hun
  have hset:∀m,listed.size=ops.size→(∀j,j<ops.size→listed.getD j false=decide (j<m))→i=m→∀j,j<ops.size→(listed.setIfInBounds i true).getD j false=decide (j<m+1):=by
   intro m hls hj him j hjs
   subst him
   by_cases hji:j=i
   ·subst hji;simp [hls,hio]
   ·rw [getD_set_ne false (Ne.symm hji),hj j hjs]
    simp;omega
  rcases hI with ⟨hI,hL'⟩|⟨m,hm1,hm2,hls,hlst,htl'⟩
  ·by_cases hiL:i<L
   ·refine hstep i hiL o listed a w' ⟨ho,hall,fun t ht=>hI.base t (fun j hj=>absurd hj (free_ne ht)),hI.vals,hI.glob,hun',hI.closed,hI.base⟩ _ fun v w'' h1 h2=>.inl ⟨?_,fun j hj=>(getD_set_ne false (by omega)).trans (hL' j hj)⟩
    exact hI.put_one hsl ho hun' hall (fun _=>h1) (hI.glob.trans (h2.mono hI.glob.size)) fun j u _ _ hS hj=>hup j u w' w'' h2 (hS hj)
   ·have hb:=all_before (hnd i (by omega) hio) ho hall hI.closed
    have hiL:i=L:=by
     rcases Nat.lt_or_ge L i with h|h
     ·have:=hb L h
      rw [hL' L (Nat.le_refl _)] at this;cases this
     ·omega
    subst hiL
    have h:=hfin listed a w' hI hL' hb
    rw [show ops.size-i=(ops.size-(i+1))+1 by omega] at h
    refine wpOpIn_mono (fun a' w'' h=>.inr ⟨i+1,by omega,by omega,by simpa using hI.lsize,hset i hI.lsize (fun j hj=> ?_) rfl,h⟩) h
    by_cases hji:j<i
    ·rw [hb j hji];simp [hji]
    ·rw [hL' j (by omega)];simp [hji]
  ·have him:i=m:=by
    have h1:=hlst i hio
    rw [hun'] at h1
    have h2:¬i<m:=by simpa using h1.symm
    rcases Nat.lt_or_ge m i with h|h
    ·have:=all_before (hnd i (by omega) hio) ho hall (fun j o ho' hj e he hb=>by
      have hjs:j<ops.size:=(Array.getElem?_eq_some_iff.1 ho').1
      have h3:=List.all_eq_true.1 hbk j (by simpa using hjs)
      rw [ho'] at h3
      have h4:=Array.all_eq_true'.1 (show (o.after.all fun e=> !Region.binds .any e||decide (e.on<j))=true from h3) e he
      rw [hb] at h4
      have h5:e.on<j:=by simpa using h4
      have h6:=hlst j hjs
      rw [hj] at h6
      have h7:j<m:=by simpa using h6.symm
      rw [hlst e.on (by omega)];simp;omega) m h
     rw [hlst m (by omega)] at this
     simp at this
    ·omega
   subst him
   have h:=htl'
   rw [show ops.size-i=(ops.size-(i+1))+1 by omega] at h
   exact wpOpIn_mono (fun a' w'' h=>.inr ⟨i+1,by omega,by omega,by simpa using hls,hset i hls hlst rfl,h⟩) h
 ·rintro listed a w' hI hr
  have hback:∀j o,ops[j]? =some o→∀e ∈ o.after,Region.binds .any e=true→e.on<j:=fun j o ho e he hb=>by
   have h1:=List.all_eq_true.1 hbk j (by simpa using (Array.getElem?_eq_some_iff.1 ho).1)
   rw [ho] at h1
   have h2:=Array.all_eq_true'.1 (show (o.after.all fun e=> !Region.binds .any e||decide (e.on<j))=true from h1) e he
   rw [hb] at h2
   simpa using h2
  rcases hI with ⟨hI,hL'⟩|⟨m,hm1,hm2,hls,hlst,htl'⟩
  ·have hup:∀j,j<ops.size→listed.getD j false=true:=fun j hj=>by
    have:=all_up hI.lsize hback hr j hj
    have hs:j<listed.size:=by rw [hI.lsize];exact hj
    simpa [hs] using this
   have hLs:L=ops.size:=by
    rcases Nat.lt_or_ge L ops.size with h|h
    ·have:=hup L h
     rw [hL' L (Nat.le_refl _)] at this;cases this
    ·omega
   have h:=hfin listed a w' hI hL' (fun j hj=>hup j (by omega))
   rw [hLs,Nat.sub_self] at h
   exact h
  ·have hms:m=ops.size:=by
    rcases Nat.lt_or_ge m ops.size with h|h
    ·have:=all_up hls hback hr m h
     have hs:m<listed.size:=by rw [hls];exact h
     have h2:=hlst m h
     simp [hs] at this h2
     rw [this] at h2;cases h2
    ·omega
   rw [hms,Nat.sub_self] at htl'
   exact htl'
theorem tail_stepI {m k i:Nat} {o:Oper} {a:Act} {w:World} (ho:ops[i]? =some o) (hg:o.guard=none) (h:Oper.wpIn F m P o a w (fun a' w' =>wpTailI F m P ops Q k (i+1) a' w') Q):wpTailI F m P ops Q (k+1) i a w:=plain_stepI ho hg h
end
end Go.Proofs.YtabfjecegpaoaaaGreatDoor
