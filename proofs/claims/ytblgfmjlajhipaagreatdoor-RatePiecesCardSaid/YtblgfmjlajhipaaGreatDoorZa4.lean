/- Contracts that the proofs of this seat share. Each theorem names its conditions. -/
import Derived.Deep.QuietTactic
import Derived.BigQuiet
import Derived.Test.YtblgfmjlajhipaaGreatDoorZa3
import Derived.Test.YtblgfmjlajhipaaGreatDoorZa1
set_option maxHeartbeats 16000000
set_option linter.unusedVariables false
namespace Go.Proofs.YtblgfmjlajhipaaGreatDoor
open Go.RowKit Go.Shelf
open Dgt
theorem short_step {B y k p x:Nat} {T la:List Nat} (hB:0<B) (hk:k<la.length) (hx:la[k]=x) (hxl:x<B) (hy:0<y) (hp:p<y) (hyl:y≤B) (hv:valB B (la.drop (k+1))=valB B T*y+p) :
  valB B (la.drop k)=valB B ((p*B+x)/y::T)*y+(p*B+x)%y∧(p*B+x)/y<B∧(p*B+x)%y<y:=by
 have hlt:p*B+x<y*B:=by
  have:(p+1)*B≤y*B:=Nat.mul_le_mul_right B hp;rw [Nat.succ_mul] at this;omega
 refine ⟨?_,by rw [Nat.div_lt_iff_lt_mul hy,Nat.mul_comm B];exact hlt,Nat.mod_lt _ hy⟩;rw [List.drop_eq_getElem_cons hk,valB,valB,hx,hv,Nat.add_mul,Nat.mul_add];have:=Nat.div_add_mod' (p*B+x) y;have e1:B*(valB B T*y)=B*valB B T*y:=(Nat.mul_assoc _ _ _).symm;have e2:B*p=p*B:=Nat.mul_comm _ _;omega
theorem set_back (T:List Nat) (k x:Nat):(List.replicate (k+1) 0++T).set k x=List.replicate k 0++x::T:=by
 rw [List.replicate_succ',List.append_assoc,List.set_append_right _ _ (by simp)];simp
def ESH (g na k z y q p' :Nat):Nat→Value
 | 0=>.slice (some ⟨g,0,none⟩) na na
 | 1=>.int .i64 (k:Int)
 | 2=>.int .u64 (z:Int)
 | 3=>.int .u32 (y:Int)
 | 4=>.int .u64 (y:Int)
 | 5=>.int .u64 (q:Int)
 | 6=>.int .u32 (q:Int)
 | 7=>.int .u64 (z:Int)
 | 8=>.int .u32 (y:Int)
 | 9=>.int .u64 (y:Int)
 | 10=>.int .u64 (p' :Int)
 | 11=>.pointer (some ⟨g,k,none⟩)
 | 13=>.int .u64 (p' :Int)
 | _=>undef
set_option maxRecDepth 100000 in
theorem short_any (va:Value) (la:List Nat) (y:Nat) (w:World) (ha:Lim w va la) (hla:la.length≤1000000000) (hy0:0<y) (hyl:y<4294967296) :
  Calls Tryz.prog 150 #[va,.int .u32 (y:Int)] w fun e w' =>∃v',e=.returned (.tuple #[v',.int .u32 ((valB 4294967296 la%y:Nat):Int)])∧Lim w' v' (digs 4294967296 (valB 4294967296 la/y))∧Below w.heap.size w w' :=by
 obtain ⟨pa,na,ca,rfl,hna,hca,hcma⟩:=ha.open_;have HLA:=hD ha;have hna1:(na:Int)≤1000000000:=by omega
 have HNA:=hD hna;have hmk:=mk_limbs na (na:Int) rfl (by omega);have hy0' :0<(y:Int):=by omega
 have hyl' :(y:Int)<4294967296:=by omega
 clear ha hna hla hca hcma;go_enter Tryz.func150,Tryz.ntmps150;go_wp2_with fail;clear hmk;have HB:=hD ((Below.refl w.heap.size w).alloc (Nat.le_refl _) (.cells (cellsK .u32 (List.replicate na 0)) 133));have HK:=hD (heap_alloc_new w (.cells (cellsK .u32 (List.replicate na 0)) 133));obtain ⟨w0,hw0⟩:∃w0,w.alloc (.cells (cellsK .u32 (List.replicate na 0)) 133)=w0:=⟨_,rfl⟩;rw [hw0] at HB HK ⊢;obtain ⟨g,hg⟩:∃g,w.heap.size=g:=⟨_,rfl⟩;have hgw:w.heap.size≤g:=Nat.le_of_eq hg;rw [hg] at HK ⊢;have HG:=hD hg;clear hw0 hg
 go_loopw [7,8,9] (fun rv i _ wr=>∃(j p:Nat) (i' :Int) (T:List Nat),j≤na∧i' =(j:Int)-1∧i=.int .i64 i' ∧rv=.int .u64 (p:Int)∧p<y∧Hid (T.length=na-j)∧Hid (okB 4294967296 T)∧Hid (valB 4294967296 (la.drop j)=valB 4294967296 T*y+p) ∧
   Hid (wr.heap[g]? =some (.cells (cellsK .u32 (List.replicate j 0++T)) 133 (0,0)))∧Hid (Below w.heap.size w wr)) (fun _ i _ _=>(intOf i+1).toNat)
 case atStart=>exact ⟨na,0,(na:Int)-1,[],Nat.le_refl _,rfl,rfl,rfl,hy0,hD (by simp),hD (okB_nil _),hD (by rw [List.drop_eq_nil_of_le (by have:=HNA.out;omega)];simp [valB]),hD (by simpa using HK.out),HB⟩
 case round =>
  obtain ⟨j,p,i',T,hj,hi',rfl,rfl,hp,HTL,HTO,HV,HC,HBW⟩:=hrel;obtain ⟨wo,hwo⟩:∃wo,wo=wr:=⟨_,rfl⟩;subst hwo;rcases j with _|k
  ·have hneg:i' <0:=by omega
   have hi'' :=hD hi';clear hi';have HL:Hid (Lim wo (.slice (some ⟨g,0,none⟩) na na) T):=hD (by
    have h:=LimK.block (kd:=.u32) (B:=4294967296) (W:=wo) (g:=g) (cap:=na) (l:=T) HTO.out (cs:=cellsK .u32 T) (t:=133) (by
     have:=HC.out
     rwa [List.replicate_zero,List.nil_append] at this) (fun i h=>cellsK_get h) (by rw [HTL.out];omega) (by omega)
    rwa [HTL.out] at h)
   have HV2:Hid (trimL 4294967296 T=digs 4294967296 (valB 4294967296 la/y)∧valB 4294967296 la%y=p):=hD (by
    have h:=HV.out;rw [List.drop_zero] at h;unfold trimL;rw [h]
    constructor
    ·rw [Nat.add_comm,Nat.add_mul_div_right _ _ hy0,Nat.div_eq_of_lt hp,Nat.zero_add]
    ·rw [Nat.add_comm,Nat.add_mul_mod_self_right,Nat.mod_eq_of_lt hp])
   have q1:(p:Int)%4294967296=(p:Int):=by omega
   clear hp hj hyl hyl';go_wp2_with fail;refine (trim_any _ _ _ HL.out).mono ?_;rintro e w' ⟨v',rfl,hv,rfl⟩;go_wp2_with fail;go_ret2;exact ⟨_,by rw [HV2.out.2];rfl,by rw [←HV2.out.1];exact hv,HG.out ▸ HBW.out⟩
  ·obtain rfl:i' =(k:Int):=by omega
   clear hi';have hkA:k<la.length:=by have:=HNA.out;omega
   obtain ⟨g1,off1,hp1,hg1,hc1⟩:=HLA.out.cell hkA;have cA:wo.cell? ⟨g1,off1+k,none⟩=some (.int .u32 (la[k]:Int)):=by rw [cell_up2 HBW.out hg1 hg1];exact hc1
   obtain ⟨x,hx⟩:∃x,la[k]=x:=⟨_,rfl⟩;have hxl:x<4294967296:=by rw [←hx];exact HLA.out.ok.get hkA
   rw [hx] at cA;subst hp1;have hst:=short_step (by decide) hkA hx hxl hy0 hp (by omega) HV.out;obtain ⟨r,hr⟩:∃r,p*4294967296=r:=⟨_,rfl⟩;have e5:r ||| x=r+x:=by
    rw [←hr,show (4294967296:Nat)=2^32 by decide,Nat.or_comm,shl_join (by simpa using hxl),Nat.add_comm]
   obtain ⟨z,hz⟩:∃z,r+x=z:=⟨_,rfl⟩;rw [hr,hz] at hst;have hzl:z<18446744073709551616:=by omega
   have q1:(p:Int)*4294967296=(r:Int):=by omega
   have q2:bits .or .u64 (r:Int) (x:Int)=(z:Int):=by rw [u64_or_nat _ _ (by omega) (by omega),e5,hz]
   obtain ⟨q,hq⟩:∃q,z/y=q:=⟨_,rfl⟩;obtain ⟨p',hp'⟩:∃p',z%y=p' :=⟨_,rfl⟩;rw [hq,hp'] at hst;have hql:=hst.2.1;have q3:(z:Int)/(y:Int)=(q:Int):=by rw [←hq];simp
   have q4:(z:Int)%(y:Int)=(p' :Int):=by rw [←hp'];simp
   have q5:(q:Int)%4294967296=(q:Int):=by omega
   have hp2:(p:Int)<4294967296:=by omega
   have hrl:(r:Int)<18446744073709551616:=by omega
   have HST:=hD hst;have hkn:k<na:=hj;have hfr:wo.frozen? ⟨g,k,none⟩=false:=Lib.frozen_of_heap HC.out _;obtain ⟨c0,hc0⟩:∃z,wo.cell? ⟨g,k,none⟩=some z:=by rw [Lib.cell_of_heap HC.out];exact ⟨_,cellsK_get (by simp;omega)⟩
   clear hst hx hc1 hr e5 hz hq hp';go_wp2_with fail;refine wp_region_store (w:=wo) (by kernel_rfl) (ESH g na k z y q p') 12 ⟨g,k,none⟩ (.int .u32 (q:Int)) (fun t=>(decide (7≤t)&&decide (t<8))||(decide (28≤t)&&decide (t<40))) (by kernel_rfl) (by kernel_rfl) (by kernel_rfl) (by decide) ?_ ?_ ?_
   ·intro i hi his o listed a w' hR hw K hK;have ho:=hR.at_;have hi:i<14:=hi;have hii:i=0∨i=1∨i=2∨i=3∨i=4∨i=5∨i=6∨i=7∨i=8∨i=9∨i=10∨i=11∨i=13:=by omega
    rcases hii with rfl|rfl|rfl|rfl|rfl|rfl|rfl|rfl|rfl|rfl|rfl|rfl|rfl
    ·simp at ho;subst ho;have b6:a.tmps.getD 6 undef=.slice (some ⟨g,0,none⟩) na na:=hR.b 6;refine pSq ?_;go_simp;exact hK _ (rfl)
    ·simp at ho;subst ho;have b8:a.tmps.getD 8 undef=.int .i64 (k:Int):=hR.b 8;refine pSq ?_;go_simp;exact hK _ (rfl)
    ·simp at ho;subst ho;have b9:a.tmps.getD 9 undef=.int .u64 (z:Int):=hR.b 9;refine pSq ?_;go_simp;exact hK _ (rfl)
    ·simp at ho;subst ho;have b1:a.tmps.getD 1 undef=.int .u32 (y:Int):=hR.b 1;refine pSq ?_;go_simp;exact hK _ (rfl)
    ·simp at ho;subst ho;have e3:a.tmps.getD 31 undef=.int .u32 (y:Int):=hR.d 3;have wy:IntKind.u64.wrap (y:Int)=(y:Int):=by rw [IntKind.wrap_u64];omega
     refine pSq ?_;go_simp;exact hK _ (rfl)
    ·simp at ho;subst ho;have e2:a.tmps.getD 30 undef=.int .u64 (z:Int):=hR.d 2;have e4:a.tmps.getD 32 undef=.int .u64 (y:Int):=hR.d 4;have hyn:¬y=0:=by omega
     have wq6:IntKind.u64.wrap (q:Int)=(q:Int):=by rw [IntKind.wrap_u64];omega
     refine pSq ?_;go_simp;exact hK _ (rfl)
    ·simp at ho;subst ho;have e5:a.tmps.getD 33 undef=.int .u64 (q:Int):=hR.d 5;have wq:IntKind.u32.wrap (q:Int)=(q:Int):=by rw [IntKind.wrap_u32'];omega
     refine pSq ?_;go_simp;exact hK _ (rfl)
    ·simp at ho;subst ho;have b9:a.tmps.getD 9 undef=.int .u64 (z:Int):=hR.b 9;refine pSq ?_;go_simp;exact hK _ (rfl)
    ·simp at ho;subst ho;have b1:a.tmps.getD 1 undef=.int .u32 (y:Int):=hR.b 1;refine pSq ?_;go_simp;exact hK _ (rfl)
    ·simp at ho;subst ho;have e8:a.tmps.getD 36 undef=.int .u32 (y:Int):=hR.d 8;have wy:IntKind.u64.wrap (y:Int)=(y:Int):=by rw [IntKind.wrap_u64];omega
     refine pSq ?_;go_simp;exact hK _ (rfl)
    ·simp at ho;subst ho;have e7:a.tmps.getD 35 undef=.int .u64 (z:Int):=hR.d 7;have e9:a.tmps.getD 37 undef=.int .u64 (y:Int):=hR.d 9;have hyn:¬y=0:=by omega
     have wt:(z:Int).tmod (y:Int)=(p' :Int):=by rw [Int.tmod_eq_emod_of_nonneg (by omega)];exact q4
     refine pSq ?_;go_simp;exact hK _ (rfl)
    ·simp at ho;subst ho;have e0:a.tmps.getD 28 undef=.slice (some ⟨g,0,none⟩) na na:=hR.d 0;have e1:a.tmps.getD 29 undef=.int .i64 (k:Int):=hR.d 1;refine pSq ?_;go_simp;exact hK _ (rfl)
    ·simp at ho;subst ho;have e10:a.tmps.getD 38 undef=.int .u64 (p' :Int):=hR.d 10;refine pSq ?_;go_simp;exact hK _ (rfl)
   ·intro o listed a hR K hK;have ho:=hR.at_;simp at ho;subst ho;have e11:a.tmps.getD 39 undef=.pointer (some ⟨g,k,none⟩):=hR.d 11;have e6:a.tmps.getD 34 undef=.int .u32 (q:Int):=hR.d 6;refine pSq ?_;go_simp;exact hK undef rfl
   ·intro s hS;have e13:s 7=.int .u64 (p' :Int):=hS 13 (by decide);simp only [over,ovL,Nat.reduceAdd,Nat.reduceLeDiff,Nat.reduceLT];have HSB:=hD (set_back T k q);have hw3:0<(na:Int):=by omega
    clear hS;rw [e13];clear e13;go_wp2_with fail
    go_roundw
    case rel=>exact ⟨k,p',(k:Int)-1,q::T,by omega,rfl,by go_num,rfl,HST.out.2.2,hD (by rw [List.length_cons,HTL.out];omega),hD (fun t ht=>(List.mem_cons.1 ht).elim (fun e=>e ▸ hql) (HTO.out t)),hD HST.out.1,hD (by rw [←HSB.out];exact set_block HC.out),hD (HBW.out.drew.setCell (p:=⟨g,k,none⟩) hgw _)⟩
    case measure=>simp [intOf]
end Go.Proofs.YtblgfmjlajhipaaGreatDoor
namespace Go.Proofs.YtblgfmjlajhipaaGreatDoor
open Go.RowKit Go.Shelf
open Dgt
theorem pow_split {n:Nat} (hn:n≤32):(4294967296:Nat)=2^n*2^(32-n):=by
 rw [←Nat.pow_add,show n+(32-n)=32 by omega]
theorem shift_room {x n t:Nat} (hn:n≤32) (hx:x<4294967296) (ht:t<2^n):t+x*2^n%4294967296<4294967296∧x*2^n/4294967296<2^n∧∃y,x*2^n%4294967296=y*2^n:=by
 have hs:=pow_split hn;have hp:0<2^n:=Nat.pow_pos (by decide);have hq:0<2^(32-n):=Nat.pow_pos (by decide);have e:x*2^n%4294967296=(x%2^(32-n))*2^n:=by
  rw [hs,Nat.mul_comm x,Nat.mul_mod_mul_left,Nat.mul_comm]
 have h1:x%2^(32-n)<2^(32-n):=Nat.mod_lt _ hq;have h2:(x%2^(32-n))*2^n+2^n≤2^(32-n)*2^n:=by rw [←Nat.succ_mul];exact Nat.mul_le_mul_right _ h1
 have h3:2^(32-n)*2^n=4294967296:=by rw [Nat.mul_comm, ←hs]
 refine ⟨by rw [e];omega,?_,_,e⟩;rw [Nat.div_lt_iff_lt_mul (by decide),Nat.mul_comm];exact Nat.mul_lt_mul_of_pos_left hx hp
theorem up_step {S la:List Nat} {k n x t:Nat} (hS:S.length=k) (hk:k<la.length) (hx:la[k]=x) (hv:valB 4294967296 (S++[t])=valB 4294967296 (la.take k)*2^n) :
  valB 4294967296 ((S++[t+x*2^n%4294967296])++[x*2^n/4294967296])=valB 4294967296 (la.take (k+1))*2^n:=by
 rw [valB_snoc,hS] at hv;rw [valB_snoc,valB_snoc,hS,List.length_append,hS,List.length_singleton,valB_take_succ hk,hx,Nat.add_mul, ←hv,Nat.mul_add,Nat.pow_succ,Nat.mul_assoc (4294967296^k) 4294967296,Nat.add_assoc,Nat.add_assoc, ←Nat.mul_add (4294967296^k),Nat.mod_add_div,Nat.mul_assoc (4294967296^k) x];omega
theorem set_two (S:List Nat) (x y t m:Nat):((S++t::List.replicate (m+1) 0).set S.length x).set (S.length+1) y=(S++[x])++y::List.replicate m 0:=by
 rw [set_here];have:=set_zeros (S++[x]) y m;rw [List.length_append,List.length_singleton] at this;rw [this];simp
set_option maxRecDepth 100000 in
theorem up_any (va:Value) (la:List Nat) (n:Nat) (w:World) (ha:Lim w va la) (hla:la.length≤1000000000) (hn:n<32) :
  Calls Tryz.prog 152 #[va,.int .i64 (n:Int)] w fun e w' =>∃g,e=.returned (.slice (some ⟨g,0,none⟩) (la.length+1) (la.length+1))∧w.heap.size≤g ∧
   w'.heap[g]? =some (.cells (cellsK .u32 (fixd 4294967296 (la.length+1) (valB 4294967296 la*2^n))) 133 (0,0))∧Below w.heap.size w w' :=by
 obtain ⟨pa,na,ca,rfl,hna,hca,hcma⟩:=ha.open_;rw [←hna];have HLA:=hD ha;have hna1:(na:Int)≤1000000000:=by omega
 have HNA:=hD hna;have hmk:=mk_limbs (na+1) ((na:Int)+1) (by omega) (by omega);have hn' :(n:Int)≤64:=by omega
 clear ha hna hla hca hcma;go_enter Tryz.func152,Tryz.ntmps152;go_wp2_with fail;clear hmk;have HB:=hD ((Below.refl w.heap.size w).alloc (Nat.le_refl _) (.cells (cellsK .u32 (List.replicate (na+1) 0)) 133));have HK:=hD (heap_alloc_new w (.cells (cellsK .u32 (List.replicate (na+1) 0)) 133));obtain ⟨w0,hw0⟩:∃w0,w.alloc (.cells (cellsK .u32 (List.replicate (na+1) 0)) 133)=w0:=⟨_,rfl⟩;rw [hw0] at HB HK ⊢;obtain ⟨g,hg⟩:∃g,w.heap.size=g:=⟨_,rfl⟩;have hgw:w.heap.size≤g:=Nat.le_of_eq hg;rw [hg] at HK ⊢;have HG:=hD hg;clear hw0 hg
 go_loopw [15,6,7,8] (fun i _ _ _ wr=>∃(k t:Nat) (S:List Nat),k≤na∧i=.int .i64 (k:Int)∧Hid (t<2^n)∧Hid (S.length=k)∧Hid (okB 4294967296 S)∧Hid (valB 4294967296 (S++[t])=valB 4294967296 (la.take k)*2^n) ∧
   Hid (wr.heap[g]? =some (.cells (cellsK .u32 (S++t::List.replicate (na-k) 0)) 133 (0,0)))∧Hid (Below w.heap.size w wr)) (fun i _ _ _ _=>na-(intOf i).toNat)
 case atStart=>exact ⟨0,0,[],by omega,rfl,hD (Nat.pow_pos (by decide)),hD rfl,hD (okB_nil _),hD (by simp [valB]),hD (by simpa [List.replicate_succ] using HK.out),HB⟩
 case round =>
  obtain ⟨k,t,S,hk,rfl,HT,HS,HO,HV,HC,HBW⟩:=hrel;obtain ⟨wo,hwo⟩:∃wo,wo=wr:=⟨_,rfl⟩;subst hwo
  by_cases hlt:k<na
  ·have hlt' :(k:Int)<(na:Int):=by omega
   have hkA:k<la.length:=by have:=HNA.out;omega
   obtain ⟨g1,off1,hp1,hg1,hc1⟩:=HLA.out.cell hkA;have cA:wo.cell? ⟨g1,off1+k,none⟩=some (.int .u32 (la[k]:Int)):=by rw [cell_up2 HBW.out hg1 hg1];exact hc1
   obtain ⟨x,hx⟩:∃x,la[k]=x:=⟨_,rfl⟩;have hxl:x<4294967296:=by rw [←hx];exact HLA.out.ok.get hkA
   rw [hx] at cA;subst hp1;have htp:t<2^n:=HT.out;have hp32:2^n≤4294967296:=by
    rw [show (4294967296:Nat)=2^32 by decide];exact Nat.pow_le_pow_right (by decide) (by omega)
   obtain ⟨h1,h2,y,h3⟩:=shift_room (by omega) hxl htp;have hst:=up_step HS.out hkA hx HV.out;obtain ⟨z,hz⟩:∃z,x*2^n=z:=⟨_,rfl⟩;have hzl:z<18446744073709551616:=by
    rw [←hz];have:=Nat.mul_le_mul (show x≤4294967295 by omega) hp32;omega
   have qz:IntKind.u64.wrap ((x:Int)*2^n)=(z:Int):=by
    have e:(x:Int)*2^n=(z:Int):=by rw [←hz];simp
    rw [e,IntKind.wrap_u64];omega
   rw [hz] at h1 h2 h3 hst;obtain ⟨lo,hlo⟩:∃lo,z%4294967296=lo:=⟨_,rfl⟩;obtain ⟨hi,hhi⟩:∃hi,z/4294967296=hi:=⟨_,rfl⟩;rw [hlo] at h1 h3 hst;rw [hhi] at h2 hst;obtain ⟨s,hs⟩:∃s,t+lo=s:=⟨_,rfl⟩;rw [hs] at h1 hst;have q1:(z:Int)%4294967296=(lo:Int):=by omega
   have q2:(z:Int)/4294967296=(hi:Int):=by omega
   have q3:bits .or .u32 (t:Int) (lo:Int)=(s:Int):=by rw [u32_or_nat _ _ (by omega) (by omega),h3,shl_join htp, ←h3,hs]
   have q4:(hi:Int)%4294967296=(hi:Int):=by omega
   obtain ⟨m,hm⟩:∃m,na-k=m+1:=⟨na-k-1,by omega⟩;have hm2:na-(k+1)=m:=by omega
   have HC2:Hid (wo.heap[g]? =some (.cells (cellsK .u32 (S++t::List.replicate (m+1) 0)) 133 (0,0))):=hD (by rw [←hm];exact HC.out);have c1:wo.cell? ⟨g,k,none⟩=some (.int .u32 (t:Int)):=by rw [Lib.cell_of_heap HC2.out];exact cellsK_some (by rw [←HS.out];simp)
   have hfr:∀j,wo.frozen? ⟨g,j,none⟩=false:=fun j=>Lib.frozen_of_heap HC.out _
   have hf1:=hfr k;have hf2:=hfr (k+1);have HC3:=hD (set_block (i:=k) (x:=s) HC2.out);obtain ⟨z2,hz2⟩:∃z,(wo.setCell ⟨g,k,none⟩ (.int .u32 (s:Int))).cell? ⟨g,k+1,none⟩=some z:=by rw [Lib.cell_of_heap HC3.out];exact ⟨_,cellsK_get (by simp [HS.out])⟩
   have hf3:(wo.setCell ⟨g,k,none⟩ (.int .u32 (s:Int))).frozen? ⟨g,k+1,none⟩=false:=Lib.frozen_of_heap HC3.out _;have HST:=hD hst;have HSS:=hD (set_two S s hi t m);have HM:=hD hm2;have H1:=hD h1;have H2:=hD h2;clear hst hz hlo hhi hs hx hc1 h1 h2 h3 hm hm2 htp hp32 hfr hzl;go_wp2_with fail
   go_roundw
   case rel=>exact ⟨k+1,hi,S++[s],by omega,by go_num,H2,hD (by simp [HS.out]),hD (okB_snoc HO.out H1.out),hD HST.out,hD (by rw [HM.out, ←HSS.out,HS.out];exact set_block HC3.out),hD ((HBW.out.setCell (p:=⟨g,k,none⟩) hgw _).setCell (p:=⟨g,k+1,none⟩) hgw _)⟩
   case measure=>simp [intOf];omega
  ·have hge:(na:Int)≤(k:Int):=by omega
   obtain rfl:k=na:=by omega
   have HF:Hid (S++[t]=fixd 4294967296 (k+1) (valB 4294967296 la*2^n)):=hD (by
    have hp32:2^n≤4294967296:=by
     rw [show (4294967296:Nat)=2^32 by decide];exact Nat.pow_le_pow_right (by decide) (by omega)
    have h:=fixd_of (B:=4294967296) (by decide) (okB_snoc HO.out (show t<4294967296 by have:=HT.out;omega));rw [HV.out,List.take_of_length_le (by have:=HNA.out;omega),List.length_append,HS.out] at h;exact h)
   go_wp2_with fail;go_ret;exact ⟨g,rfl,hgw,by have:=HC.out;rw [Nat.sub_self,List.replicate_zero,HF.out] at this;exact this,HG.out ▸ HBW.out⟩
end Go.Proofs.YtblgfmjlajhipaaGreatDoor
namespace Go.Proofs.YtblgfmjlajhipaaGreatDoor
open Go.RowKit Go.Shelf
open Dgt
theorem down_digit {la:List Nat} (ho:okB 4294967296 la) {k n:Nat} (hk:k<la.length) (hn:n≤32) :
  valB 4294967296 la/2^n/4294967296^k%4294967296=(la[k]/2^n+2^(32-n)*valB 4294967296 (la.drop (k+1)))%4294967296:=by
 have h:=valB_split 4294967296 la k;rw [Nat.min_eq_left (Nat.le_of_lt hk)] at h;have h1:valB 4294967296 (la.take k)<4294967296^k:=by
  have:=valB_lt (ho.take k)
  rwa [List.length_take,Nat.min_eq_left (Nat.le_of_lt hk)] at this
 have e1:valB 4294967296 la/4294967296^k=valB 4294967296 (la.drop k):=by
  rw [h,Nat.add_mul_div_left _ _ (Nat.pow_pos (by decide)),Nat.div_eq_of_lt h1,Nat.zero_add]
 rw [Nat.div_div_eq_div_mul,Nat.mul_comm, ←Nat.div_div_eq_div_mul,e1,List.drop_eq_getElem_cons hk,valB]
 congr 1
 rw [show 4294967296*valB 4294967296 (la.drop (k+1))=2^n*(2^(32-n)*valB 4294967296 (la.drop (k+1))) by rw [←Nat.mul_assoc, ←pow_split hn],Nat.add_mul_div_left _ _ (Nat.pow_pos (by decide))]
theorem down_small {x n:Nat} (hn:n≤32) (hx:x<4294967296):x/2^n<2^(32-n):=by
 rw [Nat.div_lt_iff_lt_mul (Nat.pow_pos (by decide)),Nat.mul_comm, ←pow_split hn];exact hx
theorem down_mid {la:List Nat} (ho:okB 4294967296 la) {k n x y:Nat} (hk:k+1<la.length) (hn:n≤32) (hx:la[k]=x) (hy:la[k+1]=y) :
  valB 4294967296 la/2^n/4294967296^k%4294967296=x/2^n+y*2^(32-n)%4294967296∧x/2^n+y*2^(32-n)%4294967296<4294967296∧∃z,y*2^(32-n)%4294967296=z*2^(32-n):=by
 have hxl:x<4294967296:=by rw [←hx];exact ho.get (by omega)
 have hyl:y<4294967296:=by rw [←hy];exact ho.get hk
 obtain ⟨h1,-,h3⟩:=shift_room (x:=y) (n:=32-n) (t:=x/2^n) (by omega) hyl (down_small hn hxl);refine ⟨?_,h1,h3⟩;rw [down_digit ho (by omega) hn,hx,List.drop_eq_getElem_cons hk,valB,hy,Nat.mul_add,Nat.mul_left_comm, ←Nat.add_assoc,Nat.add_mul_mod_self_left,Nat.mul_comm _ y,Nat.add_mod,Nat.mod_eq_of_lt (Nat.lt_of_lt_of_le (down_small hn hxl) (by rw [show (4294967296:Nat)=2^32 by decide];exact Nat.pow_le_pow_right (by decide) (by omega))),Nat.mod_eq_of_lt h1]
theorem down_last {la:List Nat} (ho:okB 4294967296 la) {k n x:Nat} (hk:k+1=la.length) (hn:n≤32) (hx:la[k]=x) :
  valB 4294967296 la/2^n/4294967296^k%4294967296=x/2^n:=by
 have hxl:x<4294967296:=by rw [←hx];exact ho.get (by omega)
 rw [down_digit ho (by omega) hn,hx,List.drop_eq_nil_of_le (by omega),valB,Nat.mul_zero,Nat.add_zero,Nat.mod_eq_of_lt (Nat.lt_of_le_of_lt (Nat.div_le_self _ _) hxl)]
theorem set_fix {R:List Nat} {n k x m:Nat} (hR:R.length=n) (hk:k<n) (hm:n-k=m+1) (hx:R[k]'(by omega)=x):(R.take k++List.replicate (n-k) 0).set k x=R.take (k+1)++List.replicate m 0:=by
 have h:=set_zeros (R.take k) x m;rw [List.length_take,Nat.min_eq_left (by omega)] at h;rw [hm,h,List.take_succ_eq_append_getElem (by omega),hx]
set_option maxRecDepth 100000 in
theorem down_any (va:Value) (la:List Nat) (n:Nat) (w:World) (ha:Lim w va la) (hla:la.length≤1000000000) (hn:n<32) :
  Calls Tryz.prog 156 #[va,.int .i64 (n:Int)] w fun e w' =>∃v',e=.returned v' ∧Lim w' v' (digs 4294967296 (valB 4294967296 la/2^n))∧Below w.heap.size w w' :=by
 obtain ⟨pa,na,ca,rfl,hna,hca,hcma⟩:=ha.open_;have HLA:=hD ha;have hna1:(na:Int)≤1000000000:=by omega
 have HNA:=hD hna;have hmk:=mk_limbs na (na:Int) rfl (by omega);have hn' :(n:Int)≤32:=by omega
 clear ha hna hla hca hcma;go_enter Tryz.func156,Tryz.ntmps156;go_wp2_with fail;clear hmk;have HB:=hD ((Below.refl w.heap.size w).alloc (Nat.le_refl _) (.cells (cellsK .u32 (List.replicate na 0)) 133));have HK:=hD (heap_alloc_new w (.cells (cellsK .u32 (List.replicate na 0)) 133));obtain ⟨w0,hw0⟩:∃w0,w.alloc (.cells (cellsK .u32 (List.replicate na 0)) 133)=w0:=⟨_,rfl⟩;rw [hw0] at HB HK ⊢;obtain ⟨g,hg⟩:∃g,w.heap.size=g:=⟨_,rfl⟩;have hgw:w.heap.size≤g:=Nat.le_of_eq hg;rw [hg] at HK ⊢;have HG:=hD hg;clear hw0 hg;obtain ⟨R,hR⟩:∃R,fixd 4294967296 na (valB 4294967296 la/2^n)=R:=⟨_,rfl⟩;have hRl:R.length=na:=by rw [←hR,fixd_len]
 have HRL:=hD hRl;have HR:=hD hR;clear hR hRl
 go_loopw [13,6,7] (fun i _ _ wr=>∃k:Nat,k≤na∧i=.int .i64 (k:Int) ∧
   Hid (wr.heap[g]? =some (.cells (cellsK .u32 (R.take k++List.replicate (na-k) 0)) 133 (0,0)))∧Hid (Below w.heap.size w wr)) (fun i _ _ _=>na-(intOf i).toNat)
 case atStart=>exact ⟨0,by omega,rfl,hD (by simpa using HK.out),HB⟩
 case round =>
  obtain ⟨k,hk,rfl,HC,HBW⟩:=hrel;obtain ⟨wo,hwo⟩:∃wo,wo=wr:=⟨_,rfl⟩;subst hwo
  by_cases hlt:k<na
  ·have hlt' :(k:Int)<(na:Int):=by omega
   have hkA:k<la.length:=by have:=HNA.out;omega
   obtain ⟨g1,off1,hp1,hg1,hc1⟩:=HLA.out.cell hkA;have cA:wo.cell? ⟨g1,off1+k,none⟩=some (.int .u32 (la[k]:Int)):=by rw [cell_up2 HBW.out hg1 hg1];exact hc1
   obtain ⟨x,hx⟩:∃x,la[k]=x:=⟨_,rfl⟩;have hxl:x<4294967296:=by rw [←hx];exact HLA.out.ok.get hkA
   rw [hx] at cA;subst hp1;obtain ⟨m,hm⟩:∃m,na-k=m+1:=⟨na-k-1,by omega⟩;have hm2:na-(k+1)=m:=by omega
   have hRk:R[k]'(by rw [HRL.out];exact hlt)=valB 4294967296 la/2^n/4294967296^k%4294967296:=by
    have h2:=fixd_get 4294967296 na (valB 4294967296 la/2^n) k (by rw [fixd_len];exact hlt);simp only [HR.out] at h2;exact h2
   obtain ⟨t,ht⟩:∃t,x/2^n=t:=⟨_,rfl⟩;have htl:t<4294967296:=by rw [←ht];exact Nat.lt_of_le_of_lt (Nat.div_le_self _ _) hxl
   have hts:t<2^(32-n):=by rw [←ht];exact down_small (by omega) hxl
   have q0:(x:Int)/2^n=(t:Int):=by rw [←ht];simp
   have hfr:wo.frozen? ⟨g,k,none⟩=false:=Lib.frozen_of_heap HC.out _;obtain ⟨c0,hc0⟩:∃z,wo.cell? ⟨g,k,none⟩=some z:=by rw [Lib.cell_of_heap HC.out];exact ⟨_,cellsK_get (by simp [HRL.out];omega)⟩
   have HC3:=hD (set_block (i:=k) (x:=t) HC.out);have HTS:=hD hts
   by_cases hk1:k+1<na
   ·have hk1' :(k:Int)+1<(na:Int):=by omega
    have hkA1:k+1<la.length:=by have:=HNA.out;omega
    obtain ⟨g2,off2,hp2,hg2,hc2⟩:=HLA.out.cell hkA1;obtain ⟨rfl,rfl⟩:g2=g1∧off2=off1:=by injection hp2 with e;injection e with e1 e2 _;exact ⟨e1.symm,e2.symm⟩
    obtain ⟨y,hy⟩:∃y,la[k+1]=y:=⟨_,rfl⟩;have hyl:y<4294967296:=by rw [←hy];exact HLA.out.ok.get hkA1
    rw [hy] at hc2;obtain ⟨e1,e2,z,e3⟩:=down_mid HLA.out.ok hkA1 (n:=n) (by omega) hx hy;rw [ht] at e1 e2;obtain ⟨sh,hsh⟩:∃sh,32-n=sh:=⟨_,rfl⟩;rw [hsh] at e1 e2 e3 hts;have hp32:2^sh≤4294967296:=by
     rw [show (4294967296:Nat)=2^32 by decide];exact Nat.pow_le_pow_right (by decide) (by omega)
    obtain ⟨u,hu⟩:∃u,y*2^sh=u:=⟨_,rfl⟩;have hul:u<18446744073709551616:=by
     rw [←hu];have:=Nat.mul_le_mul (show y≤4294967295 by omega) hp32;omega
    have qu:IntKind.u64.wrap ((y:Int)*2^sh)=(u:Int):=by
     have e:(y:Int)*2^sh=(u:Int):=by rw [←hu];simp
     rw [e,IntKind.wrap_u64];omega
    rw [hu] at e1 e2 e3;obtain ⟨lo,hlo⟩:∃lo,u%4294967296=lo:=⟨_,rfl⟩;rw [hlo] at e1 e2 e3;obtain ⟨s,hs⟩:∃s,t+lo=s:=⟨_,rfl⟩;rw [hs] at e1 e2;have q1:IntKind.u32.wrap (u:Int)=(lo:Int):=by rw [IntKind.wrap_u32'];omega
    have q3:bits .or .u32 (t:Int) (lo:Int)=(s:Int):=by rw [u32_or_nat _ _ (by omega) (by omega),e3,shl_join hts, ←e3,hs]
    have q4:IntKind.i64.wrap ((k:Int)+1)=((k+1:Nat):Int):=by rw [IntWalk.i64_in _ (by omega)];omega
    have q5:IntKind.i64.wrap (32-(n:Int))=(sh:Int):=by rw [IntWalk.i64_in _ (by omega)];omega
    have q6:IntKind.u64.wrap (y:Int)=(y:Int):=by rw [IntKind.wrap_u64];omega
    have hsh2:sh≤64:=by omega
    have HSS:=hD (set_fix (x:=s) HRL.out hlt hm (by rw [hRk];exact e1));have HM:=hD hm2;clear e1 e2 e3 hu hlo hs hsh hx hy ht hts hp32 hul hRk hm hm2 hc1 htl hxl hyl;go_wp2_with fail;obtain ⟨V,hV⟩:∃V,wo.setCell ⟨g,k,none⟩ (.int .u32 (t:Int))=V:=⟨_,rfl⟩;have HBV:=hD (HBW.out.setCell (p:=⟨g,k,none⟩) hgw (.int .u32 (t:Int)));rw [hV] at HBV HC3 ⊢;have HRk:=hD HRL.out;have c1:V.cell? ⟨g,k,none⟩=some (.int .u32 (t:Int)):=by
     rw [Lib.cell_of_heap HC3.out];exact cellsK_some (List.getElem?_set_self (by rw [List.length_append,List.length_take,List.length_replicate,HRL.out];omega))
    have c2:V.cell? ⟨g2,off2+(k+1),none⟩=some (.int .u32 (y:Int)):=by rw [cell_up2 HBV.out hg2 hg2];exact hc2
    have hf2:V.frozen? ⟨g,k,none⟩=false:=Lib.frozen_of_heap HC3.out _;have q7:(0:Int)≤(k:Int)+1:=by omega
    clear hV cA hc2 hc0 hfr;refine wp_region_still_tail 16 (by kernel_rfl) (by kernel_rfl) ?_;simp only [List.take_succ_cons,List.take_zero,List.drop_succ_cons,List.drop_zero]
    iterate 16 still_step
    refine wpStill_nil ?_;clear q0 q1 q3 q4 q5 q6 q7 qu
    change wpList _ _ _ _ _ V.drew
    go_wp2_with fail
    go_roundw
    case rel=>exact ⟨k+1,by omega,by go_num,hD (by have h:=set_block (i:=k) (x:=s) HC3.out;rw [List.set_set] at h;rw [HM.out, ←HSS.out];exact h),hD (HBV.out.setCell (p:=⟨g,k,none⟩) hgw _).drew⟩
    case measure=>simp [intOf];omega
   ·have hk1' :¬(k:Int)+1<(na:Int):=by omega
    have HSS:=hD (set_fix (x:=t) HRL.out hlt hm (by rw [hRk,down_last HLA.out.ok (by have:=HNA.out;omega) (by omega) hx,ht]));have HM:=hD hm2;clear hRk hx ht hm hm2 hc1 hts;go_wp2_with fail
    go_roundw
    case rel=>exact ⟨k+1,by omega,by go_num,hD (by rw [HM.out, ←HSS.out];exact HC3.out),hD (HBW.out.setCell (p:=⟨g,k,none⟩) hgw _)⟩
    case measure=>simp [intOf];omega
  ·have hge:(na:Int)≤(k:Int):=by omega
   obtain rfl:k=na:=by omega
   have HL:Hid (Lim wo (.slice (some ⟨g,0,none⟩) k k) R):=hD (by
    have h:=LimK.block (kd:=.u32) (B:=4294967296) (W:=wo) (g:=g) (cap:=k) (l:=R) (by rw [←HR.out];exact fixd_ok (by decide) _ _) (cs:=cellsK .u32 R) (t:=133) (by
     have:=HC.out
     rwa [Nat.sub_self,List.replicate_zero,List.append_nil,List.take_of_length_le (by rw [HRL.out];omega)] at this) (fun i h=>cellsK_get h) (by rw [HRL.out];omega) (by omega)
    rwa [HRL.out] at h)
   have HV2:Hid (trimL 4294967296 R=digs 4294967296 (valB 4294967296 la/2^n)):=hD (by
    rw [←HR.out]
    apply trimL_fixd
    have h1:=valB_lt HLA.out.ok;rw [←HNA.out] at h1;exact Nat.lt_of_le_of_lt (Nat.div_le_self _ _) h1)
   go_wp2_with fail;refine (trim_any _ _ _ HL.out).mono ?_;rintro e w' ⟨v',rfl,hv,rfl⟩;go_wp2_with fail;go_ret;exact ⟨_,rfl,by rw [←HV2.out];exact hv,HG.out ▸ HBW.out⟩
end Go.Proofs.YtblgfmjlajhipaaGreatDoor
namespace Go.Proofs.YtblgfmjlajhipaaGreatDoor
open Go.RowKit Go.Shelf
open Dgt
def offB (v:Value) (g:Nat):Prop:=∀b off n c,v=.slice (some ⟨b,off,none⟩) n c→b≠g
theorem LimK.cell_off {kd:IntKind} {B:Nat} {W:World} {p:Option Addr} {n cap g:Nat} {l:List Nat} (h:LimK kd B W (.slice p n cap) l) (ho:offB (.slice p n cap) g) {i:Nat} (hi:i<l.length):∃b off,p=some ⟨b,off,none⟩∧b<W.heap.size∧b≠g∧W.cell? ⟨b,off+i,none⟩=some (.int kd (l[i]:Int)):=by
 obtain ⟨b,off,rfl,h1,h2⟩:=h.cell hi;exact ⟨b,off,rfl,h1,ho b off n cap rfl,h2⟩
theorem LimK.fr {kd:IntKind} {B:Nat} {A W:World} {v:Value} {l:List Nat} {g:Nat} (h:LimK kd B A v l) (ho:offB v g) (hf:Fr (fun b=>b=g) A W):LimK kd B W v l:=by
 obtain ⟨hk,p,cap,rfl,h2,h3,h4⟩:=h;refine ⟨hk,p,cap,rfl,h2,h3,fun i hi=> ?_⟩;obtain ⟨b,off,rfl,e2,e3⟩:=h4 i hi;exact ⟨b,off,rfl,Nat.lt_of_lt_of_le e2 hf.size,by rw [hf.cell e2 (ho b off _ _ rfl)];exact e3⟩
theorem fr_drewN {m:Nat→Prop} {A B:World} (h:Fr m A B) (n:Nat):Fr m A (B.drewN n):=⟨h.os,h.tape,h.output,h.size,h.block⟩
theorem take_step {q c b x y p r b' :Nat} {S lv uu:List Nat} {k:Nat} (hS:S.length=k) (hk:k<lv.length) (hx:lv[k]=x) (hku:k<uu.length) (hy:uu[k]=y) (hp:p=q*x+c)
  (hv:valB 4294967296 S+q*valB 4294967296 (lv.take k)=valB 4294967296 (uu.take k)+4294967296^k*(c+b)) (he:y+4294967296*b' =r+p%4294967296+b) :
  valB 4294967296 (S++[r])+q*valB 4294967296 (lv.take (k+1))=valB 4294967296 (uu.take (k+1))+4294967296^(k+1)*(p/4294967296+b'):=by
 rw [valB_snoc,hS,valB_take_succ hk,valB_take_succ hku,hx,hy,Nat.mul_add q,Nat.pow_succ,Nat.mul_assoc];have e1:=congrArg (4294967296^k* ·) he;have e2:=congrArg (4294967296^k* ·) hp;have e3:=congrArg (4294967296^k* ·) (Nat.mod_add_div p 4294967296);have e4:q*(4294967296^k*x)=4294967296^k*(q*x):=Nat.mul_left_comm _ _ _;simp only [Nat.mul_add] at e1 e2 e3 hv ⊢;omega
theorem give_step {c x y:Nat} {S lv uu:List Nat} {k:Nat} (hS:S.length=k) (hk:k<lv.length) (hx:lv[k]=x) (hku:k<uu.length) (hy:uu[k]=y)
  (hv:valB 4294967296 S+4294967296^k*c=valB 4294967296 (uu.take k)+valB 4294967296 (lv.take k)) :
  valB 4294967296 (S++[(y+x+c)%4294967296])+4294967296^(k+1)*((y+x+c)/4294967296)=valB 4294967296 (uu.take (k+1))+valB 4294967296 (lv.take (k+1)):=by
 have h:=carry_step (B:=4294967296) (S:=S) (y+x+c);rw [hS] at h;rw [h,valB_take_succ hk,valB_take_succ hku,hx,hy];simp only [Nat.mul_add];omega
theorem win_set {X S W:List Nat} {j k x:Nat} (hX:X.length=j) (hS:S.length=k) (hk:k<W.length):(X++(S++W.drop k)).set (j+k) x=X++((S++[x])++W.drop (k+1)):=by
 subst hX;subst hS;rw [List.set_append_right _ _ (by omega),Nat.add_sub_cancel_left,List.drop_eq_getElem_cons hk,set_here]
theorem win_get {X S W:List Nat} {j k:Nat} (hX:X.length=j) (hS:S.length=k) (hk:k<W.length):(X++(S++W.drop k))[j+k]? =some W[k]:=by
 subst hX;subst hS;rw [List.getElem?_append_right (by omega),Nat.add_sub_cancel_left,List.getElem?_append_right (Nat.le_refl _),Nat.sub_self,List.drop_eq_getElem_cons hk]
 rfl
set_option maxRecDepth 100000 in
theorem take_any (g j n cap q:Nat) (U:List Nat) (vv:Value) (lv:List Nat) (w:World) (hU:w.heap[g]? =some (.cells (cellsK .u32 U) 133 (0,0))) (hUo:okB 4294967296 U) (hn:lv.length=n) (hj:j+n<U.length) (hn0:0<n) (hn9:n≤1000000000) (hv:Lim w vv lv) (hoff:offB vv g) (hq:q<4294967296) :
  Calls Tryz.prog 154 #[.slice (some ⟨g,j,none⟩) (n+1) cap,vv,.int .u64 (q:Int)] w fun e w' =>∃(b:Nat) (R:List Nat),e=.returned (.bool (decide (b=1)))∧b≤1∧R.length=n+1∧okB 4294967296 R ∧
   valB 4294967296 R+q*valB 4294967296 lv=valB 4294967296 ((U.drop j).take (n+1))+4294967296^(n+1)*b ∧
   w'.heap[g]? =some (.cells (cellsK .u32 (U.take j++(R++U.drop (j+n+1)))) 133 (0,0))∧Fr (fun b=>b=g) w w' :=by
 obtain ⟨pv,nv,cv,rfl,hnv,hcv,hcmv⟩:=hv.open_;obtain rfl:nv=n:=by omega
 obtain ⟨X,hX⟩:∃X,U.take j=X:=⟨_,rfl⟩;obtain ⟨uu,huu⟩:∃uu,U.drop j=uu:=⟨_,rfl⟩;have hXl:X.length=j:=by rw [←hX,List.length_take];omega
 have hul:nv+1≤uu.length:=by rw [←huu,List.length_drop];omega
 have huo:okB 4294967296 uu:=by rw [←huu];exact hUo.drop _
 have hUX:U=X++uu:=by rw [←hX, ←huu,List.take_append_drop]
 have hdd:U.drop (j+nv+1)=uu.drop (nv+1):=by rw [←huu,List.drop_drop];congr 1
 rw [hdd,hX,huu];rw [hUX] at hU;have HV:=hD hv;have HOF:=hD hoff;have HLN:=hD hn;have HUL:=hD hul;have HUO:=hD huo;have HXL:=hD hXl;have HU:=hD hU;have hn1:(nv:Int)≤1000000000:=by omega
 have hqi:(q:Int)<4294967296:=by omega
 have hgw:g<w.heap.size:=(Array.getElem?_eq_some_iff.1 hU).1;clear hv hoff hn hul huo hXl hU hj hcv hcmv hnv hX huu hUX hdd hUo hn9;go_enter Tryz.func154,Tryz.ntmps154;go_wp2_with fail
 go_loopw [15,9,10,11,7,8] (fun i _ _ _ cv bv wr=>∃(k c b:Nat) (S:List Nat),k≤nv∧i=.int .i64 (k:Int)∧cv=.int .u64 (c:Int)∧bv=.int .u64 (b:Int)∧(c:Int)<4294967296∧b≤1∧Hid (S.length=k)∧Hid (okB 4294967296 S) ∧
   Hid (valB 4294967296 S+q*valB 4294967296 (lv.take k)=valB 4294967296 (uu.take k)+4294967296^k*(c+b)) ∧
   Hid (wr.heap[g]? =some (.cells (cellsK .u32 (X++(S++uu.drop k))) 133 (0,0)))∧Hid (Fr (fun b=>b=g) w wr)) (fun i _ _ _ _ _ _=>nv-(intOf i).toNat)
 case atStart=>exact ⟨0,0,0,[],by omega,rfl,rfl,rfl,by omega,by omega,hD rfl,hD (okB_nil _),hD (by simp [valB]),hD (by simpa using HU.out),hD (Fr.refl _ _)⟩
 case round =>
  obtain ⟨k,c,b,S,hk,rfl,rfl,rfl,hc,hb,HS,HO,HVL,HC,HF⟩:=hrel;obtain ⟨wo,hwo⟩:∃wo,wo=wr:=⟨_,rfl⟩;subst hwo
  by_cases hlt:k<nv
  ·have hlt' :(k:Int)<(nv:Int):=by omega
   have hkV:k<lv.length:=by have:=HLN.out;omega
   have hkU:k<uu.length:=by have:=HUL.out;omega
   obtain ⟨g1,off1,hp1,hg1,hne,hc1⟩:=HV.out.cell_off HOF.out hkV;have cA:wo.cell? ⟨g1,off1+k,none⟩=some (.int .u32 (lv[k]:Int)):=by rw [HF.out.cell (p:=⟨g1,off1+k,none⟩) hg1 hne];exact hc1
   subst hp1;obtain ⟨x,hx⟩:∃x,lv[k]=x:=⟨_,rfl⟩;have hxl:x<4294967296:=by rw [←hx];exact HV.out.ok.get hkV
   obtain ⟨y,hy⟩:∃y,uu[k]=y:=⟨_,rfl⟩;have hyl:y<4294967296:=by rw [←hy];exact HUO.out.get hkU
   rw [hx] at cA;have hget:=win_get HXL.out HS.out hkU;rw [hy] at hget;have cU:wo.cell? ⟨g,j+k,none⟩=some (.int .u32 (y:Int)):=by rw [Lib.cell_of_heap HC.out];exact cellsK_some hget
   have hfr:wo.frozen? ⟨g,j+k,none⟩=false:=Lib.frozen_of_heap HC.out _;obtain ⟨t,ht⟩:∃t,q*x=t:=⟨_,rfl⟩;have htl:t≤18446744065119617025:=by rw [←ht];exact Nat.mul_le_mul (show q≤4294967295 by omega) (show x≤4294967295 by omega)
   have qt:(q:Int)*(x:Int)=(t:Int):=by rw [←ht];simp
   obtain ⟨p,hp⟩:∃p,t+c=p:=⟨_,rfl⟩;have hp' :p=q*x+c:=by rw [ht,hp]
   have qp:(t:Int)+(c:Int)=(p:Int):=by omega
   have hpl:p<18446744073709551616:=by omega
   obtain ⟨lo,hlo⟩:∃lo,p%4294967296=lo:=⟨_,rfl⟩;obtain ⟨c',hc'⟩:∃c',p/4294967296=c' :=⟨_,rfl⟩;have hc'l:c' <4294967296:=by omega
   obtain ⟨r,hr⟩:∃r,(y+8589934592-lo-b)%4294967296=r:=⟨_,rfl⟩;obtain ⟨b',hb'⟩:∃b',(if y<lo+b then 1 else 0)=b' :=⟨_,rfl⟩;have hb1:b' ≤1:=by rw [←hb'];split<;>omega
   have he:y+4294967296*b' =r+p%4294967296+b:=by rw [hlo, ←hb', ←hr];split<;>omega
   have hst:=take_step HS.out hkV hx hkU hy hp' HVL.out he;rw [hc'] at hst;have hrl:r<4294967296:=by omega
   have q1:(p:Int)/4294967296=(c' :Int):=by omega
   have q2:bits .and .u64 (p:Int) 4294967295=(lo:Int):=by
    have h:=u64_and_nat p 4294967295 hpl (by decide);rw [show (p &&& 4294967295:Nat)=lo by rw [←hlo];exact Nat.and_two_pow_sub_one_eq_mod p 32] at h;exact h
   have q3:IntKind.u64.wrap (IntKind.u64.wrap ((y:Int)-(lo:Int))-(b:Int))/9223372036854775808=(b' :Int):=by rw [IntKind.wrap_u64,IntKind.wrap_u64, ←hb'];split<;>omega
   have q4:IntKind.u64.wrap (IntKind.u64.wrap ((y:Int)-(lo:Int))-(b:Int))%4294967296=(r:Int):=by rw [IntKind.wrap_u64,IntKind.wrap_u64];omega
   have htl' :(t:Int)≤18446744065119617025:=by omega
   have HST:=hD hst;have HW:=hD (win_set (x:=r) HXL.out HS.out hkU);clear hst hx hy hget ht htl hp hp' hlo hc' hr hb' he hc1 hpl;go_wp2_with fail
   go_roundw
   case rel=>exact ⟨k+1,c',b',S++[r],by omega,by go_num,rfl,rfl,by omega,hb1,hD (by simp [HS.out]),hD (okB_snoc HO.out hrl),hD HST.out,hD (by rw [←HW.out];exact set_block HC.out),hD (HF.out.setCell (p:=⟨g,j+k,none⟩) (.inl rfl) _)⟩
   case measure=>simp [intOf];omega
  ·have hge:(nv:Int)≤(k:Int):=by omega
   obtain rfl:k=nv:=by omega
   have hkU:k<uu.length:=by have:=HUL.out;omega
   obtain ⟨y,hy⟩:∃y,uu[k]=y:=⟨_,rfl⟩;have hyl:y<4294967296:=by rw [←hy];exact HUO.out.get hkU
   have hget:=win_get HXL.out HS.out hkU;rw [hy] at hget;have cU:wo.cell? ⟨g,j+k,none⟩=some (.int .u32 (y:Int)):=by rw [Lib.cell_of_heap HC.out];exact cellsK_some hget
   have hfr:wo.frozen? ⟨g,j+k,none⟩=false:=Lib.frozen_of_heap HC.out _;obtain ⟨r,hr⟩:∃r,(y+8589934592-c-b)%4294967296=r:=⟨_,rfl⟩;have hrl:r<4294967296:=by omega
   have HW:=hD (win_set (x:=r) HXL.out HS.out hkU);have hv2:=HVL.out;rw [List.take_of_length_le (l:=lv) (by have:=HLN.out;omega)] at hv2;have hq0:IntKind.u64.wrap (IntKind.u64.wrap ((y:Int)-(c:Int))-(b:Int))%4294967296=(r:Int):=by rw [IntKind.wrap_u64,IntKind.wrap_u64];omega
   have htk:=valB_take_succ (B:=4294967296) hkU;rw [hy] at htk
   by_cases hbb:y<c+b
   ·have q3:IntKind.u64.wrap (IntKind.u64.wrap ((y:Int)-(c:Int))-(b:Int))/9223372036854775808=1:=by rw [IntKind.wrap_u64,IntKind.wrap_u64];omega
    have he:y+4294967296=r+c+b:=by omega
    have HE:Hid (valB 4294967296 (S++[r])+q*valB 4294967296 lv=valB 4294967296 (uu.take (k+1))+4294967296^(k+1)*1):=hD (by
     rw [valB_snoc,HS.out,htk,Nat.pow_succ];have e:=congrArg (4294967296^k* ·) he;simp only [Nat.mul_add] at e hv2;omega)
    clear hr hy hget hv2 htk hbb he;go_wp2_with fail;go_ret;exact ⟨1,S++[r],rfl,Nat.le_refl _,by simp [HS.out],okB_snoc HO.out hrl,HE.out,by rw [show uu.drop (k+1)=uu.drop (k+1) from rfl, ←HW.out];exact set_block HC.out,HF.out.setCell (p:=⟨g,j+k,none⟩) (.inl rfl) _⟩
   ·have q3:IntKind.u64.wrap (IntKind.u64.wrap ((y:Int)-(c:Int))-(b:Int))/9223372036854775808=0:=by rw [IntKind.wrap_u64,IntKind.wrap_u64];omega
    have he:y=r+c+b:=by omega
    have HE:Hid (valB 4294967296 (S++[r])+q*valB 4294967296 lv=valB 4294967296 (uu.take (k+1))+4294967296^(k+1)*0):=hD (by
     rw [valB_snoc,HS.out,htk,Nat.mul_zero];have e:=congrArg (4294967296^k* ·) he;simp only [Nat.mul_add] at e hv2;omega)
    clear hr hy hget hv2 htk hbb he;go_wp2_with fail;go_ret;exact ⟨0,S++[r],rfl,by omega,by simp [HS.out],okB_snoc HO.out hrl,HE.out,by rw [←HW.out];exact set_block HC.out,HF.out.setCell (p:=⟨g,j+k,none⟩) (.inl rfl) _⟩
set_option maxRecDepth 100000 in
theorem give_any (g j n cap:Nat) (U:List Nat) (vv:Value) (lv:List Nat) (w:World) (hU:w.heap[g]? =some (.cells (cellsK .u32 U) 133 (0,0))) (hUo:okB 4294967296 U) (hn:lv.length=n) (hj:j+n<U.length) (hn0:0<n) (hn9:n≤1000000000) (hv:Lim w vv lv) (hoff:offB vv g) :
  Calls Tryz.prog 155 #[.slice (some ⟨g,j,none⟩) (n+1) cap,vv] w fun e w' =>∃(c:Nat) (R:List Nat),e=.returned (.tuple #[])∧c≤1∧R.length=n+1∧okB 4294967296 R ∧
   valB 4294967296 R+4294967296^(n+1)*c=valB 4294967296 ((U.drop j).take (n+1))+valB 4294967296 lv ∧
   w'.heap[g]? =some (.cells (cellsK .u32 (U.take j++(R++U.drop (j+n+1)))) 133 (0,0))∧Fr (fun b=>b=g) w w' :=by
 obtain ⟨pv,nv,cv,rfl,hnv,hcv,hcmv⟩:=hv.open_;obtain rfl:nv=n:=by omega
 obtain ⟨X,hX⟩:∃X,U.take j=X:=⟨_,rfl⟩;obtain ⟨uu,huu⟩:∃uu,U.drop j=uu:=⟨_,rfl⟩;have hXl:X.length=j:=by rw [←hX,List.length_take];omega
 have hul:nv+1≤uu.length:=by rw [←huu,List.length_drop];omega
 have huo:okB 4294967296 uu:=by rw [←huu];exact hUo.drop _
 have hUX:U=X++uu:=by rw [←hX, ←huu,List.take_append_drop]
 have hdd:U.drop (j+nv+1)=uu.drop (nv+1):=by rw [←huu,List.drop_drop];congr 1
 rw [hdd,hX,huu];rw [hUX] at hU;have HV:=hD hv;have HOF:=hD hoff;have HLN:=hD hn;have HUL:=hD hul;have HUO:=hD huo;have HXL:=hD hXl;have HU:=hD hU;have hn1:(nv:Int)≤1000000000:=by omega
 have hgw:g<w.heap.size:=(Array.getElem?_eq_some_iff.1 hU).1;clear hv hoff hn hul huo hXl hU hj hcv hcmv hnv hX huu hUX hdd hUo hn9;go_enter Tryz.func155,Tryz.ntmps155;go_wp2_with fail
 go_loopw [9,5,6,4] (fun i _ _ cv wr=>∃(k c:Nat) (S:List Nat),k≤nv∧i=.int .i64 (k:Int)∧cv=.int .u64 (c:Int)∧c≤1∧Hid (S.length=k)∧Hid (okB 4294967296 S) ∧
   Hid (valB 4294967296 S+4294967296^k*c=valB 4294967296 (uu.take k)+valB 4294967296 (lv.take k)) ∧
   Hid (wr.heap[g]? =some (.cells (cellsK .u32 (X++(S++uu.drop k))) 133 (0,0)))∧Hid (Fr (fun b=>b=g) w wr)) (fun i _ _ _ _=>nv-(intOf i).toNat)
 case atStart=>exact ⟨0,0,[],by omega,rfl,rfl,by omega,hD rfl,hD (okB_nil _),hD (by simp [valB]),hD (by simpa using HU.out),hD (Fr.refl _ _)⟩
 case round =>
  obtain ⟨k,c,S,hk,rfl,rfl,hc,HS,HO,HVL,HC,HF⟩:=hrel;obtain ⟨wo,hwo⟩:∃wo,wo=wr:=⟨_,rfl⟩;subst hwo
  by_cases hlt:k<nv
  ·have hlt' :(k:Int)<(nv:Int):=by omega
   have hkV:k<lv.length:=by have:=HLN.out;omega
   have hkU:k<uu.length:=by have:=HUL.out;omega
   obtain ⟨g1,off1,hp1,hg1,hne,hc1⟩:=HV.out.cell_off HOF.out hkV;have cA:wo.cell? ⟨g1,off1+k,none⟩=some (.int .u32 (lv[k]:Int)):=by rw [HF.out.cell (p:=⟨g1,off1+k,none⟩) hg1 hne];exact hc1
   subst hp1;obtain ⟨x,hx⟩:∃x,lv[k]=x:=⟨_,rfl⟩;have hxl:x<4294967296:=by rw [←hx];exact HV.out.ok.get hkV
   obtain ⟨y,hy⟩:∃y,uu[k]=y:=⟨_,rfl⟩;have hyl:y<4294967296:=by rw [←hy];exact HUO.out.get hkU
   rw [hx] at cA;have hget:=win_get HXL.out HS.out hkU;rw [hy] at hget;have cU:wo.cell? ⟨g,j+k,none⟩=some (.int .u32 (y:Int)):=by rw [Lib.cell_of_heap HC.out];exact cellsK_some hget
   have hst:=give_step HS.out hkV hx hkU hy HVL.out;obtain ⟨s,hs⟩:∃s,y+x+c=s:=⟨_,rfl⟩;rw [hs] at hst;obtain ⟨r,hr⟩:∃r,s%4294967296=r:=⟨_,rfl⟩;obtain ⟨c',hc'⟩:∃c',s/4294967296=c' :=⟨_,rfl⟩;rw [hr,hc'] at hst;have hrl:r<4294967296:=by omega
   have hcl:c' ≤1:=by omega
   have w1:IntKind.u64.wrap (y:Int)=(y:Int):=by rw [IntKind.wrap_u64];omega
   have w2:IntKind.u64.wrap (x:Int)=(x:Int):=by rw [IntKind.wrap_u64];omega
   have w3:IntKind.u64.wrap ((y:Int)+(x:Int))=(y:Int)+(x:Int):=by rw [IntKind.wrap_u64];omega
   have w4:IntKind.u64.wrap ((y:Int)+(x:Int)+(c:Int))=(s:Int):=by rw [IntKind.wrap_u64];omega
   have q1:(s:Int)%4294967296=(r:Int):=by omega
   have q2:(s:Int)/4294967296=(c' :Int):=by omega
   have HST:=hD hst;have HW:=hD (win_set (x:=r) HXL.out HS.out hkU);have HY:=hD hxl;have HY2:=hD hyl;clear hst hx hy hget hs hr hc' hc1 hxl hyl;go_wp2_with fail
   go_quiet (fail)
   clear w1 w2 w3 w4;have hfr:(wo.drewN nq).frozen? ⟨g,j+k,none⟩=false:=Lib.frozen_of_heap (show (wo.drewN nq).heap[g]? =_ from HC.out) _;have cU2:(wo.drewN nq).cell? ⟨g,j+k,none⟩=some (.int .u32 _):=cU;go_wp2_with fail
   go_roundw
   case rel=>exact ⟨k+1,c',S++[r],by omega,by go_num,rfl,hcl,hD (by simp [HS.out]),hD (okB_snoc HO.out hrl),hD HST.out,hD (by rw [←HW.out];exact set_block (W:=wo.drewN nq) HC.out),hD ((fr_drewN HF.out nq).setCell (p:=⟨g,j+k,none⟩) (.inl rfl) _)⟩
   case measure=>simp [intOf];omega
  ·have hge:(nv:Int)≤(k:Int):=by omega
   obtain rfl:k=nv:=by omega
   have hkU:k<uu.length:=by have:=HUL.out;omega
   obtain ⟨y,hy⟩:∃y,uu[k]=y:=⟨_,rfl⟩;have hyl:y<4294967296:=by rw [←hy];exact HUO.out.get hkU
   have hget:=win_get HXL.out HS.out hkU;rw [hy] at hget;have cU:wo.cell? ⟨g,j+k,none⟩=some (.int .u32 (y:Int)):=by rw [Lib.cell_of_heap HC.out];exact cellsK_some hget
   have hfr:wo.frozen? ⟨g,j+k,none⟩=false:=Lib.frozen_of_heap HC.out _;obtain ⟨r,hr⟩:∃r,(y+c)%4294967296=r:=⟨_,rfl⟩;obtain ⟨c',hc'⟩:∃c',(y+c)/4294967296=c' :=⟨_,rfl⟩;have hrl:r<4294967296:=by omega
   have hcl:c' ≤1:=by omega
   have HW:=hD (win_set (x:=r) HXL.out HS.out hkU);have hv2:=HVL.out;rw [List.take_of_length_le (l:=lv) (by have:=HLN.out;omega)] at hv2;have htk:=valB_take_succ (B:=4294967296) hkU;rw [hy] at htk;have q1:((y:Int)+(c:Int))%4294967296=(r:Int):=by omega
   have q2:(c:Int)%4294967296=(c:Int):=by omega
   have HE:Hid (valB 4294967296 (S++[r])+4294967296^(k+1)*c' =valB 4294967296 (uu.take (k+1))+valB 4294967296 lv):=hD (by
    have e:=carry_step (B:=4294967296) (S:=S) (y+c);rw [HS.out,hr,hc'] at e;rw [e,htk,Nat.mul_add];omega)
   clear hr hc' hy hget hv2 htk hyl;go_wp2_with fail
   go_end0
   exact ⟨c',S++[r],rfl,hcl,by simp [HS.out],okB_snoc HO.out hrl,HE.out,by rw [←HW.out];exact set_block HC.out,HF.out.setCell (p:=⟨g,j+k,none⟩) (.inl rfl) _⟩
end Go.Proofs.YtblgfmjlajhipaaGreatDoor
namespace Go.Proofs.YtblgfmjlajhipaaGreatDoor
open Go.RowKit Go.Shelf
open Dgt
def EstR (T V u2 q:Nat):Prop:=q<4294967296∧q*V≤T*4294967296+u2∧(q=4294967295∨T*4294967296+u2<(q+1)*V)
def EstI (T v0 v1 u2 q r:Nat):Prop:=q≤4294967297∧q*v0+r=T∧r<4294967296∧(4294967295≤q∨T*4294967296+u2<(q+1)*(v0*4294967296+v1))
theorem est_init {u0 u1 u2 v0 v1:Nat} (h1:u1<4294967296) (h2:u2<4294967296) (hv:2147483648≤v0) (hv2:v0<4294967296) (hu:u0≤v0):EstI (u0*4294967296+u1) v0 v1 u2 ((u0*4294967296+u1)/v0) ((u0*4294967296+u1)%v0):=by
 have hT0:u0*4294967296+u1<v0*4294967298:=by omega
 generalize u0*4294967296+u1=T at hT0 ⊢
 have hm:=Nat.mod_lt T (show 0<v0 by omega);refine ⟨?_,Nat.div_add_mod' _ _,by omega,.inr ?_⟩
 ·have:T/v0<4294967298:=by
   rw [Nat.div_lt_iff_lt_mul (by omega),Nat.mul_comm];exact hT0
  omega
 ·have h:=Nat.lt_div_mul_add (a:=T) (show 0<v0 by omega)
  generalize T/v0=q at h ⊢
  have e:(q+1)*(v0*4294967296+v1)=(q*v0+v0)*4294967296+(q+1)*v1:=by
   rw [Nat.mul_add, ←Nat.mul_assoc,Nat.add_mul q 1 v0,Nat.one_mul]
  rw [e];clear e hm hT0 hv hv2 hu h1
  generalize q*v0+v0=y at h ⊢
  generalize (q+1)*v1=z
  omega
theorem est_prod {T v0 v1 q r:Nat} (h:q*v0+r=T):q*(v0*4294967296+v1)+r*4294967296=T*4294967296+q*v1:=by
 rw [←h,Nat.mul_add, ←Nat.mul_assoc,Nat.add_mul];omega
theorem lin_lt {a b c d u:Nat} (h1:a+d=c+b) (h2:d+u<b):c+u<a:=by omega
theorem est_exit {T v0 v1 u2 q r:Nat} (h:EstI T v0 v1 u2 q r) (hq:q<4294967296) (hc:q*v1≤r*4294967296+u2):EstR T (v0*4294967296+v1) u2 q:=by
 obtain ⟨-,h2,-,h4⟩:=h;have:=est_prod (v1:=v1) h2;exact ⟨hq,by omega,h4.imp (fun h=>by omega) id⟩
theorem est_step {T v0 v1 u2 q r:Nat} (h:EstI T v0 v1 u2 q r) (hc:4294967296≤q∨r*4294967296+u2<q*v1):∃p,q=p+1∧p≤4294967297∧p*v0+(r+v0)=T∧(4294967295≤p∨T*4294967296+u2<(p+1)*(v0*4294967296+v1)):=by
 obtain ⟨h1,h2,h3,h4⟩:=h;rcases q with _|p
 ·rcases hc with h|h
  ·omega
  ·simp at h
 ·refine ⟨p,rfl,by omega,by rw [Nat.add_mul p 1 v0,Nat.one_mul] at h2;omega,?_⟩;rcases hc with h|h
  ·left;omega
  ·right
   exact lin_lt (est_prod (v1:=v1) h2) h
theorem est_break {u0 u1 v0 v1 u2 p r:Nat} (hu:u0≤v0) (h1:u1<4294967296) (hv1:v1<4294967296) (h:p*v0+r=u0*4294967296+u1) (hr:4294967296≤r) (h4:4294967295≤p∨(u0*4294967296+u1)*4294967296+u2<(p+1)*(v0*4294967296+v1)):EstR (u0*4294967296+u1) (v0*4294967296+v1) u2 p:=by
 have hp:p<4294967296:=by
  rcases Nat.lt_or_ge p 4294967296 with h' |h'
  ·exact h'
  ·have:=Nat.mul_le_mul_right v0 h';have:=Nat.mul_le_mul_right 4294967296 hu;omega
 have:=est_prod (v1:=v1) h;have h5:p*v1≤4294967295*4294967295:=Nat.mul_le_mul (by omega) (by omega);exact ⟨hp,by omega,h4.imp (fun h=>by omega) id⟩
set_option maxRecDepth 100000 in
theorem estimate_any (u0 u1 u2 v0 v1:Nat) (w:World) (h0:u0<4294967296) (h1:u1<4294967296) (h2:u2<4294967296) (hv:2147483648≤v0) (hv0:v0<4294967296) (hv1:v1<4294967296) (hu:u0≤v0) :
  Calls Tryz.prog 153 #[.agg #[.int .u32 (u0:Int),.int .u32 (u1:Int),.int .u32 (u2:Int)],.agg #[.int .u32 (v0:Int),.int .u32 (v1:Int),.int .u32 0]] w fun e w' =>∃q:Nat,e=.returned (.int .u64 (q:Int))∧EstR (u0*4294967296+u1) (v0*4294967296+v1) u2 q∧Below w.heap.size w w' :=by
 have HI:=hD (est_init (v1:=v1) h1 h2 hv hv0 hu);have HBR:=hD (fun p r h hr h4=>est_break (p:=p) (r:=r) (u2:=u2) hu h1 hv1 h hr h4);obtain ⟨r1,hr1⟩:∃r,u0*4294967296=r:=⟨_,rfl⟩;obtain ⟨T,hT⟩:∃T,u0*4294967296+u1=T:=⟨_,rfl⟩;rw [hT] at HI HBR ⊢;have e5:r1 ||| u1=T:=by
  rw [←hT,hr1, ←hr1,show (4294967296:Nat)=2^32 by decide,Nat.or_comm,shl_join (by simpa using h1),Nat.add_comm]
 have hTl:T<18446744073709551616:=by omega
 have q1:(u0:Int)*4294967296=(r1:Int):=by omega
 have q2:bits .or .u64 (r1:Int) (u1:Int)=(T:Int):=by rw [u64_or_nat _ _ (by omega) (by omega),e5]
 obtain ⟨q,hq⟩:∃q,T/v0=q:=⟨_,rfl⟩;obtain ⟨r,hr⟩:∃r,T%v0=r:=⟨_,rfl⟩;rw [hq,hr] at HI;have q3:(T:Int)/(v0:Int)=(q:Int):=by rw [←hq];simp
 have q4:(T:Int).tmod (v0:Int)=(r:Int):=by rw [Int.tmod_eq_emod_of_nonneg (by omega), ←hr];simp
 have hql:q<18446744073709551616:=by have:=Nat.div_le_self T v0;omega
 have w1:IntKind.u64.wrap (v0:Int)=(v0:Int):=by rw [IntKind.wrap_u64];omega
 have w2:IntKind.u64.wrap (q:Int)=(q:Int):=by rw [IntKind.wrap_u64];omega
 have hvn:¬v0=0:=by omega
 have hu0' :(u0:Int)<4294967296:=by omega
 have hu1' :(u1:Int)<4294967296:=by omega
 have hr1' :(r1:Int)<18446744073709551616:=by omega
 have hv0' :(v0:Int)<4294967296:=by omega
 have hv1' :(v1:Int)<4294967296:=by omega
 have hu2' :(u2:Int)<4294967296:=by omega
 clear hr1 hT e5 hq hr h0 h1 h2 hv hv0 hv1 hu hTl hql;go_enter Tryz.func153,Tryz.ntmps153;go_wp2_with fail;have HB:=hD (((Below.refl w.heap.size w).alloc (Nat.le_refl _) (.cells #[.int .u32 (u0:Int),.int .u32 (u1:Int),.int .u32 (u2:Int)] 164)).alloc (by simp) (.cells #[.int .u32 (v0:Int),.int .u32 (v1:Int),.int .u32 0] 164));have k2:=heap_alloc_new (w.alloc (.cells #[.int .u32 (u0:Int),.int .u32 (u1:Int),.int .u32 (u2:Int)] 164)) (.cells #[.int .u32 (v0:Int),.int .u32 (v1:Int),.int .u32 0] 164);have k1:=hpU ((Below.refl _ (w.alloc (.cells #[.int .u32 (u0:Int),.int .u32 (u1:Int),.int .u32 (u2:Int)] 164))).alloc (Nat.le_refl _) (.cells #[.int .u32 (v0:Int),.int .u32 (v1:Int),.int .u32 0] 164)) (heap_alloc_new w (.cells #[.int .u32 (u0:Int),.int .u32 (u1:Int),.int .u32 (u2:Int)] 164))
 have hsz:(w.alloc (.cells #[.int .u32 (u0:Int),.int .u32 (u1:Int),.int .u32 (u2:Int)] 164)).heap.size=w.heap.size+1:=by simp
 rw [hsz] at k2;obtain ⟨V,hV⟩:∃V,(w.alloc (.cells #[.int .u32 (u0:Int),.int .u32 (u1:Int),.int .u32 (u2:Int)] 164)).alloc (.cells #[.int .u32 (v0:Int),.int .u32 (v1:Int),.int .u32 0] 164)=V:=⟨_,rfl⟩;rw [hV] at HB k1 k2 ⊢;obtain ⟨b,hb⟩:∃b,w.heap.size=b:=⟨_,rfl⟩;rw [hb] at k1 k2 ⊢;have HBW:=hD hb;have cu0:V.cell? ⟨b,0,none⟩=some (.int .u32 (u0:Int)):=by rw [Lib.cell_of_heap k1];rfl
 have cu1:V.cell? ⟨b,1,none⟩=some (.int .u32 (u1:Int)):=by rw [Lib.cell_of_heap k1];rfl
 have cu2:V.cell? ⟨b,2,none⟩=some (.int .u32 (u2:Int)):=by rw [Lib.cell_of_heap k1];rfl
 have cv0:V.cell? ⟨b+1,0,none⟩=some (.int .u32 (v0:Int)):=by rw [Lib.cell_of_heap k2];rfl
 have cv1:V.cell? ⟨b+1,1,none⟩=some (.int .u32 (v1:Int)):=by rw [Lib.cell_of_heap k2];rfl
 clear k1 k2 hsz hV hb
 go_step3
 go_wp2_with fail
 go_quiet (fail)
 go_wp2_with fail
 go_step3
 go_wp2_with fail;clear q1 q2 q3 q4 w1 w2 hvn;have HB:=hD (below_drewN HB.out nq);obtain ⟨W,hW⟩:∃W,V.drewN nq=W:=⟨_,rfl⟩;rw [hW] at HB ⊢;have cu2:W.cell? ⟨b,2,none⟩=some (.int .u32 (u2:Int)):=by rw [←hW];exact cu2
 have cv0:W.cell? ⟨b+1,0,none⟩=some (.int .u32 (v0:Int)):=by rw [←hW];exact cv0
 have cv1:W.cell? ⟨b+1,1,none⟩=some (.int .u32 (v1:Int)):=by rw [←hW];exact cv1
 clear hW cu0 cu1
 go_loop [6,7] (fun qv rv=>∃q r:Nat,qv=.int .u64 (q:Int)∧rv=.int .u64 (r:Int)∧(q:Int)≤4294967297∧(r:Int)<4294967296∧Hid (EstI T v0 v1 u2 q r)) (fun qv _=>(intOf qv).toNat)
 case atStart=>exact ⟨q,r,rfl,rfl,by have:=HI.out.1;omega,by have:=HI.out.2.2.1;omega,HI⟩
 case round =>
  clear HI;obtain ⟨q,r,rfl,rfl,hq,hr,HI⟩:=hrel;obtain ⟨pr,hpr⟩:∃z,q*v1=z:=⟨_,rfl⟩;obtain ⟨rs,hrs⟩:∃z,r*4294967296=z:=⟨_,rfl⟩;have hu2n:u2<4294967296:=by omega
  have e5:rs ||| u2=rs+u2:=by
   rw [←hrs,show (4294967296:Nat)=2^32 by decide,Nat.or_comm,shl_join (by simpa using hu2n),Nat.add_comm]
  obtain ⟨z,hz⟩:∃z,rs+u2=z:=⟨_,rfl⟩;have q1:(r:Int)*4294967296=(rs:Int):=by omega
  have hrsl:(rs:Int)<18446744073709551616:=by omega
  have q2:bits .or .u64 (rs:Int) (u2:Int)=(z:Int):=by rw [u64_or_nat _ _ (by omega) (by omega),e5,hz]
  have HZ:Hid (z=r*4294967296+u2):=hD (by rw [hrs,hz]);have HP:=hD hpr;clear hrs hz e5 hu2n
  by_cases hb:4294967296≤q
  ·have hb' :4294967295<(q:Int):=by omega
   obtain ⟨p,hqp,hp1,hp2,hp4⟩:=est_step HI.out (.inl hb);have qs:(q:Int)-1=(p:Int):=by omega
   have hqm:p<q:=by omega
   clear hqp;have HP4:=hD hp4;have HP2:=hD hp2;clear hp2 hp4;obtain ⟨r',hr'⟩:∃r',r+v0=r' :=⟨_,rfl⟩;have qr:(r:Int)+(v0:Int)=(r' :Int):=by omega
   have hp1' :(p:Int)≤4294967297:=by omega
   have HP1:=hD hp1;clear hp1;have HR:=hD hr';rw [HR.out] at HP2;clear hr'
   by_cases hrr:r' <4294967296
   ·have hrr' :(r' :Int)<4294967296:=by omega
    have HRR:=hD hrr;clear hrr hb;have hrr2:¬4294967295<(r' :Int):=by omega
    go_wp2_with fail
    go_round
    case rel=>exact ⟨p,r',by go_num,rfl,hp1',hrr',hD ⟨HP1.out,HP2.out,HRR.out,HP4.out⟩⟩
    case measure=>simp [intOf];omega
   ·have hrr' :4294967295<(r' :Int):=by omega
    have HF:=hD (HBR.out p r' HP2.out (by omega) HP4.out);clear hrr hb;go_wp2_with fail
    try rw [Exit.noGoto_ret]
    go_ret;exact ⟨p,by go_num,HF.out,HB.out⟩
  ·have hb' :¬4294967295<(q:Int):=by omega
   have hql:q≤4294967295:=by omega
   have hpl:pr≤18446744065119617025:=by rw [←HP.out];exact Nat.mul_le_mul hql (show v1≤4294967295 by omega)
   have qm:(q:Int)*(v1:Int)=(pr:Int):=by rw [←HP.out];simp
   by_cases hc:z<pr
   ·have hc' :(z:Int)<(pr:Int):=by omega
    have HC:=hD (show r*4294967296+u2<q*v1 by rw [←HZ.out,HP.out];exact hc);have hpl' :(pr:Int)≤18446744065119617025:=by omega
    obtain ⟨p,hqp,hp1,hp2,hp4⟩:=est_step HI.out (.inr HC.out);have qs:(q:Int)-1=(p:Int):=by omega
    have hqm:p<q:=by omega
    clear hqp;have HP4:=hD hp4;have HP2:=hD hp2;clear hp2 hp4;obtain ⟨r',hr'⟩:∃r',r+v0=r' :=⟨_,rfl⟩;have qr:(r:Int)+(v0:Int)=(r' :Int):=by omega
    have hp1' :(p:Int)≤4294967297:=by omega
    have HP1:=hD hp1;clear hp1;have HR:=hD hr';rw [HR.out] at HP2;clear hr'
    by_cases hrr:r' <4294967296
    ·have hrr' :(r' :Int)<4294967296:=by omega
     have HRR:=hD hrr;clear hrr hb hql hpl hc;have hrr2:¬4294967295<(r' :Int):=by omega
     go_wp2_with fail
     go_round
     case rel=>exact ⟨p,r',by go_num,rfl,hp1',hrr',hD ⟨HP1.out,HP2.out,HRR.out,HP4.out⟩⟩
     case measure=>simp [intOf];omega
    ·have hrr' :4294967295<(r' :Int):=by omega
     have HF:=hD (HBR.out p r' HP2.out (by omega) HP4.out);clear hrr hb hql hpl hc;go_wp2_with fail
     try rw [Exit.noGoto_ret]
     go_ret;exact ⟨p,by go_num,HF.out,HB.out⟩
   ·have hc' :¬(z:Int)<(pr:Int):=by omega
    have hpl' :(pr:Int)≤18446744065119617025:=by omega
    have HF:=hD (est_exit HI.out (by omega) (by rw [←HZ.out,HP.out];omega));clear hc hql hpl hb;go_wp2_with fail
    try rw [Exit.noGoto_ret]
    go_ret;exact ⟨q,rfl,HF.out,HB.out⟩
end Go.Proofs.YtblgfmjlajhipaaGreatDoor
namespace Go.Proofs.YtblgfmjlajhipaaGreatDoor
open Dgt
theorem est_digit {Vu V P u2 qh T V2:Nat} (hP:0<P) (h1:Vu<4294967296*V) (hT:T*4294967296+u2=Vu/P) (hV2:V2=V/P) (hbig:4294967296≤V2) (h:EstR T V2 u2 qh):Vu/V≤qh∧qh≤Vu/V+1:=by
 obtain ⟨hq,h2,h3⟩:=h;rw [hT] at h2 h3;have hV:0<V:=by
  rcases Nat.eq_zero_or_pos V with rfl|h
  ·simp at h1
  ·exact h
 have e1:V2*P≤V:=by rw [hV2];exact Nat.div_mul_le_self V P
 have e2:V<(V2+1)*P:=by rw [hV2,Nat.add_mul,Nat.one_mul];exact Nat.lt_div_mul_add hP
 have e3:Vu/P*P≤Vu:=Nat.div_mul_le_self Vu P;have e4:Vu<(Vu/P+1)*P:=by rw [Nat.add_mul,Nat.one_mul];exact Nat.lt_div_mul_add hP
 constructor
 ·have:Vu/V<qh+1:=by
   rw [Nat.div_lt_iff_lt_mul hV];rcases h3 with rfl|h3
   ·exact h1
   ·calc Vu<(Vu/P+1)*P:=e4
     _≤((qh+1)*V2)*P:=Nat.mul_le_mul_right _ h3
     _=(qh+1)*(V2*P):=Nat.mul_assoc _ _ _
     _≤(qh+1)*V:=Nat.mul_le_mul_left _ e1
  omega
 ·rcases qh with _|p
  ·exact Nat.zero_le _
  ·have:p≤Vu/V:=by
    rw [Nat.le_div_iff_mul_le hV];have f1:p*V≤p*((V2+1)*P):=Nat.mul_le_mul_left _ (Nat.le_of_lt e2);have f2:p*((V2+1)*P)=(p*V2+p)*P:=by rw [←Nat.mul_assoc,Nat.mul_add,Nat.mul_one]
    have f3:(p*V2+p)*P≤((p+1)*V2)*P:=Nat.mul_le_mul_right _ (by rw [Nat.add_mul p 1 V2,Nat.one_mul];omega);have f4:((p+1)*V2)*P≤Vu/P*P:=Nat.mul_le_mul_right _ h2;rw [f2] at f1;exact Nat.le_trans f1 (Nat.le_trans f3 (Nat.le_trans f4 e3))
   omega
theorem digit_right {Vu V qh R E:Nat} (hV:0<V) (hd:Vu/V≤qh) (h:R+qh*V=Vu+E*0):qh=Vu/V∧R=Vu%V:=by
 have h1:qh*V≤Vu:=by omega
 have h2:qh≤Vu/V:=(Nat.le_div_iff_mul_le hV).2 h1;have h3:qh=Vu/V:=by omega
 refine ⟨h3,?_⟩;have:=Nat.div_add_mod' Vu V;rw [h3] at h;omega
theorem digit_less {Vu V qh R R' E c:Nat} (hV:0<V) (hd:qh≤Vu/V+1) (hE:V≤E) (hR:R<E) (hR' :R' <E) (h:R+qh*V=Vu+E*1) (hc:c≤1) (h2:R' +E*c=R+V):∃p,qh=p+1∧p=Vu/V∧R' =Vu%V:=by
 have h3:¬qh≤Vu/V:=fun h' =>by
  have:=(Nat.le_div_iff_mul_le hV).1 h';omega
 have h4:qh=Vu/V+1:=by omega
 refine ⟨Vu/V,h4,rfl,?_⟩;have h5:=Nat.div_add_mod' Vu V;have h6:=Nat.mod_lt Vu hV;rw [h4,Nat.add_mul,Nat.one_mul] at h;rcases (by omega:c=0∨c=1) with rfl|rfl<;>simp at h2 h<;>omega
theorem window {U:List Nat} (ho:okB 4294967296 U) {k n V:Nat} (hl:k+n<U.length) (hV:V<4294967296^n) (h:valB 4294967296 U<V*4294967296^(k+1)) :
  valB 4294967296 U=valB 4294967296 (U.take k)+4294967296^k*valB 4294967296 ((U.drop k).take (n+1))∧valB 4294967296 ((U.drop k).take (n+1))<4294967296*V∧valB 4294967296 (U.drop (k+n+1))=0:=by
 have e1:=valB_split 4294967296 U k;rw [Nat.min_eq_left (by omega)] at e1;have e2:=valB_split 4294967296 (U.drop k) (n+1);rw [List.length_drop,Nat.min_eq_left (by omega),List.drop_drop] at e2;have hp:0<4294967296^k:=Nat.pow_pos (by decide);have e3:valB 4294967296 (U.drop (k+(n+1)))=0:=by
  rcases Nat.eq_zero_or_pos (valB 4294967296 (U.drop (k+(n+1)))) with h0|h0
  ·exact h0
  ·exfalso
   have f1:4294967296^(n+1)≤4294967296^(n+1)*valB 4294967296 (U.drop (k+(n+1))):=Nat.le_mul_of_pos_right _ h0;have f2:4294967296^k*4294967296^(n+1)≤4294967296^k*valB 4294967296 (U.drop k):=Nat.mul_le_mul_left _ (by omega);have f3:V*4294967296^(k+1)≤4294967296^n*4294967296^(k+1):=Nat.mul_le_mul_right _ (Nat.le_of_lt hV);rw [←Nat.pow_add] at f2 f3;rw [show n+(k+1)=k+(n+1) by omega] at f3;omega
 rw [e3,Nat.mul_zero,Nat.add_zero] at e2;refine ⟨by rw [←e2];exact e1,?_,e3⟩;rw [←e2];have f4:4294967296^k*valB 4294967296 (U.drop k)<4294967296^k*(4294967296*V):=by
  have:V*4294967296^(k+1)=4294967296^k*(4294967296*V):=by rw [Nat.pow_succ,Nat.mul_comm V,Nat.mul_assoc]
  omega
 exact Nat.lt_of_mul_lt_mul_left f4
theorem div_step {U R Q:List Nat} {k n V M:Nat} (ho:okB 4294967296 U) (hl:k+n<U.length) (hV0:0<V) (hV:V<4294967296^n) (h:valB 4294967296 U<V*4294967296^(k+1)) (hM:valB 4294967296 U+V*4294967296^(k+1)*valB 4294967296 Q=M)
  (hRl:R.length=n+1) (hR:valB 4294967296 R=valB 4294967296 ((U.drop k).take (n+1))%V) :
  valB 4294967296 (U.take k++(R++U.drop (k+n+1)))<V*4294967296^k∧valB 4294967296 (U.take k++(R++U.drop (k+n+1)))+V*4294967296^k*valB 4294967296 (valB 4294967296 ((U.drop k).take (n+1))/V::Q)=M:=by
 obtain ⟨e1,e2,e3⟩:=window ho hl hV h
 generalize valB 4294967296 ((U.drop k).take (n+1))=Vu at e1 e2 hR ⊢
 have hX:valB 4294967296 (U.take k)<4294967296^k:=by
  have:=valB_lt (ho.take k)
  rwa [List.length_take,Nat.min_eq_left (by omega)] at this
 have e4:valB 4294967296 (U.take k++(R++U.drop (k+n+1)))=valB 4294967296 (U.take k)+4294967296^k*(Vu%V):=by
  rw [valB_append,valB_append,e3,Nat.mul_zero,Nat.add_zero,hR,List.length_take,Nat.min_eq_left (by omega)]
 rw [e4];have h5:=Nat.mod_lt Vu hV0;have h6:=Nat.div_add_mod' Vu V
 generalize valB 4294967296 (U.take k)=X at e1 hX ⊢
 generalize hP:4294967296^k=P at e1 hX ⊢
 have hPs:4294967296^(k+1)=P*4294967296:=by rw [Nat.pow_succ,hP]
 rw [hPs] at hM
 constructor
 ·have:P*(Vu%V)+P≤P*V:=by rw [←Nat.mul_succ];exact Nat.mul_le_mul_left _ h5
  rw [Nat.mul_comm V P];omega
 ·rw [valB, ←hM,e1];have g1:P*Vu=P*(Vu/V*V)+P*(Vu%V):=by rw [←Nat.mul_add,h6]
  have g2:V*P*(Vu/V+4294967296*valB 4294967296 Q)=P*(Vu/V*V)+V*(P*4294967296)*valB 4294967296 Q:=by
   rw [Nat.mul_add,Nat.mul_comm V P,Nat.mul_assoc P V (Vu/V),Nat.mul_comm V (Vu/V)]
   congr 1
   rw [←Nat.mul_assoc,Nat.mul_comm P V,Nat.mul_assoc V P]
  rw [g1,g2];omega
theorem div_end {U Q:List Nat} {V M m n s:Nat} (hV0:0<V) (h:valB 4294967296 U<V*4294967296^0) (hM:valB 4294967296 U+V*4294967296^0*valB 4294967296 Q=M) (hVe:V=n*2^s) (hMe:M=m*2^s):valB 4294967296 Q=m/n∧valB 4294967296 U/2^s=m%n:=by
 rw [Nat.pow_zero,Nat.mul_one] at h hM;have hp:0<2^s:=Nat.pow_pos (by decide);have e1:M/V=valB 4294967296 Q:=by
  rw [←hM,Nat.add_mul_div_left _ _ hV0,Nat.div_eq_of_lt h,Nat.zero_add]
 have e2:M%V=valB 4294967296 U:=by
  rw [←hM,Nat.add_mul_mod_self_left,Nat.mod_eq_of_lt h]
 constructor
 ·rw [←e1,hVe,hMe,Nat.mul_div_mul_right _ _ hp]
 ·rw [←e2,hVe,hMe,Nat.mul_mod_mul_right,Nat.mul_div_cancel _ hp]
theorem bitLen_bd {x:Nat} (h0:0<x) (h:x<2^64):0<Lib.bitLen x∧2^(Lib.bitLen x-1)≤x∧x<2^Lib.bitLen x:=by
 have hp:0<Lib.bitLen x:=by rw [Lib.bitLen_half x (by omega) h];omega
 have hl:Lib.bitLen x≤64:=Lib.bitLen_le x 64 (Nat.le_refl _) h;refine ⟨hp,?_,?_⟩
 ·rcases Nat.lt_or_ge x (2^(Lib.bitLen x-1)) with h' |h'
  ·have:=Lib.bitLen_le x (Lib.bitLen x-1) (by omega) h';omega
  ·exact h'
 ·rcases Nat.lt_or_ge x (2^Lib.bitLen x) with h' |h'
  ·exact h'
  ·have h1:=Lib.bitLen_shift (Lib.bitLen x) x h' h;have h2:0<x/2^Lib.bitLen x:=Nat.div_pos h' (Nat.pow_pos (by decide));have h3:0<Lib.bitLen (x/2^Lib.bitLen x):=by rw [Lib.bitLen_half _ (by omega) (Nat.lt_of_le_of_lt (Nat.div_le_self _ _) h)];omega
   omega
theorem norm_div {n nb top:Nat} (hn:0<n) (hnb:(digs 4294967296 n).length=nb) (h2:0<nb) (ht:(digs 4294967296 n)[nb-1]? =some top) :
  0<top∧∃s,32-Lib.bitLen top=s∧s<32∧Lib.bitLen top≤32∧(digs 4294967296 (n*2^s)).length=nb∧n*2^s<4294967296^nb∧2147483648*4294967296^(nb-1)≤n*2^s:=by
 have ho:=okB_digs (B:=4294967296) (by decide) n;have hz:=nzL_digs (B:=4294967296) (by decide) n;obtain ⟨l,hl⟩:∃l,digs 4294967296 n=l:=⟨_,rfl⟩;rw [hl] at hnb ht ho hz;obtain ⟨hi,hg⟩:=List.getElem?_eq_some_iff.1 ht;have hne:l≠[]:=by rintro rfl;simp at hi
 have ht0:0<top:=by
  have:=hz hne;rw [List.getLast_eq_getElem] at this;simp only [hnb] at this;rw [hg] at this;omega
 have htl:top<4294967296:=by rw [←hg];exact ho.get hi
 obtain ⟨b1,b2,b3⟩:=bitLen_bd ht0 (by omega);have b4:Lib.bitLen top≤32:=Lib.bitLen_le top 32 (by decide) (by omega);have hv:=valB_digs (B:=4294967296) (by decide) n;rw [hl] at hv;have hsp:=valB_split 4294967296 l (nb-1);rw [Nat.min_eq_left (by omega),List.drop_eq_getElem_cons hi,hg,List.drop_eq_nil_of_le (by omega)] at hsp;simp only [valB,Nat.mul_zero,Nat.add_zero] at hsp;rw [hv] at hsp;have hlo:=valB_lt (ho.take (nb-1));rw [List.length_take,Nat.min_eq_left (by omega)] at hlo;refine ⟨ht0,_,rfl,by omega,b4,?_⟩
 generalize hs:32-Lib.bitLen top=s
 have e1:top*2^s<4294967296:=by
  have:=Nat.mul_lt_mul_of_pos_right b3 (show 0<2^s from Nat.pow_pos (by decide));rw [←Nat.pow_add, ←hs,show Lib.bitLen top+(32-Lib.bitLen top)=32 by omega,hs] at this;exact this
 have e2:2147483648≤top*2^s:=by
  have:=Nat.mul_le_mul_right (2^s) b2;rw [←Nat.pow_add, ←hs,show Lib.bitLen top-1+(32-Lib.bitLen top)=31 by omega,hs] at this;exact this
 have e3:n*2^s<4294967296^nb:=by
  have f1:n<4294967296^(nb-1)*(top+1):=by rw [Nat.mul_add,Nat.mul_one];omega
  have hp:0<2^s:=Nat.pow_pos (by decide);have f3:(top+1)*2^s≤4294967296:=by
   have:=Nat.mul_le_mul_right (2^s) (show top+1≤2^Lib.bitLen top from b3);rw [←Nat.pow_add, ←hs,show Lib.bitLen top+(32-Lib.bitLen top)=32 by omega,hs] at this;exact this
  have f4:n*2^s<4294967296^(nb-1)*(top+1)*2^s:=Nat.mul_lt_mul_of_pos_right f1 hp;have f5:4294967296^(nb-1)*(top+1)*2^s≤4294967296^(nb-1)*4294967296:=by rw [Nat.mul_assoc];exact Nat.mul_le_mul_left _ f3
  rw [←Nat.pow_succ,show (nb-1).succ=nb by omega] at f5;exact Nat.lt_of_lt_of_le f4 f5
 have e4:2147483648*4294967296^(nb-1)≤n*2^s:=by
  have f1:4294967296^(nb-1)*top≤n:=by omega
  have f2:=Nat.mul_le_mul_right (2^s) f1;rw [Nat.mul_assoc] at f2;have f3:=Nat.mul_le_mul_left (4294967296^(nb-1)) e2;rw [Nat.mul_comm 2147483648];exact Nat.le_trans f3 f2
 refine ⟨?_,e3,e4⟩
 apply Nat.le_antisymm (digs_len_le (by decide) e3)
 have h3:n≤n*2^s:=Nat.le_mul_of_pos_right _ (Nat.pow_pos (by decide));have:=digs_len_mono (B:=4294967296) (by decide) h3;rw [hl,hnb] at this;exact this
theorem top_two {l:List Nat} (ho:okB 4294967296 l) {n x y:Nat} (hl:l.length=n+2) (hx:l[n+1]? =some x) (hy:l[n]? =some y):x*4294967296+y=valB 4294967296 l/4294967296^n:=by
 obtain ⟨i1,g1⟩:=List.getElem?_eq_some_iff.1 hx;obtain ⟨i2,g2⟩:=List.getElem?_eq_some_iff.1 hy;have h:=valB_split 4294967296 l n;rw [Nat.min_eq_left (by omega),List.drop_eq_getElem_cons i2,List.drop_eq_getElem_cons i1,List.drop_eq_nil_of_le (by omega),g1,g2] at h;simp only [valB,Nat.mul_zero,Nat.add_zero] at h;have hlo:=valB_lt (ho.take n);rw [List.length_take,Nat.min_eq_left (by omega)] at hlo;rw [h,Nat.add_mul_div_left _ _ (Nat.pow_pos (by decide)),Nat.div_eq_of_lt hlo];omega
theorem top_three {l:List Nat} (ho:okB 4294967296 l) {n x y z:Nat} (hl:l.length=n+3) (hx:l[n+2]? =some x) (hy:l[n+1]? =some y) (hz:l[n]? =some z):(x*4294967296+y)*4294967296+z=valB 4294967296 l/4294967296^n:=by
 obtain ⟨i1,g1⟩:=List.getElem?_eq_some_iff.1 hx;obtain ⟨i2,g2⟩:=List.getElem?_eq_some_iff.1 hy;obtain ⟨i3,g3⟩:=List.getElem?_eq_some_iff.1 hz;have h:=valB_split 4294967296 l n;rw [Nat.min_eq_left (by omega),List.drop_eq_getElem_cons i3,List.drop_eq_getElem_cons i2,List.drop_eq_getElem_cons i1,List.drop_eq_nil_of_le (by omega),g1,g2,g3] at h;simp only [valB,Nat.mul_zero,Nat.add_zero] at h;have hlo:=valB_lt (ho.take n);rw [List.length_take,Nat.min_eq_left (by omega)] at hlo;rw [h,Nat.add_mul_div_left _ _ (Nat.pow_pos (by decide)),Nat.div_eq_of_lt hlo];omega
end Go.Proofs.YtblgfmjlajhipaaGreatDoor
namespace Go.Proofs.YtblgfmjlajhipaaGreatDoor
open Go.RowKit Go.Shelf
open Dgt
def DivPost (m n:Nat) (w:World) (e:Ending) (w' :World):Prop:=∃vq vr,e=.returned (.tuple #[vq,vr])∧Lim w' vq (digs 4294967296 (m/n))∧Lim w' vr (digs 4294967296 (m%n))∧Below w.heap.size w w'
set_option maxRecDepth 100000 in
theorem divide_small (va vb:Value) (m n:Nat) (w:World) (ha:Lim w va (digs 4294967296 m)) (hb:Lim w vb (digs 4294967296 n)) (hlt:m<n) :
  Calls Tryz.prog 135 #[va,vb] w (DivPost m n w):=by
 have HA:=hD ha;have HB0:=hD hb;have HLT:=hD hlt;clear ha hb hlt;go_enter Tryz.func135,Tryz.ntmps135;go_wp2_with fail;refine (compare_any _ _ m n _ HA.out HB0.out).mono ?_;rintro e w1 ⟨rfl,hb⟩;rw [cmpI_lt HLT.out];have HA:=hD (HA.out.up hb);have HB:=hD hb;clear hb;go_wp2_with fail;go_ret2;exact ⟨_,_,rfl,by rw [Nat.div_eq_of_lt HLT.out,digs_zero];exact LimK.nil_ _ _ _,by rw [Nat.mod_eq_of_lt HLT.out];exact HA.out,HB.out⟩
theorem lim_one (W:World) {r:Nat} (h:r<4294967296):Lim (W.alloc (.cells #[.int .u32 (r:Int)] 133)) (.slice (some ⟨W.heap.size,0,none⟩) 1 1) [r]:=by
 refine LimK.block (kd:=.u32) (B:=4294967296) (g:=W.heap.size) (cap:=1) (t:=133) (l:=[r]) (fun z hz=> ?_) (cs:=#[.int .u32 (r:Int)]) (heap_alloc_new W _) (fun i h=> ?_) (by simp) (by omega)
 ·simp only [List.mem_singleton] at hz;subst hz;exact h
 ·have h0:i=0:=by simp at h;omega
  subst h0;rfl
theorem cmp_ge {m n:Nat} (h:n≤m):∃c:Int,cmpI m n=c∧0≤c:=by
 unfold cmpI;rw [if_neg (by omega)]
 split<;>exact ⟨_,rfl,by omega⟩
set_option maxRecDepth 100000 in
theorem divide_one (va vb:Value) (m n:Nat) (w:World) (ha:Lim w va (digs 4294967296 m)) (hb:Lim w vb (digs 4294967296 n)) (hle:n≤m) (hn:(digs 4294967296 n).length=1) (hm9:(digs 4294967296 m).length≤1000000000) :
  Calls Tryz.prog 135 #[va,vb] w (DivPost m n w):=by
 obtain ⟨pb,nb,cb,rfl,hnb,hcb,hcmb⟩:=hb.open_;obtain ⟨y,hy⟩:∃y,digs 4294967296 n=[y]:=by
  match h:digs 4294967296 n,hn with
  | [y],_=>exact ⟨y,rfl⟩
 have hyn:y=n:=by
  have:=valB_digs (B:=4294967296) (by decide) n;rw [hy,valB_one] at this;exact this
 subst hyn;obtain rfl:nb=1:=by omega
 have hyl:y<4294967296:=by
  have:=okB_digs (B:=4294967296) (by decide) y;rw [hy] at this;exact this y (by simp)
 have hy0:0<y:=by
  rcases Nat.eq_zero_or_pos y with rfl|h
  ·rw [digs_zero] at hy;cases hy
  ·exact h
 rw [hy] at hb;obtain ⟨g1,off1,hp1,hg1,hc1⟩:=hb.cell (i:=0) (by simp);simp only [Nat.add_zero,List.getElem_cons_zero] at hc1;subst hp1;have hbd:Lim w (.slice (some ⟨g1,off1,none⟩) 1 cb) (digs 4294967296 y):=by rw [hy];exact hb
 have HA:=hD ha;have HB0:=hD hbd;obtain ⟨c,hc,hc0⟩:=cmp_ge hle;have HC:=hD hc;have HC1:=hD hc1;have HY0:=hD hy0;have HYL:=hD hyl;have HM9:=hD hm9;clear ha hb hbd hle hn hy hnb hc hc1 hcb hcmb hy0 hyl hm9;go_enter Tryz.func135,Tryz.ntmps135;go_wp2_with fail;refine (compare_any _ _ m y _ HA.out HB0.out).mono ?_;rintro e w1 ⟨rfl,hb⟩;rw [HC.out];have HA:=hD (HA.out.up hb);have HB:=hD hb;have c1:w1.cell? ⟨g1,off1,none⟩=some (.int .u32 (y:Int)):=by rw [clU hb hg1];exact HC1.out
 clear hb;go_wp2_with fail;refine (short_any _ _ y _ HA.out HM9.out HY0.out HYL.out).mono ?_;rintro e w2 ⟨vq,rfl,hv,hb⟩;rw [valB_digs (by decide)] at hv ⊢;obtain ⟨r,hr⟩:∃r,m%y=r:=⟨_,rfl⟩;rw [hr];have HR:=hD hr;have HB:=mH HB hb;have HB:=hD (HB.out.alloc HB.out.size (.cells #[.int .u32 (r:Int)] 133));have HV:=hD (hv.up ((Below.refl _ w2).alloc (Nat.le_refl _) (.cells #[.int .u32 (r:Int)] 133)));have hrl:r<4294967296:=by have:=HYL.out;have:=Nat.mod_lt m HY0.out;omega
 have HL:=hD (lim_one w2 hrl);clear hb hv hr c1 hrl;go_wp2_with fail;refine (trim_any _ _ _ HL.out).mono ?_;rintro e w3 ⟨vr,rfl,hvr,rfl⟩;go_wp2_with fail;go_ret2;exact ⟨_,_,rfl,HV.out,by rw [HR.out, ←show trimL 4294967296 [r]=digs 4294967296 r from (by unfold trimL;rw [valB_one])];exact hvr,HB.out⟩
def EDV (gu gv na nb k i0 i1 i2 j1 j2 u0 u1 u2 v0 v1:Nat):Nat→Value
 | 0=>.slice (some ⟨gu,0,none⟩) (na+1) (na+1)
 | 1=>.int .i64 (k:Int)
 | 2=>.int .i64 (nb:Int)
 | 3=>.int .i64 (i0:Int)
 | 4=>.pointer (some ⟨gu,i0,none⟩)
 | 5=>.int .u32 (u0:Int)
 | 6=>.slice (some ⟨gu,0,none⟩) (na+1) (na+1)
 | 7=>.int .i64 (k:Int)
 | 8=>.int .i64 (nb:Int)
 | 9=>.int .i64 (i0:Int)
 | 10=>.int .i64 (i1:Int)
 | 11=>.pointer (some ⟨gu,i1,none⟩)
 | 12=>.int .u32 (u1:Int)
 | 13=>.slice (some ⟨gu,0,none⟩) (na+1) (na+1)
 | 14=>.int .i64 (k:Int)
 | 15=>.int .i64 (nb:Int)
 | 16=>.int .i64 (i0:Int)
 | 17=>.int .i64 (i2:Int)
 | 18=>.pointer (some ⟨gu,i2,none⟩)
 | 19=>.int .u32 (u2:Int)
 | 20=>.agg #[.int .u32 (u0:Int),.int .u32 (u1:Int),.int .u32 (u2:Int)]
 | 21=>.slice (some ⟨gv,0,none⟩) nb (nb+1)
 | 22=>.int .i64 (nb:Int)
 | 23=>.int .i64 (j1:Int)
 | 24=>.pointer (some ⟨gv,j1,none⟩)
 | 25=>.int .u32 (v0:Int)
 | 26=>.slice (some ⟨gv,0,none⟩) nb (nb+1)
 | 27=>.int .i64 (nb:Int)
 | 28=>.int .i64 (j2:Int)
 | 29=>.pointer (some ⟨gv,j2,none⟩)
 | 30=>.int .u32 (v1:Int)
 | 31=>.agg #[.int .u32 (v0:Int),.int .u32 (v1:Int),.int .u32 0]
 | _=>undef
def SDV (gu gv na nb k i0 i1 i2 j1 j2 u0 u1 u2 v0 v1:Nat) (ix:Nat) (v:Value) (w:World):Prop :=
 match ix with
 | 32=>∃qh:Nat,v=.int .u64 (qh:Int)∧EstR (u0*4294967296+u1) (v0*4294967296+v1) u2 qh
 | 33=>∃qh:Nat,v=.int .u64 (qh:Int)∧EstR (u0*4294967296+u1) (v0*4294967296+v1) u2 qh
 | ix=>v=EDV gu gv na nb k i0 i1 i2 j1 j2 u0 u1 u2 v0 v1 ix
theorem SDV_up (gu gv na nb k i0 i1 i2 j1 j2 u0 u1 u2 v0 v1:Nat) (ix:Nat) (v:Value) (w w' :World) (hb:Below w.heap.size w w') (h:SDV gu gv na nb k i0 i1 i2 j1 j2 u0 u1 u2 v0 v1 ix v w):SDV gu gv na nb k i0 i1 i2 j1 j2 u0 u1 u2 v0 v1 ix v w' :=by
 unfold SDV at h ⊢
 split at h
 ·exact h
 ·exact h
 ·exact h
def EDE (gu gq na nb nq s m n:Nat):Nat→Value
 | 0=>.slice (some ⟨gq,0,none⟩) nq nq
 | 2=>.slice (some ⟨gu,0,none⟩) (na+1) (na+1)
 | 3=>.int .i64 (nb:Int)
 | 4=>.slice (some ⟨gu,0,none⟩) nb (na+1)
 | 5=>.int .i64 (s:Int)
 | _=>undef
def SDE (gu gq na nb nq s m n:Nat) (ix:Nat) (v:Value) (w:World):Prop :=
 match ix with
 | 1=>Lim w v (digs 4294967296 (m/n))
 | 6=>Lim w v (digs 4294967296 (m%n))
 | 7=>Lim w v (digs 4294967296 (m/n))
 | 8=>Lim w v (digs 4294967296 (m%n))
 | ix=>v=EDE gu gq na nb nq s m n ix
theorem SDE_up (gu gq na nb nq s m n:Nat) (ix:Nat) (v:Value) (w w' :World) (hb:Below w.heap.size w w') (h:SDE gu gq na nb nq s m n ix v w):SDE gu gq na nb nq s m n ix v w' :=by
 unfold SDE at h ⊢
 split at h
 ·exact h.up hb
 ·exact h.up hb
 ·exact h.up hb
 ·exact h.up hb
 ·exact h
theorem lim_block {W:World} {g cap:Nat} {t:TypeId} {l:List Nat} (ho:okB 4294967296 l) (hb:W.heap[g]? =some (.cells (cellsK .u32 l) t (0,0))) (h1:l.length≤cap) (h2:cap≤9223372036854775807):Lim W (.slice (some ⟨g,0,none⟩) l.length cap) l :=
 LimK.block ho hb (fun i h=>cellsK_get h) h1 h2
theorem top_le {u0 u1 u2 v0 v1 Vu V P:Nat} (hP:0<P) (h:Vu<4294967296*V) (hT:(u0*4294967296+u1)*4294967296+u2=Vu/P) (hV:v0*4294967296+v1=V/P) (hv1:v1<4294967296):u0≤v0:=by
 have h1:V<(V/P+1)*P:=by rw [Nat.add_mul,Nat.one_mul];exact Nat.lt_div_mul_add hP
 have h2:Vu/P<4294967296*(V/P+1):=by
  rw [Nat.div_lt_iff_lt_mul hP,Nat.mul_assoc];exact Nat.lt_trans h (Nat.mul_lt_mul_of_pos_left h1 (by decide))
 rw [←hT, ←hV] at h2;clear hT hV h h1;obtain ⟨T,hT⟩:∃T,u0*4294967296+u1=T:=⟨_,rfl⟩;obtain ⟨S,hS⟩:∃S,v0*4294967296+v1=S:=⟨_,rfl⟩;rw [hT,hS] at h2;have h3:T≤S:=by
  clear hT hS hv1;have h4:T*4294967296<(S+1)*4294967296:=by rw [Nat.mul_comm (S+1)];exact Nat.lt_of_le_of_lt (Nat.le_add_right _ _) h2
  have:=Nat.lt_of_mul_lt_mul_right h4;omega
 clear h2;omega
theorem LimK.frm {kd:IntKind} {B:Nat} {A W:World} {v:Value} {l:List Nat} {m:Nat→Prop} (h:LimK kd B A v l) (ho:∀b off n c,v=.slice (some ⟨b,off,none⟩) n c→¬m b) (hf:Fr m A W):LimK kd B W v l:=by
 obtain ⟨hk,p,cap,rfl,h2,h3,h4⟩:=h;refine ⟨hk,p,cap,rfl,h2,h3,fun i hi=> ?_⟩;obtain ⟨b,off,rfl,e2,e3⟩:=h4 i hi;exact ⟨b,off,rfl,Nat.lt_of_lt_of_le e2 hf.size,by rw [hf.cell e2 (ho b off _ _ rfl)];exact e3⟩
theorem win_len {U R:List Nat} {k n N:Nat} (hU:U.length=N) (hk:k+n<U.length) (hR:R.length=n+1):(U.take k++(R++U.drop (k+n+1))).length=N:=by
 simp only [List.length_append,List.length_take,List.length_drop,hR];omega
theorem win_ok {U R:List Nat} {k n:Nat} (hU:okB 4294967296 U) (hR:okB 4294967296 R):okB 4294967296 (U.take k++(R++U.drop (k+n+1))):=(hU.take k).append (hR.append (hU.drop _))
theorem okB_cons {B x:Nat} {l:List Nat} (hx:x<B) (h:okB B l):okB B (x::l):=fun y hy=>(List.mem_cons.1 hy).elim (fun e=>e ▸ hx) (h y)
theorem win_parts {U R:List Nat} {k n:Nat} (hk:k+n<U.length) (hR:R.length=n+1):((U.take k++(R++U.drop (k+n+1))).drop k).take (n+1)=R∧(U.take k++(R++U.drop (k+n+1))).take k=U.take k∧(U.take k++(R++U.drop (k+n+1))).drop (k+n+1)=U.drop (k+n+1):=by
 have hl:(U.take k).length=k:=by rw [List.length_take];omega
 refine ⟨?_,?_,?_⟩
 ·rw [List.drop_append_of_le_length (by omega),List.drop_eq_nil_of_le (by omega),List.nil_append,List.take_append_of_le_length (by omega),List.take_of_length_le (by omega)]
 ·rw [List.take_append_of_le_length (by omega),List.take_of_length_le (by omega)]
 ·rw [List.drop_append,List.drop_eq_nil_of_le (by omega),hl,List.nil_append,List.drop_append,List.drop_eq_nil_of_le (by omega),List.nil_append,hR,show k+n+1-k-(n+1)=0 by omega,List.drop_zero]
theorem Fr.two {a b:Nat} {A B C:World} (h:Fr (fun x=>x=a∨x=b) A B) (k:Fr (fun x=>x=a) B C):Fr (fun x=>x=a∨x=b) A C:=h.trans (k.mono fun x hx=>.inl hx)
set_option maxRecDepth 100000 in
theorem divide_long (va vb:Value) (m n:Nat) (w:World) (ha:Lim w va (digs 4294967296 m)) (hb:Lim w vb (digs 4294967296 n)) (hle:n≤m) (hn:2≤(digs 4294967296 n).length) (hm9:(digs 4294967296 m).length≤500000000) :
  Calls Tryz.prog 135 #[va,vb] w (DivPost m n w):=by
 obtain ⟨c,hc,hc0⟩:=cmp_ge hle;have hnb0:=digs_len_mono (B:=4294967296) (by decide) hle;have hnz:0<n:=by
  rcases Nat.eq_zero_or_pos n with rfl|h
  ·rw [digs_zero] at hn;simp at hn
  ·exact h
 obtain ⟨pa,na,ca,rfl,hna,hca,hcma⟩:=ha.open_;obtain ⟨pb,nb,cb,rfl,hnb,hcb,hcmb⟩:=hb.open_;rw [←hna] at hm9 hnb0;rw [←hnb] at hn hnb0;have hi:nb-1<(digs 4294967296 n).length:=by omega
 obtain ⟨g1,off1,hp1,hg1,hc1⟩:=hb.cell hi;obtain ⟨top,htop⟩:∃t,(digs 4294967296 n)[nb-1]=t:=⟨_,rfl⟩;have htl:top<4294967296:=by rw [←htop];exact hb.ok.get hi
 obtain ⟨ht0,s,hs,hs32,hbl,hVlen,hVlt,hVge⟩:=norm_div hnz hnb.symm (by omega) (List.getElem?_eq_some_iff.2 ⟨hi,htop⟩);rw [htop] at hc1;have hsi:(32:Int)-(Lib.bitLen ((top:Int)).toNat:Int)=(s:Int):=by rw [Int.toNat_natCast];omega
 have hml:m*2^s<4294967296^(na+1):=by
  have h1:=digs_lt (B:=4294967296) (by decide) m;rw [←hna] at h1;have h2:2^s≤4294967296:=by
   rw [show (4294967296:Nat)=2^32 by decide];exact Nat.pow_le_pow_right (by decide) (by omega)
  rw [Nat.pow_succ];exact Nat.lt_of_lt_of_le (Nat.mul_lt_mul_of_pos_right h1 (Nat.pow_pos (by decide))) (Nat.mul_le_mul_left _ h2)
 have hMV:m*2^s<n*2^s*4294967296^(na+1-nb):=by
  have h1:=digs_lt (B:=4294967296) (by decide) m;rw [←hna] at h1;have h2:2^s≤2147483648:=by
   rw [show (2147483648:Nat)=2^31 by decide];exact Nat.pow_le_pow_right (by decide) (by omega)
  have h3:=Nat.mul_le_mul_right (4294967296^(na+1-nb)) hVge;rw [Nat.mul_assoc, ←Nat.pow_add,show nb-1+(na+1-nb)=na by omega] at h3;refine Nat.lt_of_lt_of_le ?_ h3;rw [Nat.mul_comm 2147483648];exact Nat.lt_of_lt_of_le (Nat.mul_lt_mul_of_pos_right h1 (Nat.pow_pos (by decide))) (Nat.mul_le_mul_left _ h2)
 obtain ⟨V,hV⟩:∃V,n*2^s=V:=⟨_,rfl⟩;obtain ⟨M,hM⟩:∃M,m*2^s=M:=⟨_,rfl⟩;obtain ⟨nq,hnq⟩:∃q,na+1-nb=q:=⟨_,rfl⟩;rw [hV] at hVlen hVlt hVge hMV;rw [hM] at hml hMV;rw [hnq] at hMV;have hV0:0<V:=Nat.lt_of_lt_of_le (Nat.mul_pos (by decide) (Nat.pow_pos (by decide))) hVge;have hmk:=mk_limbs nq ((na:Int)+1-(nb:Int)) (by omega) (by omega);have hna2:(na:Int)≤500000000:=by omega
 have hnb2:(nb:Int)≤na:=by omega
 have hnb3:2≤(nb:Int):=by omega
 have hnn:nb≤na+1:=by omega
 have hnq5:(nq:Int)≤1000000000:=by omega
 have HA:=hD ha;have HB0:=hD hb;have HC:=hD hc;have HC1:=hD hc1;have HVN:=hD hVlen;have HVT:=hD hVlt;have HVG:=hD hVge;have HML:=hD hml;have HMV:=hD hMV;have HVV:=hD hV;have HMM:=hD hM;have HNQ:=hD hnq;have HSI:=hD hsi;have HV0:=hD hV0;have HNA:=hD hna;have HNB:=hD hnb;have hM9:=hD hm9;have htli:(top:Int)≤4294967295:=by omega
 have hnb1:((nb:Int)==1)=false:=by rw [beq_eq_false_iff_ne];omega
 have hne1:¬(nb:Int)=1:=by omega
 have HS:=hD hs32;subst hp1;clear ha hb hc hc1 hVlen hVlt hVge hml hMV hV hM hnq hsi hV0 hna hnb hs hbl ht0 htl htop hi hle hn hnz hca hcb hcma hcmb hm9 hnb0 hs32;have q1:(nb:Int)-1=((nb-1:Nat):Int):=by omega
 obtain ⟨t1,ht1⟩:∃t,nb-1=t:=⟨_,rfl⟩;rw [ht1] at q1 HC1;have HT1:=hD ht1;have hltt:t1<nb:=by omega
 clear ht1;go_enter Tryz.func135,Tryz.ntmps135;go_wp2_with fail;refine (compare_any _ _ m n _ HA.out HB0.out).mono ?_;rintro e w1 ⟨rfl,hb⟩;rw [HC.out];have HA:=hD (HA.out.up hb);have HB0:=hD (HB0.out.up hb);have HB:=hD hb;have c1:w1.cell? ⟨g1,off1+t1,none⟩=some (.int .u32 (top:Int)):=by rw [clU hb hg1];exact HC1.out
 clear hb;go_wp2_with fail;refine (Tryz.bits_LeadingZeros32 (top:Int) _ (by omega) htli).mono ?_;rintro e w2 ⟨rfl,rfl⟩;rw [HSI.out];clear c1 q1 hltt;go_wp2_with fail;refine (up_any _ _ s _ HA.out (by have:=hM9.out;have:=HNA.out;omega) HS.out).mono ?_;rintro e w3 ⟨gu,rfl,hgu,hKU,hb⟩;rw [valB_digs (by decide),HMM.out, ←HNA.out] at hKU;rw [←HNA.out];have hguB:=Nat.le_trans HB.out.size hgu;have HB:=mH HB hb;have HB0:=hD (HB0.out.up hb);have hguW:=(Array.getElem?_eq_some_iff.1 hKU).1;clear hb;go_wp2_with fail;refine (up_any _ _ s _ HB0.out (by have:=hM9.out;have:=HNB.out;omega) HS.out).mono ?_;rintro e w4 ⟨gv,rfl,hgv,hKV,hb⟩;rw [valB_digs (by decide),HVV.out, ←HNB.out] at hKV;rw [←HNB.out];have hne:gv≠gu:=by omega
 have hgvB:w.heap.size≤gv:=by omega
 have HB:=mH HB hb;have HKU:=hD (hpU hb hKU);have hguW:=Nat.lt_of_lt_of_le hguW hb.size;have hgvW:=(Array.getElem?_eq_some_iff.1 hKV).1;have hl1:=lim_block (fixd_ok (by decide) _ _) hKV (cap:=nb+1) (by rw [fixd_len];omega) (by omega);rw [fixd_len] at hl1;clear hb hKU hKV;have HL1:=hD hl1;clear hl1;go_wp2_with fail;refine (trim_at _ _ _ _ _ HL1.out).mono ?_;rintro e w5 ⟨kv,rfl,hv,rfl⟩;rw [trimL_fixd (Nat.lt_of_lt_of_le HVT.out (Nat.pow_le_pow_right (by decide) (by omega)))] at hv;obtain rfl:nb=kv:=by have:=hv.len.1;rw [HVN.out] at this;exact this.symm
 have HV:=hD hv;have HB2:=hD ((Below.refl w4.heap.size w4).alloc (Nat.le_refl _) (.cells (cellsK .u32 (List.replicate nq 0)) 133));have HB:=hD (HB.out.alloc HB.out.size (.cells (cellsK .u32 (List.replicate nq 0)) 133));have HKQ:=hD (heap_alloc_new w4 (.cells (cellsK .u32 (List.replicate nq 0)) 133));clear hv HL1 HA HB0;go_wp2_with fail;clear hmk;obtain ⟨W,hW⟩:∃W,w4.alloc (.cells (cellsK .u32 (List.replicate nq 0)) 133)=W:=⟨_,rfl⟩;rw [hW] at HB HB2 HKQ ⊢;obtain ⟨gq,hgq⟩:∃g,w4.heap.size=g:=⟨_,rfl⟩;have hqu:gq≠gu:=by omega
 have hqv:gq≠gv:=by omega
 have hgqB:w.heap.size≤gq:=by omega
 rw [hgq] at HKQ ⊢;have HKU:=hD (hpU HB2.out HKU.out);have HV:=hD (HV.out.up HB2.out);have hgvW:=Nat.lt_of_lt_of_le hgvW HB2.out.size;clear hW hgq hguW HB2;obtain ⟨lv,hlv⟩:∃l,digs 4294967296 V=l:=⟨_,rfl⟩;have HLV:=hD hlv;rw [hlv] at HV HVN;have hvv:valB 4294967296 lv=V:=by rw [←hlv];exact valB_digs (by decide) V
 have HVAL:=hD hvv;clear hlv hvv hgu hgv hgvB;obtain ⟨h,hh⟩:∃h,nb=h+2:=⟨nb-2,by omega⟩;have hi0:nb-1<lv.length:=by rw [HVN.out];omega
 have hi1:nb-2<lv.length:=by rw [HVN.out];omega
 obtain ⟨v0,hv0⟩:∃x,lv[nb-1]=x:=⟨_,rfl⟩;obtain ⟨v1,hv1⟩:∃x,lv[nb-2]=x:=⟨_,rfl⟩;have hv0l:v0<4294967296:=by rw [←hv0];exact HV.out.ok.get hi0
 have hv1l:v1<4294967296:=by rw [←hv1];exact HV.out.ok.get hi1
 have hV2:=top_two HV.out.ok (n:=h) (x:=v0) (y:=v1) (by rw [HVN.out,hh]) (by rw [←hv0,show h+1=nb-1 by omega];exact List.getElem?_eq_getElem hi0) (by rw [←hv1,show h=nb-2 by omega];exact List.getElem?_eq_getElem hi1);rw [HVAL.out] at hV2;have hv0g:2147483648≤v0:=by
  have h1:=HVG.out;have h2:v0*4294967296+v1<(v0+1)*4294967296:=by omega
  have h3:2147483648*4294967296≤V/4294967296^h:=by
   rw [Nat.le_div_iff_mul_le (Nat.pow_pos (by decide)),Nat.mul_assoc, ←Nat.pow_succ',show h.succ=nb-1 by omega];exact h1
  rw [←hV2] at h3;omega
 obtain ⟨b0,o0,hp0,hb0,hcv0⟩:=HV.out.cell hi0;obtain ⟨b1,o1,hp1,hb1,hcv1⟩:=HV.out.cell hi1;obtain ⟨rfl,rfl⟩:gv=b0∧0=o0:=by injection hp0 with e;injection e with e1 e2 _;exact ⟨e1,e2⟩
 obtain ⟨rfl,rfl⟩:gv=b1∧0=o1:=by injection hp1 with e;injection e with e1 e2 _;exact ⟨e1,e2⟩
 rw [hv0,Nat.zero_add] at hcv0;rw [hv1,Nat.zero_add] at hcv1;obtain ⟨j1,hj1⟩:∃j,nb-1=j:=⟨_,rfl⟩;obtain ⟨j2,hj2⟩:∃j,nb-2=j:=⟨_,rfl⟩;rw [hj1] at hcv0;rw [hj2] at hcv1;have HC0:=hD hcv0;have HC1v:=hD hcv1;have HV2:=hD hV2;have HV0G:=hD hv0g;have HV0L:=hD hv0l;have HV1L:=hD hv1l;have HH:=hD hh;have hoff:offB (.slice (some ⟨gv,0,none⟩) nb (nb+1)) gu:=by
  intro b off n c e
  injection e with e1 _ _;injection e1 with e1;injection e1 with e1 _ _
  rw [←e1];exact hne
 have hoffq:offB (.slice (some ⟨gv,0,none⟩) nb (nb+1)) gq:=by
  intro b off n c e
  injection e with e1 _ _;injection e1 with e1;injection e1 with e1 _ _
  rw [←e1];exact fun h=>hqv h.symm
 have HOFF:=hD hoff;have HOFFQ:=hD hoffq;have hj1i:(nb:Int)-1=(j1:Int):=by omega
 have hj2i:(nb:Int)-2=(j2:Int):=by omega
 have HJ1:=hD hj1i;have HJ2:=hD hj2i;have hj1k:j1<nb:=by omega
 have hj2k:j2<nb:=by omega
 have HJK:=hD (show j1=nb-1∧j2=nb-2 from ⟨hj1.symm,hj2.symm⟩);have hnq1:nq=na+1-nb:=HNQ.out.symm;have HNQ2:=hD hnq1;have hkn:(nb:Int)≤(na:Int)+1:=by omega
 have hnqi:(nq:Int)=(na:Int)+1-(nb:Int):=by omega
 have HNQI:=hD hnqi;clear hi0 hi1 hv0 hv1 hV2 hv0g hv0l hv1l hp0 hp1 hb0 hb1 hcv0 hcv1 hj1 hj2 hh hoff hoffq hj1i hj2i hnq1 hnqi hnn hne1 hnb1
 go_loopw [12,13] (fun iv _ wr=>∃(j:Nat) (i' :Int) (U Q:List Nat),j≤nq∧i' =(j:Int)-1∧iv=.int .i64 i' ∧Hid (U.length=na+1)∧Hid (okB 4294967296 U)∧Hid (okB 4294967296 Q)∧Hid (Q.length=nq-j) ∧
   Hid (valB 4294967296 U<V*4294967296^j)∧Hid (valB 4294967296 U+V*4294967296^j*valB 4294967296 Q=M) ∧
   Hid (wr.heap[gu]? =some (.cells (cellsK .u32 U) 133 (0,0)))∧Hid (wr.heap[gq]? =some (.cells (cellsK .u32 (List.replicate j 0++Q)) 133 (0,0)))∧Hid (Fr (fun x=>x=gu∨x=gq) W wr)) (fun iv _ _=>(intOf iv+1).toNat)
 case atStart=>exact ⟨nq,(nq:Int)-1,fixd 4294967296 (na+1) M,[],Nat.le_refl _,rfl,rfl,hD (fixd_len _ _ _),hD (fixd_ok (by decide) _ _),hD (okB_nil _),hD (by simp),hD (by rw [valB_fixd _ _ HML.out];exact HMV.out),hD (by rw [valB_fixd _ _ HML.out];simp [valB]),HKU,hD (by simpa using HKQ.out),hD (Fr.refl _ _)⟩
 case round =>
  obtain ⟨j,i',U,Q,hj,hi',rfl,HUL,HUO,HQO,HQL,HUV,HUM,HKU,HKQ,HF⟩:=hrel;obtain ⟨wo,hwo⟩:∃wo,wo=wr:=⟨_,rfl⟩;subst hwo;rcases j with _|k
  ·have hneg:i' <0:=by omega
   have hde:=div_end HV0.out HUV.out HUM.out HVV.out.symm HMM.out.symm;have hLQ:=lim_block (cap:=nq) HQO.out (by have:=HKQ.out;rwa [List.replicate_zero,List.nil_append] at this) (by rw [HQL.out];omega) (by omega);rw [HQL.out,Nat.sub_zero] at hLQ;have hLU:=(lim_block (cap:=na+1) HUO.out HKU.out (by rw [HUL.out];omega) (by omega)).take (k:=nb) (by rw [HUL.out];omega);have hUt:valB 4294967296 (U.take nb)=valB 4294967296 U:=by
    have h1:=valB_split 4294967296 U nb;rw [Nat.min_eq_left (by rw [HUL.out];omega)] at h1;have h2:=HUV.out;rw [Nat.pow_zero,Nat.mul_one] at h2;have h3:=Nat.lt_trans h2 HVT.out;rcases Nat.eq_zero_or_pos (valB 4294967296 (U.drop nb)) with h0|h0
    ·rw [h0,Nat.mul_zero,Nat.add_zero] at h1;exact h1.symm
    ·have:=Nat.le_mul_of_pos_right (4294967296^nb) h0;omega
   have hTQ:trimL 4294967296 Q=digs 4294967296 (m/n):=by unfold trimL;rw [hde.1]
   have hlU:(U.take nb).length=nb:=by rw [List.length_take,HUL.out];omega
   have HLQ:=hD hLQ;have HLU:=hD hLU;have HTQ:=hD hTQ;have HDE:=hD hde.2;have HUT:=hD hUt;have HLUL:=hD hlU;have hsl:(nb:Int)≤(na:Int)+1:=by omega
   clear hde hLQ hLU hUt hTQ hi' hlU;go_wp2_with fail;refine wpVl (w:=wo) (by kernel_rfl) (SDE gu gq na nb nq s m n) (fun t=>(decide (4≤t)&&decide (t<6))||(decide (123≤t)&&decide (t<130))) (by kernel_rfl) (by kernel_rfl) (by kernel_rfl) (SDE_up gu gq na nb nq s m n) ?_ ?_
   ·intro i hi o listed a w hR K hK;have ho:=hR.at_;have hi:i<9:=hi;have hii:i=0∨i=1∨i=2∨i=3∨i=4∨i=5∨i=6∨i=7∨i=8:=by omega
    rcases hii with rfl|rfl|rfl|rfl|rfl|rfl|rfl|rfl|rfl
    ·simp at ho;subst ho;have b4:a.tmps.getD 4 undef=.slice (some ⟨gq,0,none⟩) nq nq:=hR.early (j:=7) (by kernel_rfl) rfl ⟨0,.phase⟩ (by simp) rfl rfl;refine pSq ?_;go_simp;exact hK _ _ rfl rB
    ·simp at ho;subst ho;have e0:a.tmps.getD 123 undef=.slice (some ⟨gq,0,none⟩) nq nq:=hR.d 0;refine pSq ?_;go_simp;refine (trim_any _ _ _ (HLQ.out.up hR.below)).mono ?_;rintro e w' ⟨v,rfl,hl,rfl⟩;exact hK _ _ (by have h:=hl;rw [HTQ.out] at h;exact h) rB
    ·simp at ho;subst ho;have b9:a.tmps.getD 9 undef=.slice (some ⟨gu,0,none⟩) (na+1) (na+1):=hR.b 9;refine pSq ?_;go_simp;exact hK _ _ rfl rB
    ·simp at ho;subst ho;have b11:a.tmps.getD 11 undef=.int .i64 (nb:Int):=hR.b 11;refine pSq ?_;go_simp;exact hK _ _ rfl rB
    ·simp at ho;subst ho;have e2:a.tmps.getD 125 undef=.slice (some ⟨gu,0,none⟩) (na+1) (na+1):=hR.d 2;have e3:a.tmps.getD 126 undef=.int .i64 (nb:Int):=hR.d 3;refine pSq ?_;go_simp;exact hK _ _ rfl rB
    ·simp at ho;subst ho;have b8:a.tmps.getD 8 undef=.int .i64 (s:Int):=hR.b 8;refine pSq ?_;go_simp;exact hK _ _ rfl rB
    ·simp at ho;subst ho;have e4:a.tmps.getD 127 undef=.slice (some ⟨gu,0,none⟩) nb (na+1):=hR.d 4;have e5:a.tmps.getD 128 undef=.int .i64 (s:Int):=hR.d 5;refine pSq ?_;go_simp;refine (down_any _ _ s _ (HLU.out.up hR.below) (by rw [HLUL.out];omega) HS.out).mono ?_;rintro e w' ⟨v,rfl,hl,hb⟩;exact hK _ _ (by have h:=hl;rw [HUT.out,HDE.out] at h;exact h) hb
    ·simp at ho;subst ho;have e1:=hR.d 1;have hl:Lim w (a.tmps.getD 124 undef) (digs 4294967296 (m/n)):=e1;obtain ⟨vv,hvv⟩:∃v,a.tmps.getD 124 undef=v:=⟨_,rfl⟩;rw [hvv] at hl;clear e1;refine pSq ?_;go_simp;exact hK _ _ (hl) rB
    ·simp at ho;subst ho;have e6:=hR.d 6;have hl:Lim w (a.tmps.getD 129 undef) (digs 4294967296 (m%n)):=e6;obtain ⟨vv,hvv⟩:∃v,a.tmps.getD 129 undef=v:=⟨_,rfl⟩;rw [hvv] at hl;clear e6;refine pSq ?_;go_simp;exact hK _ _ (hl) rB
   ·intro s_ w6 hS hb;have e7:=hS 7 (by decide);have e8:=hS 8 (by decide);simp only [over,ovL,Nat.reduceAdd,Nat.reduceLeDiff,Nat.reduceLT];have hq:Lim w6 (s_ 4) (digs 4294967296 (m/n)):=e7;have hr:Lim w6 (s_ 5) (digs 4294967296 (m%n)):=e8;have HQ1:=hD hq;have HR1:=hD hr;have HBW:=hD hb;clear hS hb hq hr e7 e8;go_wp2_with fail;go_ret2;refine ⟨_,_,rfl,HQ1.out,HR1.out,?_⟩;have h1:=(HF.out.below (n:=w.heap.size) HB.out.size (fun b hb hm=>by rcases hm with rfl|rfl<;>omega));exact (HB.out.trans h1).trans (HBW.out.mono (Nat.le_trans HB.out.size HF.out.size))
  ·obtain rfl:i' =(k:Int):=by omega
   clear hi';have hnq2:=HNQ2.out;have hul:=HUL.out;have hkl:k+nb<U.length:=by omega
   obtain ⟨-,e2,-⟩:=window HUO.out hkl HVT.out HUV.out;obtain ⟨Wd,hWd⟩:∃l,(U.drop k).take (nb+1)=l:=⟨_,rfl⟩;have hWl:Wd.length=h+3:=by rw [←hWd,List.length_take,List.length_drop];have:=HH.out;omega
   have hWo:okB 4294967296 Wd:=by rw [←hWd];exact (HUO.out.drop k).take _
   rw [hWd] at e2;have hget:∀i,i≤nb→Wd[i]? =U[k+i]? :=fun i hi=>by
    rw [←hWd,List.getElem?_take_of_lt (by omega),List.getElem?_drop]
   obtain ⟨i0,hi0⟩:∃i,k+nb=i:=⟨_,rfl⟩;obtain ⟨i1,hi1⟩:∃i,i0-1=i:=⟨_,rfl⟩;obtain ⟨i2,hi2⟩:∃i,i0-2=i:=⟨_,rfl⟩;obtain ⟨u0,hu0⟩:∃x,U[i0]? =some x:=⟨_,List.getElem?_eq_getElem (by omega)⟩;obtain ⟨u1,hu1⟩:∃x,U[i1]? =some x:=⟨_,List.getElem?_eq_getElem (by omega)⟩;obtain ⟨u2,hu2⟩:∃x,U[i2]? =some x:=⟨_,List.getElem?_eq_getElem (by omega)⟩;have hhh:=HH.out;have hT:=top_three hWo hWl (x:=u0) (y:=u1) (z:=u2) (by rw [hget _ (by omega),show k+(h+2)=i0 by omega];exact hu0) (by rw [hget _ (by omega),show k+(h+1)=i1 by omega];exact hu1) (by rw [hget _ (by omega),show k+h=i2 by omega];exact hu2);have hP:0<4294967296^h:=Nat.pow_pos (by decide);have hule:=top_le hP e2 hT HV2.out HV1L.out;have hub:∀i x,U[i]? =some x→x<4294967296:=fun i x hx=>by
    obtain ⟨hi,e⟩:=List.getElem?_eq_some_iff.1 hx;rw [←e];exact HUO.out.get hi
   have HEST:=hD (fun w=>estimate_any u0 u1 u2 v0 v1 w (hub _ _ hu0) (hub _ _ hu1) (hub _ _ hu2) HV0G.out HV0L.out HV1L.out hule);have HDIG:=hD (fun qh he=>est_digit (qh:=qh) (T:=u0*4294967296+u1) (u2:=u2) (V2:=v0*4294967296+v1) hP e2 hT HV2.out (by have:=HV0G.out;omega) he);have HU0:Hid (wo.cell? ⟨gu,i0,none⟩=some (.int .u32 (u0:Int))):=hD (by rw [Lib.cell_of_heap HKU.out];exact cellsK_some hu0);have HU1:Hid (wo.cell? ⟨gu,i1,none⟩=some (.int .u32 (u1:Int))):=hD (by rw [Lib.cell_of_heap HKU.out];exact cellsK_some hu1);have HU2:Hid (wo.cell? ⟨gu,i2,none⟩=some (.int .u32 (u2:Int))):=hD (by rw [Lib.cell_of_heap HKU.out];exact cellsK_some hu2);have hnm:¬(gv=gu∨gv=gq):=fun h=>h.elim hne (fun h=>hqv h.symm)
   have HCV0:Hid (wo.cell? ⟨gv,j1,none⟩=some (.int .u32 (v0:Int))):=hD (by rw [HF.out.cell (p:=⟨gv,j1,none⟩) hgvW hnm];exact HC0.out);have HCV1:Hid (wo.cell? ⟨gv,j2,none⟩=some (.int .u32 (v1:Int))):=hD (by rw [HF.out.cell (p:=⟨gv,j2,none⟩) hgvW hnm];exact HC1v.out);have HNM:=hD hnm;have hguW:=(Array.getElem?_eq_some_iff.1 HKU.out).1;have hgvW2:=Nat.lt_of_lt_of_le hgvW HF.out.size;have f1:IntKind.i64.wrap ((k:Int)+(nb:Int))=(i0:Int):=by rw [IntWalk.i64_in _ (by omega)];omega
   have f2:IntKind.i64.wrap ((i0:Int)-1)=(i1:Int):=by rw [IntWalk.i64_in _ (by omega)];omega
   have f3:IntKind.i64.wrap ((i0:Int)-2)=(i2:Int):=by rw [IntWalk.i64_in _ (by omega)];omega
   have f4:IntKind.i64.wrap ((nb:Int)-1)=(j1:Int):=by have:=HJ1.out;rw [IntWalk.i64_in _ (by omega)];omega
   have f5:IntKind.i64.wrap ((nb:Int)-2)=(j2:Int):=by have:=HJ2.out;rw [IntWalk.i64_in _ (by omega)];omega
   have l0:(i0:Int)<(na:Int)+1:=by omega
   have l1:(i1:Int)<(na:Int)+1:=by omega
   have l2:(i2:Int)<(na:Int)+1:=by omega
   have HE2:=hD e2;have HWD:=hD hWd;have HKL:=hD hkl;have HI0:=hD hi0;have hkq:k<nq:=hj;have hle1:(k:Int)+(nb:Int)+1≤(na:Int)+1:=by omega
   have hnk:¬(na+1=k):=by omega
   clear hT hP hule hub hu0 hu1 hu2 hi0 hi1 hi2 hget hWl hWo e2 hWd hhh hkl hnq2 hul hnm;go_wp2_with fail;refine wpVl (w:=wo) (by kernel_rfl) (SDV gu gv na nb k i0 i1 i2 j1 j2 u0 u1 u2 v0 v1) (fun t=>(decide (13≤t)&&decide (t<14))||(decide (64≤t)&&decide (t<97))) (by kernel_rfl) (by kernel_rfl) (by kernel_rfl) (SDV_up gu gv na nb k i0 i1 i2 j1 j2 u0 u1 u2 v0 v1) ?_ ?_
   ·intro i hi o listed a w hR K hK;have ho:=hR.at_;have hi:i<34:=hi;have hii:i=0∨i=1∨i=2∨i=3∨i=4∨i=5∨i=6∨i=7∨i=8∨i=9∨i=10∨i=11∨i=12∨i=13∨i=14∨i=15∨i=16∨i=17∨i=18∨i=19∨i=20∨i=21∨i=22∨i=23∨i=24∨i=25∨i=26∨i=27∨i=28∨i=29∨i=30∨i=31∨i=32∨i=33:=by omega
    rcases hii with rfl|rfl|rfl|rfl|rfl|rfl|rfl|rfl|rfl|rfl|rfl|rfl|rfl|rfl|rfl|rfl|rfl|rfl|rfl|rfl|rfl|rfl|rfl|rfl|rfl|rfl|rfl|rfl|rfl|rfl|rfl|rfl|rfl|rfl
    ·simp at ho;subst ho;have b9:a.tmps.getD 9 undef=.slice (some ⟨gu,0,none⟩) (na+1) (na+1):=hR.b 9;refine pSq ?_;go_simp;exact hK _ _ rfl rB
    ·simp at ho;subst ho;have b12:a.tmps.getD 12 undef=.int .i64 (k:Int):=hR.b 12;refine pSq ?_;go_simp;exact hK _ _ rfl rB
    ·simp at ho;subst ho;have b11:a.tmps.getD 11 undef=.int .i64 (nb:Int):=hR.b 11;refine pSq ?_;go_simp;exact hK _ _ rfl rB
    ·simp at ho;subst ho;have e1:a.tmps.getD 65 undef=.int .i64 (k:Int):=hR.d 1;have e2:a.tmps.getD 66 undef=.int .i64 (nb:Int):=hR.d 2;refine pSq ?_;go_simp;exact hK _ _ rfl rB
    ·simp at ho;subst ho;have e0:a.tmps.getD 64 undef=.slice (some ⟨gu,0,none⟩) (na+1) (na+1):=hR.d 0;have e3:a.tmps.getD 67 undef=.int .i64 (i0:Int):=hR.d 3;refine pSq ?_;go_simp;exact hK _ _ rfl rB
    ·simp at ho;subst ho;have e4:a.tmps.getD 68 undef=.pointer (some ⟨gu,i0,none⟩):=hR.d 4;have c1:w.cell? ⟨gu,i0,none⟩=some (.int .u32 (u0:Int)):=by rw [clU hR.below hguW];exact HU0.out
     refine pSq ?_;go_simp;exact hK _ _ rfl rB
    ·simp at ho;subst ho;have b9:a.tmps.getD 9 undef=.slice (some ⟨gu,0,none⟩) (na+1) (na+1):=hR.b 9;refine pSq ?_;go_simp;exact hK _ _ rfl rB
    ·simp at ho;subst ho;have b12:a.tmps.getD 12 undef=.int .i64 (k:Int):=hR.b 12;refine pSq ?_;go_simp;exact hK _ _ rfl rB
    ·simp at ho;subst ho;have b11:a.tmps.getD 11 undef=.int .i64 (nb:Int):=hR.b 11;refine pSq ?_;go_simp;exact hK _ _ rfl rB
    ·simp at ho;subst ho;have e7:a.tmps.getD 71 undef=.int .i64 (k:Int):=hR.d 7;have e8:a.tmps.getD 72 undef=.int .i64 (nb:Int):=hR.d 8;refine pSq ?_;go_simp;exact hK _ _ rfl rB
    ·simp at ho;subst ho;have e9:a.tmps.getD 73 undef=.int .i64 (i0:Int):=hR.d 9;refine pSq ?_;go_simp;exact hK _ _ rfl rB
    ·simp at ho;subst ho;have e6:a.tmps.getD 70 undef=.slice (some ⟨gu,0,none⟩) (na+1) (na+1):=hR.d 6;have e10:a.tmps.getD 74 undef=.int .i64 (i1:Int):=hR.d 10;refine pSq ?_;go_simp;exact hK _ _ rfl rB
    ·simp at ho;subst ho;have e11:a.tmps.getD 75 undef=.pointer (some ⟨gu,i1,none⟩):=hR.d 11;have c1:w.cell? ⟨gu,i1,none⟩=some (.int .u32 (u1:Int)):=by rw [clU hR.below hguW];exact HU1.out
     refine pSq ?_;go_simp;exact hK _ _ rfl rB
    ·simp at ho;subst ho;have b9:a.tmps.getD 9 undef=.slice (some ⟨gu,0,none⟩) (na+1) (na+1):=hR.b 9;refine pSq ?_;go_simp;exact hK _ _ rfl rB
    ·simp at ho;subst ho;have b12:a.tmps.getD 12 undef=.int .i64 (k:Int):=hR.b 12;refine pSq ?_;go_simp;exact hK _ _ rfl rB
    ·simp at ho;subst ho;have b11:a.tmps.getD 11 undef=.int .i64 (nb:Int):=hR.b 11;refine pSq ?_;go_simp;exact hK _ _ rfl rB
    ·simp at ho;subst ho;have e14:a.tmps.getD 78 undef=.int .i64 (k:Int):=hR.d 14;have e15:a.tmps.getD 79 undef=.int .i64 (nb:Int):=hR.d 15;refine pSq ?_;go_simp;exact hK _ _ rfl rB
    ·simp at ho;subst ho;have e16:a.tmps.getD 80 undef=.int .i64 (i0:Int):=hR.d 16;refine pSq ?_;go_simp;exact hK _ _ rfl rB
    ·simp at ho;subst ho;have e13:a.tmps.getD 77 undef=.slice (some ⟨gu,0,none⟩) (na+1) (na+1):=hR.d 13;have e17:a.tmps.getD 81 undef=.int .i64 (i2:Int):=hR.d 17;refine pSq ?_;go_simp;exact hK _ _ rfl rB
    ·simp at ho;subst ho;have e18:a.tmps.getD 82 undef=.pointer (some ⟨gu,i2,none⟩):=hR.d 18;have c1:w.cell? ⟨gu,i2,none⟩=some (.int .u32 (u2:Int)):=by rw [clU hR.below hguW];exact HU2.out
     refine pSq ?_;go_simp;exact hK _ _ rfl rB
    ·simp at ho;subst ho;have e5:a.tmps.getD 69 undef=.int .u32 (u0:Int):=hR.d 5;have e12:a.tmps.getD 76 undef=.int .u32 (u1:Int):=hR.d 12;have e19:a.tmps.getD 83 undef=.int .u32 (u2:Int):=hR.d 19;have e5b:(a.tmps[69]?).getD undef=.int .u32 (u0:Int):=by rw [←Array.getD_eq_getD_getElem?];exact e5
     have e12b:(a.tmps[76]?).getD undef=.int .u32 (u1:Int):=by rw [←Array.getD_eq_getD_getElem?];exact e12
     have e19b:(a.tmps[83]?).getD undef=.int .u32 (u2:Int):=by rw [←Array.getD_eq_getD_getElem?];exact e19
     refine pSq ?_;go_simp;exact hK _ _ rfl rB
    ·simp at ho;subst ho;have b10:a.tmps.getD 10 undef=.slice (some ⟨gv,0,none⟩) nb (nb+1):=hR.b 10;refine pSq ?_;go_simp;exact hK _ _ rfl rB
    ·simp at ho;subst ho;have b11:a.tmps.getD 11 undef=.int .i64 (nb:Int):=hR.b 11;refine pSq ?_;go_simp;exact hK _ _ rfl rB
    ·simp at ho;subst ho;have e22:a.tmps.getD 86 undef=.int .i64 (nb:Int):=hR.d 22;refine pSq ?_;go_simp;exact hK _ _ rfl rB
    ·simp at ho;subst ho;have e21:a.tmps.getD 85 undef=.slice (some ⟨gv,0,none⟩) nb (nb+1):=hR.d 21;have e23:a.tmps.getD 87 undef=.int .i64 (j1:Int):=hR.d 23;refine pSq ?_;go_simp;exact hK _ _ rfl rB
    ·simp at ho;subst ho;have e24:a.tmps.getD 88 undef=.pointer (some ⟨gv,j1,none⟩):=hR.d 24;have c1:w.cell? ⟨gv,j1,none⟩=some (.int .u32 (v0:Int)):=by rw [clU hR.below hgvW2];exact HCV0.out
     refine pSq ?_;go_simp;exact hK _ _ rfl rB
    ·simp at ho;subst ho;have b10:a.tmps.getD 10 undef=.slice (some ⟨gv,0,none⟩) nb (nb+1):=hR.b 10;refine pSq ?_;go_simp;exact hK _ _ rfl rB
    ·simp at ho;subst ho;have b11:a.tmps.getD 11 undef=.int .i64 (nb:Int):=hR.b 11;refine pSq ?_;go_simp;exact hK _ _ rfl rB
    ·simp at ho;subst ho;have e27:a.tmps.getD 91 undef=.int .i64 (nb:Int):=hR.d 27;refine pSq ?_;go_simp;exact hK _ _ rfl rB
    ·simp at ho;subst ho;have e26:a.tmps.getD 90 undef=.slice (some ⟨gv,0,none⟩) nb (nb+1):=hR.d 26;have e28:a.tmps.getD 92 undef=.int .i64 (j2:Int):=hR.d 28;refine pSq ?_;go_simp;exact hK _ _ rfl rB
    ·simp at ho;subst ho;have e29:a.tmps.getD 93 undef=.pointer (some ⟨gv,j2,none⟩):=hR.d 29;have c1:w.cell? ⟨gv,j2,none⟩=some (.int .u32 (v1:Int)):=by rw [clU hR.below hgvW2];exact HCV1.out
     refine pSq ?_;go_simp;exact hK _ _ rfl rB
    ·simp at ho;subst ho;have e25:a.tmps.getD 89 undef=.int .u32 (v0:Int):=hR.d 25;have e30:a.tmps.getD 94 undef=.int .u32 (v1:Int):=hR.d 30;have e25b:(a.tmps[89]?).getD undef=.int .u32 (v0:Int):=by rw [←Array.getD_eq_getD_getElem?];exact e25
     have e30b:(a.tmps[94]?).getD undef=.int .u32 (v1:Int):=by rw [←Array.getD_eq_getD_getElem?];exact e30
     refine pSq ?_;go_simp;exact hK _ _ rfl rB
    ·simp at ho;subst ho;have e20:a.tmps.getD 84 undef=.agg #[.int .u32 (u0:Int),.int .u32 (u1:Int),.int .u32 (u2:Int)]:=hR.d 20;have e31:a.tmps.getD 95 undef=.agg #[.int .u32 (v0:Int),.int .u32 (v1:Int),.int .u32 0]:=hR.d 31;refine pSq ?_;go_simp;refine (HEST.out _).mono ?_;rintro e w' ⟨qh,rfl,he,hb⟩;exact hK _ _ (⟨qh,rfl,he⟩) hb
    ·simp at ho;subst ho;have e32:=hR.d 32;obtain ⟨qh,hqh,he⟩:∃qh:Nat,a.tmps.getD 96 undef=.int .u64 (qh:Int)∧EstR (u0*4294967296+u1) (v0*4294967296+v1) u2 qh:=e32;refine pSq ?_;go_simp;exact hK _ _ (⟨qh,rfl,he⟩) rB
   ·intro s_ w6 hS hb;have e33:=hS 33 (by decide);simp only [over,ovL,Nat.reduceAdd,Nat.reduceLeDiff,Nat.reduceLT];obtain ⟨qh,hqh,he⟩:∃qh:Nat,s_ 13=.int .u64 (qh:Int)∧EstR (u0*4294967296+u1) (v0*4294967296+v1) u2 qh:=e33;rw [hqh];have HEQ:=hD (HDIG.out qh he);have HQL2:=hD he.1;clear f1 f2 f3 f4 f5 hS hqh he;go_wp2_with fail;rw [show k+nb+1-k=nb+1 by omega];have hKU6:=hpU hb HKU.out;have HKQ6:=uH hb HKQ;have HF6:=hD (HF.out.trans (Fr.of_new hb _));have hV6:=HV.out.frm (fun b off n c e hm=>hm.elim (HOFF.out b off n c e) (HOFFQ.out b off n c e)) HF6.out;refine (take_any gu k nb (na+1-k) qh U _ lv w6 hKU6 HUO.out HVN.out HKL.out (by omega) (by omega) hV6 HOFF.out HQL2.out).mono ?_;rintro e w7 ⟨bb,R,rfl,hb1,hRl,hRo,hRv,hKU7,hF7⟩;rw [HVAL.out,HWD.out] at hRv;have HKQ7:=hD (hF7.heap HKQ6.out hqu);have HF7:=hD (HF6.out.two hF7);have hV7:=hV6.fr HOFF.out hF7
    have HRL:=hD hRl;have HRO:=hD hRo;have HKU7:=hD hKU7;have HV7:=hD hV7;clear hKU6 hV6 hb hRl hRo hKU7 hF7 hV7 HKU HKQ HF HKQ6 HF6 HEST HU0 HU1 HU2 HCV0 HCV1 hguW hgvW2 HDIG;have hqi:(qh:Int)<4294967296:=by have:=HQL2.out;omega
    rcases (by omega:bb=0∨bb=1) with rfl|rfl
    ·have hdg:=digit_right HV0.out HEQ.out.1 hRv;have hst:=div_step (Q:=Q) HUO.out HKL.out HV0.out HVT.out HUV.out HUM.out HRL.out (by rw [HWD.out];exact hdg.2);rw [HWD.out, ←hdg.1] at hst;have HST:=hD hst;clear hdg hst hRv hb1;rw [show decide (0=1)=false from rfl];have q5:(qh:Int)%4294967296=(qh:Int):=by omega
     have hfr:w7.frozen? ⟨gq,k,none⟩=false:=Lib.frozen_of_heap HKQ7.out _;obtain ⟨z0,hz0⟩:∃z,w7.cell? ⟨gq,k,none⟩=some z:=by rw [Lib.cell_of_heap HKQ7.out];exact ⟨_,cellsK_get (by simp;omega)⟩
     have HSB:=hD (set_back Q k qh);clear hqi;go_wp2_with fail
     go_roundw
     case rel=>exact ⟨k,(k:Int)-1,U.take k++(R++U.drop (k+nb+1)),qh::Q,by omega,rfl,by go_num,hD (win_len HUL.out HKL.out HRL.out),hD (win_ok HUO.out HRO.out),hD (okB_cons HQL2.out HQO.out),hD (by rw [List.length_cons,HQL.out];omega),hD HST.out.1,hD HST.out.2,hD (by rw [heap_other (by omega)];exact HKU7.out),hD (by rw [←HSB.out];exact set_block HKQ7.out),hD (HF7.out.setCell (p:=⟨gq,k,none⟩) (.inl (.inr rfl)) _)⟩
     case measure=>simp [intOf]
    ·have hRb:=valB_lt HRO.out;rw [HRL.out] at hRb;obtain ⟨p,hp⟩:∃p,qh=p+1:=by
      rcases qh with _|p
      ·exfalso;rw [Nat.zero_mul,Nat.mul_one] at hRv;omega
      ·exact ⟨p,rfl⟩
     have HP:=hD hp;have HRV:=hD hRv;have HRB:=hD hRb;have qs:(qh:Int)-1=(p:Int):=by omega
     have hq1:1≤(qh:Int):=by omega
     have hpl:(p:Int)<4294967296:=by omega
     clear hp hRv hRb hb1;rw [show decide (1=1)=true from rfl];go_wp2_with fail;rw [show k+nb+1-k=nb+1 by omega];refine (give_any gu k nb (na+1-k) (U.take k++(R++U.drop (k+nb+1))) _ lv w7 HKU7.out (win_ok HUO.out HRO.out) HVN.out (by rw [win_len HUL.out HKL.out HRL.out];have:=HUL.out;have:=HKL.out;omega) (by omega) (by omega) HV7.out HOFF.out).mono ?_;rintro e w8 ⟨c2,R2,rfl,hc2,hR2l,hR2o,hR2v,hKU8,hF8⟩;obtain ⟨y1,y2,y3⟩:=win_parts (U:=U) (R:=R) (k:=k) (n:=nb) HKL.out HRL.out;rw [y1,HVAL.out] at hR2v;rw [y2,y3] at hKU8;have hR2b:=valB_lt hR2o;rw [hR2l] at hR2b;have hVE:V≤4294967296^(nb+1):=Nat.le_of_lt (Nat.lt_of_lt_of_le HVT.out (Nat.pow_le_pow_right (by decide) (by omega)));obtain ⟨p',hp',hpd,hr2⟩:=digit_less HV0.out HEQ.out.2 hVE HRB.out hR2b HRV.out hc2 hR2v;obtain rfl:p' =p:=by have:=HP.out;omega
     have hst:=div_step (Q:=Q) HUO.out HKL.out HV0.out HVT.out HUV.out HUM.out hR2l (by rw [HWD.out];exact hr2);rw [HWD.out, ←hpd] at hst;have HST:=hD hst;have HKQ8:=hD (hF8.heap HKQ7.out hqu);have HF8:=hD (HF7.out.two hF8);have HR2L:=hD hR2l;have HR2O:=hD hR2o;have HKU8:=hD hKU8;clear hst hpd hp' hr2 hVE hR2b hR2v hc2 hR2l hR2o hKU8 hF8 y1 y2 y3;have q5:(p' :Int)%4294967296=(p' :Int):=by omega
     have hfr:w8.frozen? ⟨gq,k,none⟩=false:=Lib.frozen_of_heap HKQ8.out _;obtain ⟨z0,hz0⟩:∃z,w8.cell? ⟨gq,k,none⟩=some z:=by rw [Lib.cell_of_heap HKQ8.out];exact ⟨_,cellsK_get (by simp;omega)⟩
     have HSB:=hD (set_back Q k p');have HPL:=hD (show p' <4294967296 by omega);clear hqi hpl hq1 qs;go_wp2_with fail
     go_roundw
     case rel=>exact ⟨k,(k:Int)-1,U.take k++(R2++U.drop (k+nb+1)),p' ::Q,by omega,rfl,by go_num,hD (win_len HUL.out HKL.out HR2L.out),hD (win_ok HUO.out HR2O.out),hD (okB_cons HPL.out HQO.out),hD (by rw [List.length_cons,HQL.out];omega),hD HST.out.1,hD HST.out.2,hD (by rw [heap_other (by omega)];exact HKU8.out),hD (by rw [←HSB.out];exact set_block HKQ8.out),hD (HF8.out.setCell (p:=⟨gq,k,none⟩) (.inl (.inr rfl)) _)⟩
     case measure=>simp [intOf]
theorem divide_any (va vb:Value) (m n:Nat) (w:World) (ha:Lim w va (digs 4294967296 m)) (hb:Lim w vb (digs 4294967296 n)) (hn:0<n) (hm9:(digs 4294967296 m).length≤500000000) :
  Calls Tryz.prog 135 #[va,vb] w fun e w' =>∃vq vr,e=.returned (.tuple #[vq,vr])∧Lim w' vq (digs 4294967296 (m/n))∧Lim w' vr (digs 4294967296 (m%n))∧Below w.heap.size w w' :=by
 rcases Nat.lt_or_ge m n with h|h
 ·exact divide_small va vb m n w ha hb h
 ·have hl:(digs 4294967296 n).length≠0:=fun e=>by
   have:=List.eq_nil_of_length_eq_zero e;rw [digs_eq_nil (by decide)] at this;omega
  rcases (by omega:(digs 4294967296 n).length=1∨2≤(digs 4294967296 n).length) with h1|h1
  ·exact divide_one va vb m n w ha hb h h1 (by omega)
  ·exact divide_long va vb m n w ha hb h h1 hm9
end Go.Proofs.YtblgfmjlajhipaaGreatDoor
