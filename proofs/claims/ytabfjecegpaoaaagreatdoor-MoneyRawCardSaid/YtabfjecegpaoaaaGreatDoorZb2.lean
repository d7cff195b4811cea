/- Contracts that the proofs of this seat share. Each theorem names its conditions. -/
import Derived.WalkKit
import Derived.Test.YtabfjecegpaoaaaGreatDoorZb1
import Derived.Test.YtabfjecegpaoaaaGreatDoorZa6
set_option maxHeartbeats 16000000
set_option linter.unusedVariables false
namespace Go.Proofs.YtabfjecegpaoaaaGreatDoor
open Go.RowKit Go.Shelf
open Dgt
theorem rCl2 {P:Program} {fn:Func} {p u:Tmp} {ty:TypeId} (h:fn.results=#[.cell p ty,.tmp u]) (tmps:Array Value) (w:World) (g:Nat) (t:TypeId) (cs:Array Value) (fr:Nat × Nat) (d:TypeDesc)
  (hp:tmps.getD p undef=.pointer (some ⟨g,0,none⟩)) (hg:w.heap[g]? =some (.cells cs t fr))
  (hu:P.underlying ty=some d) (hd:(match d with|.struct _|.array _ _=>true|_=>false)=true) (hi:(P.info? ty).map (·.size)=some cs.size) :
  (results fn tmps).run P w=.ok (.tuple #[.agg cs,tmps.getD u undef]) w:=by
 rw [results_cell_tmp h,hp];simp [asAddr,run_loadVar_row w g t ty cs fr d hg hu hd hi,Result.andThen]
theorem rC2 {fn:Func} {p u:Tmp} {tmps:Array Value} {w:World} {g:Nat} {x y z:Value} {fr:Nat × Nat} (hg:w.heap[g]? =some (.cells #[x,y,z] 26 fr)) (h:fn.results=#[.cell p 26,.tmp u]:=by exact rfl) (hp:tmps.getD p undef=.pointer (some ⟨g,0,none⟩):=by exact rfl):(results fn tmps).run Tryz.prog w=.ok (.tuple #[.agg #[x,y,z],tmps.getD u undef]) w:=rCl2 h _ _ g 26 _ fr _ hp hg Tryz.underlying26 rfl (by kernel_rfl)
theorem zeroR_row (w:World):(w.alloc (.cells #[.bool false,.string ⟨#[]⟩,.string ⟨#[]⟩] 26)).heap[w.heap.size]? =some (.cells #[.bool false,.string ⟨#[]⟩,.string ⟨#[]⟩] 26 (0,0)):=heap_alloc_new w _
set_option maxRecDepth 100000 in
theorem RatOf_any (n:Int) (w:World) (h1: -9223372036854775808≤n) (h2:n≤9223372036854775807) :
  Gv 59 #[.int .i64 n] w (rtV (ofR n)):=by
 unfold Gv
 by_cases hn:n<0
 ·have q1:IntKind.i64.wrap (n+1)=n+1:=IntWalk.i64_in _ (by omega);have q2:IntKind.i64.wrap (-(n+1))= -(n+1):=IntWalk.i64_in _ (by omega);obtain ⟨m,hm⟩:∃m:Nat,-(n+1)=(m:Int):=⟨(-(n+1)).toNat,by omega⟩;rw [hm] at q2;have q5:wrap64 (-(n+1))=(m:Int):=by unfold wrap64;omega
  have HO:=hD (fun w=>Of_any (m:Int) w (by omega));have HO1:=hD (fun w=>Of_any 1 w (by decide));simp only [Int.toNat_natCast] at HO;have hmz:Sz m 8:=Nat.lt_of_lt_of_le (show m<9223372036854775808 by omega) (by decide);have HA:=hD (fun w=>Add_n (numS_encS m) (numS_encS 1) (hmz.enc (by decide)) ((show Sz 1 1 by unfold Sz;decide).enc (by decide)) w);have HE:Hid (ofR n=⟨true,m+1,1⟩):=hD (by unfold ofR;simp [hn];omega);rw [HE.out];have q3:¬(0:Int)≤n:=by omega
  clear hm hmz h1 h2;go_enter Tryz.func59,Tryz.ntmps59;go_wp2_with fail;refine (HO.out _).mono ?_;rintro e w1 ⟨rfl,hb1⟩;go_wp2_with fail;refine (HO1.out _).mono ?_;rintro e w2 ⟨rfl,hb2⟩;rw [show (1:Int).toNat=1 from rfl];go_wp2_with fail;refine (HA.out _).mono ?_;rintro e w3 ⟨rfl,hb3⟩;go_wp2_with fail;refine (HO1.out _).mono ?_;rintro e w4 ⟨rfl,hb4⟩;rw [show (1:Int).toNat=1 from rfl];have hr:=hpU hb4 (hpU hb3 (hpU hb2 (hpU hb1 (zeroR_row w))));obtain ⟨⟨c0,c1,c2⟩,hf⟩:=rwC hr;have hf0:=hf 0;have hf1:=hf 1;have hf2:=hf 2;have HROW:=hD hr;have h12:=hb1.trans (hb2.mono hb1.size);have h13:=h12.trans (hb3.mono h12.size);have h14:=h13.trans (hb4.mono h13.size);have HB:=hD (((Below.refl w.heap.size w).alloc (Nat.le_refl _) (.cells #[.bool false,.string ⟨#[]⟩,.string ⟨#[]⟩] 26)).trans (h14.mono (by simp)));clear hr hf hb1 hb2 hb3 hb4 h12 h13 h14;go_wp2_with fail
  refine bodyPost_ret (results_cell_row rfl _ _ w.heap.size 26 _ (0,0) _ rfl (row_set HROW.out _ _ _) Tryz.underlying26 rfl (by kernel_rfl)) rfl ?_;exact ⟨rfl,below_row HB.out (Nat.le_refl _) _ _ _⟩
 ·obtain ⟨m,rfl⟩:∃m:Nat,n=(m:Int):=⟨n.toNat,by omega⟩;have HO:=hD (fun w=>Of_any (m:Int) w (by omega));have HO1:=hD (fun w=>Of_any 1 w (by decide));simp only [Int.toNat_natCast] at HO;have HE:Hid (ofR (m:Int)=⟨false,m,1⟩):=hD (by unfold ofR;simp);rw [HE.out];have q3:(0:Int)≤(m:Int):=by omega
  clear h1 h2;go_enter Tryz.func59,Tryz.ntmps59;go_wp2_with fail;refine (HO.out _).mono ?_;rintro e w1 ⟨rfl,hb1⟩;go_wp2_with fail;refine (HO1.out _).mono ?_;rintro e w2 ⟨rfl,hb2⟩;rw [show (1:Int).toNat=1 from rfl];have hr:=hpU hb2 (hpU hb1 (zeroR_row w));obtain ⟨⟨c0,c1,c2⟩,hf⟩:=rwC hr;have hf0:=hf 0;have hf1:=hf 1;have hf2:=hf 2;have HROW:=hD hr;have h12:=hb1.trans (hb2.mono hb1.size);have HB:=hD (((Below.refl w.heap.size w).alloc (Nat.le_refl _) (.cells #[.bool false,.string ⟨#[]⟩,.string ⟨#[]⟩] 26)).trans (h12.mono (by simp)));clear hr hf hb1 hb2 h12;go_wp2_with fail;refine bodyPost_ret (results_cell_row rfl _ _ w.heap.size 26 _ (0,0) _ rfl (row_set HROW.out _ _ _) Tryz.underlying26 rfl (by kernel_rfl)) rfl ?_;exact ⟨rfl,below_row HB.out (Nat.le_refl _) _ _ _⟩
theorem ofR_zero:ofR 0=zeroR:=rfl
set_option maxRecDepth 100000 in
theorem value_any (neg:Bool) (n d:ByteArray) (w:World) (sn:n.size≤10000000) (sd:d.size≤10000000) :
  Gv 99 #[ratV neg n d] w (rtV (valQ neg n d)):=by
 unfold Gv;have HR:=hD (fun w=>RatRight_any neg n d w sn sd);obtain ⟨R,hR⟩:∃R,rightR neg n d=R:=⟨_,rfl⟩;rw [hR] at HR;have HRT:=hD hR;have HO:=hD (fun w=>RatOf_any 0 w (by decide) (by decide));clear hR sn sd;unfold ratV at HR ⊢;have hs2:(w.alloc (.cells #[.bool neg,.string n,.string d] 26)).heap.size=w.heap.size+1:=by simp
 have h0:=hpU ((Below.refl _ (w.alloc (.cells #[.bool neg,.string n,.string d] 26))).alloc (Nat.le_refl _) (.cells #[.bool false,.string ⟨#[]⟩,.string ⟨#[]⟩] 26)) (heap_alloc_new w (.cells #[.bool neg,.string n,.string d] 26));have h1:=zeroR_row (w.alloc (.cells #[.bool neg,.string n,.string d] 26));rw [hs2] at h1;have hb:=((Below.refl w.heap.size w).alloc (Nat.le_refl _) (.cells #[.bool neg,.string n,.string d] 26)).alloc (by simp) (.cells #[.bool false,.string ⟨#[]⟩,.string ⟨#[]⟩] 26);obtain ⟨W2,hW2⟩:∃W2,(w.alloc (.cells #[.bool neg,.string n,.string d] 26)).alloc (.cells #[.bool false,.string ⟨#[]⟩,.string ⟨#[]⟩] 26)=W2:=⟨_,rfl⟩;rw [hW2] at h0 h1 hb;have HB:=hD hb;have H0:=hD h0;have H1:=hD h1;obtain ⟨⟨a0,a1,a2⟩,-⟩:=rwC h0;clear hs2 h0 h1 hb;go_enter Tryz.func99,Tryz.ntmps99;go_wp2_with fail;refine (HR.out _).mono ?_;rintro e w3 ⟨rfl,hb3⟩;have hr3:=hpU hb3 H1.out
 obtain ⟨⟨b0,b1,b2⟩,-⟩:=rwC (hpU hb3 H0.out);obtain ⟨⟨c0,c1,c2⟩,hf⟩:=rwC hr3;have hf0:=hf 0;have hf1:=hf 1;have hf2:=hf 2;have HB3:=hD (HB.out.trans (hb3.mono HB.out.size));have HR3:=hD hr3;clear hb3 hf hr3;cases R
 ·go_wp2_with fail;refine (HO.out _).mono ?_;rintro e w4 ⟨rfl,hb4⟩;have hr4:=hpU hb4 HR3.out;obtain ⟨⟨d0,d1,d2⟩,hf⟩:=rwC hr4;have hg0:=hf 0;have hg1:=hf 1;have hg2:=hf 2;have HR4:=hD hr4;have HB4:=hD (HB3.out.trans (hb4.mono HB3.out.size));clear hb4 hf hr4;rw [ofR_zero];unfold rtV;go_wp2_with fail;refine bodyPost_ret (results_cell_row rfl _ _ (w.heap.size+1) 26 _ (0,0) _ rfl (row_set HR4.out _ _ _) Tryz.underlying26 rfl (by kernel_rfl)) rfl ?_;refine ⟨?_,below_row HB4.out (by omega) _ _ _⟩;unfold valQ;rw [HRT.out]
  rfl
 ·go_wp2_with fail;refine bodyPost_ret (results_cell_row rfl _ _ (w.heap.size+1) 26 _ (0,0) _ rfl (row_set HR3.out _ _ _) Tryz.underlying26 rfl (by kernel_rfl)) rfl ?_;refine ⟨?_,below_row HB3.out (by omega) _ _ _⟩;have:=ratV_right HRT.out;unfold ratV at this;rw [this]
end Go.Proofs.YtabfjecegpaoaaaGreatDoor
namespace Go.Proofs.YtabfjecegpaoaaaGreatDoor
open Go Go.RowKit Go.Shelf
open Dgt
theorem row_else {W:World} {b g k:Nat} {o:Obj} (h:W.heap[g]? =some o) (hne:b≠g) (u:Value):(W.setCell ⟨b,k,none⟩ u).heap[g]? =some o:=by
 simp [World.setCell,Array.getElem?_modify,h,hne]
theorem frz0 {W:World} {b:Nat} {cs:Array Value} {t:TypeId} (h:W.heap[b]? =some (.cells cs t (0,0))) (i:Nat):W.frozen? ⟨b,i,none⟩=false:=by
 simp [World.frozen?,h]
def eqR (a b:Rt):Bool:=(a.neg==b.neg)&&((a.num==b.num)&&(a.den==b.den))
theorem eqR_iff {a b:Rt}:eqR a b=true↔a=b:=by
 unfold eqR;simp only [Bool.and_eq_true,beq_iff_eq];exact ⟨fun h=>Rt.ext' h.1 h.2.1 h.2.2,fun h=>by subst h;exact ⟨rfl,rfl,rfl⟩⟩
theorem eqR_false {a b:Rt}:eqR a b=false↔a≠b:=by
 rw [←Bool.not_eq_true,eqR_iff]
theorem encL_iff {m n:Nat}:(encS m).toList=(encS n).toList↔m=n:=⟨fun h=>encS_inj (bytes_ext.1 h),fun h=>by rw [h]⟩
theorem row_dec (a b:Rt):(decide (a.neg=b.neg)&&(decide ((encS a.num).toList=(encS b.num).toList)&&decide ((encS a.den).toList=(encS b.den).toList)))=eqR a b:=by
 unfold eqR
 congr 1
 congr 1
 ·by_cases h:a.num=b.num
  ·simp [h]
  ·simp [h,encL_iff]
 ·by_cases h:a.den=b.den
  ·simp [h]
  ·simp [h,encL_iff]
theorem eql3' {x y z:Prop} [Decidable x] [Decidable y] [Decidable z] (w:World) (a b:Value) :
  (if x then if y then if z then Result.ok a w else Result.ok b w else Result.ok b w else Result.ok b w)=Result.ok (bif (decide x&&(decide y&&decide z)) then a else b) w:=by
 by_cases hx:x<;>by_cases hy:y<;>by_cases hz:z<;>simp [hx,hy,hz]
theorem run_neqR {d a:Rt} {E:Bool} (h:eqR d a=E) (w:World):(binOp .neq 26 (.agg #[.bool d.neg,.string (encS d.num),.string (encS d.den)]) (.agg #[.bool a.neg,.string (encS a.num),.string (encS a.den)])).run Tryz.prog w=.ok (.bool (!E)) w:=by
 go_simp;rw [eql3',row_dec,h];cases E<;>rfl
theorem run_eqlR {d a:Rt} {E:Bool} (h:eqR d a=E) (w:World):(binOp .eql 26 (.agg #[.bool d.neg,.string (encS d.num),.string (encS d.den)]) (.agg #[.bool a.neg,.string (encS a.num),.string (encS a.den)])).run Tryz.prog w=.ok (.bool E) w:=by
 go_simp;rw [eql3',row_dec,h];cases E<;>rfl
end Go.Proofs.YtabfjecegpaoaaaGreatDoor
namespace Go.Proofs.YtabfjecegpaoaaaGreatDoor
open Go.RowKit Go.Shelf
open Dgt
def InsI (ov:Nat→Rat) (n i:Nat) (s:List Nat):Prop:=∃A,s=A++List.range' i (n-i)∧Ordd ov i A
def InsJ (ov:Nat→Rat) (n i j:Nat) (s:List Nat):Prop:=∃A B,s=A++i::(B++List.range' (i+1) (n-(i+1)))∧Ordd ov i (A++B)∧A.length=j∧(∀b ∈ B,ov b<ov i)∧i<n
section
variable {ov:Nat→Rat} {n i j p:Nat} {s:List Nat}
theorem insI_start (h:1≤n):InsI ov n 1 (List.range n):=by
 refine ⟨[0],?_,⟨List.Perm.refl _,List.pairwise_singleton _ _⟩⟩;obtain ⟨m,rfl⟩:∃m,n=m+1:=⟨n-1,by omega⟩;rw [List.range_eq_range',List.range'_succ];rfl
theorem insI_end (h:InsI ov n n s):Ordd ov n s:=by
 obtain ⟨A,rfl,h⟩:=h;rw [Nat.sub_self];simpa using h
theorem insJ_start (h:InsI ov n i s) (hi:i<n):InsJ ov n i i s:=by
 obtain ⟨A,rfl,h⟩:=h;refine ⟨A,[],?_,by simpa using h,h.len,by simp,hi⟩;rw [List.nil_append];obtain ⟨m,hm⟩:∃m,n-i=m+1:=⟨n-i-1,by omega⟩;rw [hm,List.range'_succ,show n-(i+1)=m by omega]
theorem insJ_len (h:InsJ ov n i j s):s.length=n∧j≤i∧i<n:=by
 obtain ⟨A,B,rfl,h,hj,-,hi⟩:=h;have:=h.len;rw [List.length_append] at this;rw [List.length_append,List.length_cons,List.length_append,List.length_range'];omega
theorem insJ_val (h:InsJ ov n i j s):s[j]? =some i:=by
 obtain ⟨A,B,rfl,h,rfl,-,hi⟩:=h;simp
theorem insJ_lt (h:InsJ ov n i (j+1) s) (hp:s[j]? =some p):p<i:=by
 obtain ⟨A,B,rfl,h,hj,-,hi⟩:=h;have hjA:j<A.length:=by omega
 rw [List.getElem?_append_left hjA,List.getElem?_eq_getElem hjA] at hp;obtain rfl:=Option.some.inj hp;exact h.mem.1 (List.mem_append_left _ (List.getElem_mem hjA))
theorem insJ_step (h:InsJ ov n i (j+1) s) (hp:s[j]? =some p) (hlt:ov p<ov i):InsJ ov n i j ((s.set (j+1) p).set j i):=by
 obtain ⟨A,B,rfl,h,hj,hB,hi⟩:=h;have hne:A≠[]:=fun e=>by rw [e] at hj;simp at hj
 obtain ⟨A0,q,rfl⟩:∃A0 q,A=A0++[q]:=⟨A.dropLast,A.getLast hne,(List.dropLast_concat_getLast hne).symm⟩;have hl:A0.length=j:=by rw [List.length_append] at hj;simpa using hj
 subst hl;have hq:q=p:=by rw [List.append_assoc,List.getElem?_append_right (Nat.le_refl _)] at hp;simpa using hp
 subst hq;refine ⟨A0,q::B,?_,by rw [List.append_assoc] at h;exact h,rfl,?_,hi⟩
 ·simp
 ·intro b hb;rcases List.mem_cons.1 hb with rfl|hb
  ·exact hlt
  ·exact hB b hb
theorem insJ_stop (h:InsJ ov n i j s) (hs:j=0∨∃p,0<j∧s[j-1]? =some p∧¬ov p<ov i):InsI ov n (i+1) s:=by
 obtain ⟨A,B,rfl,h,hj,hB,hi⟩:=h;refine ⟨A++i::B,by simp,?_,?_⟩
 ·refine (List.perm_middle).trans ?_;refine (List.Perm.cons i h.perm).trans ?_;rw [List.range_succ];exact List.perm_append_singleton i _ |>.symm
 ·have hpw:=h.pw;rw [List.pairwise_append] at hpw;rw [List.pairwise_append,List.pairwise_cons];refine ⟨hpw.1,⟨fun b hb=>.inl (hB b hb),hpw.2.1⟩,fun a ha x hx=> ?_⟩;rcases List.mem_cons.1 hx with rfl|hx
  ·have hai:a<x:=h.mem.1 (List.mem_append_left _ ha);rcases hs with h0|⟨p,hj0,hp,hn⟩
   ·rw [h0] at hj;rw [List.eq_nil_of_length_eq_zero hj] at ha;cases ha
   ·have hne:A≠[]:=fun e=>by rw [e] at ha;cases ha
    obtain ⟨A0,q,rfl⟩:∃A0 q,A=A0++[q]:=⟨A.dropLast,A.getLast hne,(List.dropLast_concat_getLast hne).symm⟩;have hl:j-1=A0.length:=by rw [List.length_append] at hj;simp at hj;omega
    have hq:q=p:=by rw [hl,List.append_assoc,List.getElem?_append_right (Nat.le_refl _)] at hp;simpa using hp
    subst hq;have hle:ov q≤ov a:=by
     rcases List.mem_append.1 ha with ha|ha
     ·have h2:=(List.pairwise_append.1 hpw.1).2.2 a ha q (by simp);unfold ahead at h2;rcases h2 with h2|h2
      ·grind
      ·rw [h2.1];exact Rat.le_refl
     ·rw [List.mem_singleton.1 ha];exact Rat.le_refl
    unfold ahead
    by_cases e:ov a=ov x
    ·exact .inr ⟨e,hai⟩
    ·exact .inl (by grind)
  ·exact hpw.2.2 a ha x hx
end
def intsB (s:List Nat):Array Value:=(s.map fun x:Nat=>Value.int .i64 (x:Int)).toArray
theorem ints_cell {W:World} {b:Nat} {t:TypeId} {s:List Nat} (h:W.heap[b]? =some (.cells (intsB s) t (0,0))) {i x:Nat} (hx:s[i]? =some x):W.cell? ⟨b,i,none⟩=some (.int .i64 (x:Int)):=by
 rw [Lib.cell_of_heap h];simp [intsB,hx]
theorem ints_set {W:World} {b:Nat} {t:TypeId} {s:List Nat} (h:W.heap[b]? =some (.cells (intsB s) t (0,0))) (i x:Nat):(W.setCell ⟨b,i,none⟩ (.int .i64 (x:Int))).heap[b]? =some (.cells (intsB (s.set i x)) t (0,0)):=by
 simp [World.setCell,Array.getElem?_modify,h,intsB,List.map_set]
def cel (l:List Rt):List Value:=l.flatMap fun a=>[.bool a.neg,.string (encS a.num),.string (encS a.den)]
theorem cel_cons (a:Rt) (l:List Rt):cel (a::l)=[.bool a.neg,.string (encS a.num),.string (encS a.den)]++cel l:=rfl
theorem cel_at:∀(l:List Rt) {i:Nat} {a:Rt},l[i]? =some a→(cel l)[i*3]? =some (.bool a.neg)∧(cel l)[i*3+1]? =some (.string (encS a.num))∧(cel l)[i*3+2]? =some (.string (encS a.den))
 | [],i,a,h=>by simp at h
 | x::l,0,a,h=>by
  obtain rfl:x=a:=by simpa using h
  exact ⟨rfl,rfl,rfl⟩
 | x::l,i+1,a,h=>by
  have:=cel_at l (i:=i) (a:=a) (by simpa using h);rw [cel_cons,show (i+1)*3=3+i*3 by omega];refine ⟨?_,?_,?_⟩
  ·rw [List.getElem?_append_right (by simp)];simpa using this.1
  ·rw [show 3+i*3+1=3+(i*3+1) by omega,List.getElem?_append_right (by simp)];simpa using this.2.1
  ·rw [show 3+i*3+2=3+(i*3+2) by omega,List.getElem?_append_right (by simp)];simpa using this.2.2
theorem cel_set:∀(l:List Rt) {i:Nat} (a:Rt),i<l.length→(((cel l).set (i*3) (.bool a.neg)).set (i*3+1) (.string (encS a.num))).set (i*3+2) (.string (encS a.den))=cel (l.set i a)
 | [],i,a,h=>absurd h (by simp)
 | x::l,0,a,h=>rfl
 | x::l,i+1,a,h=>by
  have:=cel_set l (i:=i) a (by simpa using h);rw [cel_cons,List.set_cons_succ,cel_cons, ←this];rw [show (i+1)*3=i*3+1+1+1 by omega]
  rfl
theorem cel_cells {W:World} {b:Nat} {t:TypeId} {l:List Rt} (h:W.heap[b]? =some (.cells (cel l).toArray t (0,0))) {i:Nat} {a:Rt} (ha:l[i]? =some a) :
  W.cell? ⟨b,i*3,none⟩=some (.bool a.neg)∧W.cell? ⟨b,i*3+1,none⟩=some (.string (encS a.num))∧W.cell? ⟨b,i*3+2,none⟩=some (.string (encS a.den)):=by
 obtain ⟨h1,h2,h3⟩:=cel_at l ha;refine ⟨?_,?_,?_⟩<;>(rw [Lib.cell_of_heap h];simpa)
theorem cel_store {W:World} {b:Nat} {t:TypeId} {l:List Rt} (h:W.heap[b]? =some (.cells (cel l).toArray t (0,0))) {i:Nat} (a:Rt) (hi:i<l.length) :
  (((W.setCell ⟨b,i*3,none⟩ (.bool a.neg)).setCell ⟨b,i*3+1,none⟩ (.string (encS a.num))).setCell ⟨b,i*3+2,none⟩ (.string (encS a.den))).heap[b]? =some (.cells (cel (l.set i a)).toArray t (0,0)):=by
 rw [←cel_set l a hi];simp [World.setCell,Array.getElem?_modify,h]
def IsR (v:Value) (a:Rt) (k:Nat):Prop:=∃neg n d,v=.agg #[.bool neg,.string n,.string d]∧n.size≤k∧d.size≤k∧valQ neg n d=a
theorem IsR.ok {v:Value} {a:Rt} {k:Nat} (h:IsR v a k):a.Ok:=by
 obtain ⟨neg,n,d,-,-,-,rfl⟩:=h;exact valQ_ok neg n d
theorem IsR.rz {v:Value} {a:Rt} {k:Nat} (h:IsR v a k) (hk:1≤k):Rz a k:=by
 obtain ⟨neg,n,d,-,h1,h2,rfl⟩:=h;exact valQ_sz hk h1 h2
theorem IsR.of {a:Rt} {k:Nat} (h:a.Ok) (hz:Rz a k):IsR (rtV a) a k:=⟨_,_,_,rfl,encS_size_lt hz.1,encS_size_lt hz.2,valQ_of h⟩
theorem value_r {v:Value} {a:Rt} {k:Nat} (h:IsR v a k) (hk:k≤10000000) (w:World):Gv 99 #[v] w (.agg #[.bool a.neg,.string (encS a.num),.string (encS a.den)]):=by
 unfold Gv;obtain ⟨neg,n,d,rfl,h1,h2,rfl⟩:=h;exact value_any neg n d w (by omega) (by omega)
theorem boxes3 (w:World) (oa ob oz:Obj):∃W,((w.alloc oa).alloc ob).alloc oz=W∧W.heap[w.heap.size]? =some oa∧W.heap[w.heap.size+1]? =some ob∧W.heap[w.heap.size+1+1]? =some oz∧Below w.heap.size w W:=by
 refine ⟨_,rfl,?_,?_,?_,(((Below.refl _ w).alloc (Nat.le_refl _) oa).alloc (by simp) ob).alloc (by simp;omega) oz⟩
 ·exact hpU ((Below.refl _ ((w.alloc oa).alloc ob)).alloc (Nat.le_refl _) oz) (hpU ((Below.refl _ (w.alloc oa)).alloc (Nat.le_refl _) ob) (heap_alloc_new w oa))
 ·have h:=heap_alloc_new (w.alloc oa) ob;rw [World.size_alloc] at h;exact hpU ((Below.refl _ ((w.alloc oa).alloc ob)).alloc (Nat.le_refl _) oz) h
 ·have h:=heap_alloc_new ((w.alloc oa).alloc ob) oz;rw [World.size_alloc,World.size_alloc] at h;exact h
def EVM (ba bb:Nat) (na nb:Bool) (sa da sb db:ByteArray) (ra rb:Rt):Nat→Value
 | 0=>.agg #[.bool na,.string sa,.string da]
 | 1=>.agg #[.bool ra.neg,.string (encS ra.num),.string (encS ra.den)]
 | 2=>.agg #[.bool nb,.string sb,.string db]
 | 3=>.agg #[.bool rb.neg,.string (encS rb.num),.string (encS rb.den)]
 | _=>undef
def EVN (ba bb:Nat) (ra rb L:Rt):Nat→Value
 | 0=>.pointer (some ⟨ba,0,none⟩)
 | 1=>.bool ra.neg
 | 2=>.pointer (some ⟨bb,0,none⟩)
 | 3=>.bool rb.neg
 | 4=>.bool (ra.neg != rb.neg)
 | 5=>.pointer (some ⟨ba,1,none⟩)
 | 6=>.string (encS ra.num)
 | 7=>.pointer (some ⟨bb,1,none⟩)
 | 8=>.string (encS rb.num)
 | 9=>.string (encS (ra.num*rb.num))
 | 10=>.pointer (some ⟨ba,2,none⟩)
 | 11=>.string (encS ra.den)
 | 12=>.pointer (some ⟨bb,2,none⟩)
 | 13=>.string (encS rb.den)
 | 14=>.string (encS (ra.den*rb.den))
 | 15=>.agg #[.bool L.neg,.string (encS L.num),.string (encS L.den)]
 | _=>undef
set_option maxRecDepth 100000 in
theorem RatMul_r {va vb:Value} {ra rb:Rt} {k:Nat} (ha:IsR va ra k) (hb:IsR vb rb k) (hk1:1≤k) (hk:k≤1000000) (wq:World) :
  Gv 61 #[va,vb] wq (rtV (mulR ra rb)):=by
 unfold Gv;have HVA:=hD (fun w=>value_r ha (by omega) w);have HVB:=hD (fun w=>value_r hb (by omega) w);have za:=ha.rz hk1;have zb:=hb.rz hk1;have HN:=hD (fun w=>Mul_n (numS_encS ra.num) (numS_encS rb.num) (za.1.enc (by omega)) (zb.1.enc (by omega)) w);have HD:=hD (fun w=>Mul_n (numS_encS ra.den) (numS_encS rb.den) (za.2.enc (by omega)) (zb.2.enc (by omega)) w);have HL:=hD (fun w=>lowest_n (ra.neg != rb.neg) (encS (ra.num*rb.num)) (encS (ra.den*rb.den)) _ _ w (numS_encS _) (numS_encS _) (Nat.mul_pos ha.ok.pos hb.ok.pos) (Nat.le_trans (encS_size_lt (za.1.mul zb.1)) (by omega)) (Nat.le_trans (encS_size_lt (za.2.mul zb.2)) (by omega)));have HE:Hid (mulR ra rb=low (ra.neg != rb.neg) (ra.num*rb.num) (ra.den*rb.den)):=hD rfl;rw [HE.out];obtain ⟨L,hL⟩:∃L,low (ra.neg != rb.neg) (ra.num*rb.num) (ra.den*rb.den)=L:=⟨_,rfl⟩;rw [hL] at HL ⊢;obtain ⟨na,sa,da,rfl,-⟩:=ha;obtain ⟨nb,sb,db,rfl,-⟩:=hb
 clear za zb hL hk1 hk;obtain ⟨W3,hW3,hxa,hxb,hxz,hb3⟩:=boxes3 wq (.cells #[.bool na,.string sa,.string da] 26) (.cells #[.bool nb,.string sb,.string db] 26) (.cells #[.bool false,.string ⟨#[]⟩,.string ⟨#[]⟩] 26);go_enter Tryz.func61,Tryz.ntmps61;go_wp2_with fail;obtain ⟨ba,hba⟩:∃b,wq.heap.size=b:=⟨_,rfl⟩;obtain ⟨bb,hbb⟩:∃b,ba+1=b:=⟨_,rfl⟩;obtain ⟨bz,hbz⟩:∃b,bb+1=b:=⟨_,rfl⟩;rw [hba] at hxa hxb hxz ⊢;rw [hbb] at hxb hxz ⊢;rw [hbz] at hxz ⊢;have HXA:=hD hxa;have HXB:=hD hxb;have HXZ:=hD hxz;have HB3:=hD hb3;have HNE:Hid (ba≠bb):=hD (by omega);have HNZA:Hid (bz≠ba):=hD (by omega);have HNZB:Hid (bz≠bb):=hD (by omega);clear hW3 hxa hxb hxz hb3;refine wpTl (w:=W3) (by kernel_rfl) (fun ix v _=>v=EVM ba bb na nb sa da sb db ra rb ix) 4 (fun t=>(decide (5≤t)&&decide (t<9))) (by decide) (by kernel_rfl) (by kernel_rfl) (by kernel_rfl) (by kernel_rfl) (by kernel_rfl) (fun _ _ _ _ _ h=>h) ?_ ?_
 ·intro i hi o listed a w hR K hK;have ho:=hR.at_;have hi:i<4:=hi;have hii:i=0∨i=1∨i=2∨i=3:=by omega
  rcases hii with rfl|rfl|rfl|rfl
  ·simp at ho;subst ho;have b2:a.tmps.getD 2 undef=.pointer (some ⟨ba,0,none⟩):=hR.b 2;obtain ⟨⟨cx0,cx1,cx2⟩,-⟩:=rwC (hpU hR.below HXA.out);refine pSq ?_;go_simp;exact hK _ _ rfl rB
  ·simp at ho;subst ho;have e0:a.tmps.getD 5 undef=.agg #[.bool na,.string sa,.string da]:=hR.t 0;refine pSq ?_;go_simp;refine (HVA.out w).mono ?_;rintro e w' ⟨rfl,hb⟩;exact hK _ _ (rfl) hb
  ·simp at ho;subst ho;have b3:a.tmps.getD 3 undef=.pointer (some ⟨bb,0,none⟩):=hR.b 3;obtain ⟨⟨cx0,cx1,cx2⟩,-⟩:=rwC (hpU hR.below HXB.out);refine pSq ?_;go_simp;exact hK _ _ rfl rB
  ·simp at ho;subst ho;have e2:a.tmps.getD 7 undef=.agg #[.bool nb,.string sb,.string db]:=hR.t 2;refine pSq ?_;go_simp;refine (HVB.out w).mono ?_;rintro e w' ⟨rfl,hb⟩;exact hK _ _ (rfl) hb
 ·intro s w hS hb;have e1:s 6=.agg #[.bool ra.neg,.string (encS ra.num),.string (encS ra.den)]:=hS 1 (by decide);have e3:s 8=.agg #[.bool rb.neg,.string (encS rb.num),.string (encS rb.den)]:=hS 3 (by decide);simp only [over,ovL,Nat.reduceAdd,Nat.reduceLeDiff,Nat.reduceLT];obtain ⟨⟨ca0,ca1,ca2⟩,hfa⟩:=rwC (hpU hb HXA.out);have fa0:=hfa 0;have fa1:=hfa 1;have fa2:=hfa 2;refine tail_step (n:=1) rfl rfl ?_;go_simp;have hxb:=hpU hb HXB.out;have hxa:=row_set (hpU hb HXA.out) (.bool ra.neg) (.string (encS ra.num)) (.string (encS ra.den));obtain ⟨W4,hW4⟩:∃W4,((w.setCell ⟨ba,0,none⟩ (.bool ra.neg)).setCell ⟨ba,1,none⟩ (.string (encS ra.num))).setCell ⟨ba,2,none⟩ (.string (encS ra.den))=W4:=⟨_,rfl⟩;have hxb4:W4.heap[bb]? =some (.cells #[.bool nb,.string sb,.string db] 26 (0,0)):=by rw [←hW4];simpa [World.setCell,Array.getElem?_modify,HNE.out] using hxb
  rw [hW4] at hxa ⊢;obtain ⟨⟨cb0,cb1,cb2⟩,hfb⟩:=rwC hxb4;have fb0:=hfb 0;have fb1:=hfb 1;have fb2:=hfb 2;refine tail_step (n:=0) rfl rfl ?_;go_simp;simp only [wpTail];have hxz:=hpU hb HXZ.out;have hxz4:W4.heap[bz]? =some (.cells #[.bool false,.string ⟨#[]⟩,.string ⟨#[]⟩] 26 (0,0)):=by rw [←hW4];simpa [World.setCell,Array.getElem?_modify,Ne.symm HNZA.out] using hxz
  have hxb5:=row_set hxb4 (.bool rb.neg) (.string (encS rb.num)) (.string (encS rb.den));obtain ⟨W5,hW5⟩:∃W5,((W4.setCell ⟨bb,0,none⟩ (.bool rb.neg)).setCell ⟨bb,1,none⟩ (.string (encS rb.num))).setCell ⟨bb,2,none⟩ (.string (encS rb.den))=W5:=⟨_,rfl⟩;have hxa5:W5.heap[ba]? =some (.cells #[.bool ra.neg,.string (encS ra.num),.string (encS ra.den)] 26 (0,0)):=by rw [←hW5];simpa [World.setCell,Array.getElem?_modify,Ne.symm HNE.out] using hxa
  have hxz5:W5.heap[bz]? =some (.cells #[.bool false,.string ⟨#[]⟩,.string ⟨#[]⟩] 26 (0,0)):=by rw [←hW5];simpa [World.setCell,Array.getElem?_modify,Ne.symm HNZB.out] using hxz4
  rw [hW5] at hxb5 ⊢;have HB5:Hid (Below wq.heap.size wq W5):=hD (by rw [←hW5, ←hW4];exact below_row (below_row (HB3.out.trans (hb.mono HB3.out.size)) (by omega) _ _ _) (by omega) _ _ _);have HXA:=hD hxa5;have HXB:=hD hxb5;have HXZ:=hD hxz5;clear hW5 hW4 hxa hxb hxz hxb4 hxz4 hxa5 hxb5 hxz5 hS hb e1 e3 ca0 ca1 ca2 cb0 cb1 cb2 hfa hfb fa0 fa1 fa2 fb0 fb1 fb2;go_wp2_with fail;refine wpTl (w:=W5) (by kernel_rfl) (fun ix v _=>v=EVN ba bb ra rb L ix) 16 (fun t=>(decide (9≤t)&&decide (t<25))) (by decide) (by kernel_rfl) (by kernel_rfl) (by kernel_rfl) (by kernel_rfl) (by kernel_rfl) (fun _ _ _ _ _ h=>h) ?_ ?_
  ·intro i hi o listed a w hR K hK;have ho:=hR.at_;have hi:i<16:=hi;have hii:i=0∨i=1∨i=2∨i=3∨i=4∨i=5∨i=6∨i=7∨i=8∨i=9∨i=10∨i=11∨i=12∨i=13∨i=14∨i=15:=by omega
   rcases hii with rfl|rfl|rfl|rfl|rfl|rfl|rfl|rfl|rfl|rfl|rfl|rfl|rfl|rfl|rfl|rfl
   ·simp at ho;subst ho;have b2:a.tmps.getD 2 undef=.pointer (some ⟨ba,0,none⟩):=hR.b 2;refine pSq ?_;go_simp;exact hK _ _ rfl rB
   ·simp at ho;subst ho;have e0:a.tmps.getD 9 undef=.pointer (some ⟨ba,0,none⟩):=hR.t 0;obtain ⟨⟨cx0,cx1,cx2⟩,-⟩:=rwC (hpU hR.below HXA.out);refine pSq ?_;go_simp;exact hK _ _ rfl rB
   ·simp at ho;subst ho;have b3:a.tmps.getD 3 undef=.pointer (some ⟨bb,0,none⟩):=hR.b 3;refine pSq ?_;go_simp;exact hK _ _ rfl rB
   ·simp at ho;subst ho;have e2:a.tmps.getD 11 undef=.pointer (some ⟨bb,0,none⟩):=hR.t 2;obtain ⟨⟨cx0,cx1,cx2⟩,-⟩:=rwC (hpU hR.below HXB.out);refine pSq ?_;go_simp;exact hK _ _ rfl rB
   ·simp at ho;subst ho;have e1:a.tmps.getD 10 undef=.bool ra.neg:=hR.t 1;have e3:a.tmps.getD 12 undef=.bool rb.neg:=hR.t 3;refine pSq ?_;go_simp;exact hK _ _ rfl rB
   ·simp at ho;subst ho;have b2:a.tmps.getD 2 undef=.pointer (some ⟨ba,0,none⟩):=hR.b 2;refine pSq ?_;go_simp;exact hK _ _ rfl rB
   ·simp at ho;subst ho;have e5:a.tmps.getD 14 undef=.pointer (some ⟨ba,1,none⟩):=hR.t 5;obtain ⟨⟨cx0,cx1,cx2⟩,-⟩:=rwC (hpU hR.below HXA.out);refine pSq ?_;go_simp;exact hK _ _ rfl rB
   ·simp at ho;subst ho;have b3:a.tmps.getD 3 undef=.pointer (some ⟨bb,0,none⟩):=hR.b 3;refine pSq ?_;go_simp;exact hK _ _ rfl rB
   ·simp at ho;subst ho;have e7:a.tmps.getD 16 undef=.pointer (some ⟨bb,1,none⟩):=hR.t 7;obtain ⟨⟨cx0,cx1,cx2⟩,-⟩:=rwC (hpU hR.below HXB.out);refine pSq ?_;go_simp;exact hK _ _ rfl rB
   ·simp at ho;subst ho;have e6:a.tmps.getD 15 undef=.string (encS ra.num):=hR.t 6;have e8:a.tmps.getD 17 undef=.string (encS rb.num):=hR.t 8;refine pSq ?_;go_simp;refine (HN.out w).mono ?_;rintro e w' ⟨rfl,hb⟩;exact hK _ _ (rfl) hb
   ·simp at ho;subst ho;have b2:a.tmps.getD 2 undef=.pointer (some ⟨ba,0,none⟩):=hR.b 2;refine pSq ?_;go_simp;exact hK _ _ rfl rB
   ·simp at ho;subst ho;have e10:a.tmps.getD 19 undef=.pointer (some ⟨ba,2,none⟩):=hR.t 10;obtain ⟨⟨cx0,cx1,cx2⟩,-⟩:=rwC (hpU hR.below HXA.out);refine pSq ?_;go_simp;exact hK _ _ rfl rB
   ·simp at ho;subst ho;have b3:a.tmps.getD 3 undef=.pointer (some ⟨bb,0,none⟩):=hR.b 3;refine pSq ?_;go_simp;exact hK _ _ rfl rB
   ·simp at ho;subst ho;have e12:a.tmps.getD 21 undef=.pointer (some ⟨bb,2,none⟩):=hR.t 12;obtain ⟨⟨cx0,cx1,cx2⟩,-⟩:=rwC (hpU hR.below HXB.out);refine pSq ?_;go_simp;exact hK _ _ rfl rB
   ·simp at ho;subst ho;have e11:a.tmps.getD 20 undef=.string (encS ra.den):=hR.t 11;have e13:a.tmps.getD 22 undef=.string (encS rb.den):=hR.t 13;refine pSq ?_;go_simp;refine (HD.out w).mono ?_;rintro e w' ⟨rfl,hb⟩;exact hK _ _ (rfl) hb
   ·simp at ho;subst ho;have e4:a.tmps.getD 13 undef=.bool (ra.neg != rb.neg):=hR.t 4;have e9:a.tmps.getD 18 undef=.string (encS (ra.num*rb.num)):=hR.t 9;have e14:a.tmps.getD 23 undef=.string (encS (ra.den*rb.den)):=hR.t 14;refine pSq ?_;go_simp;refine (HL.out w).mono ?_;rintro e w' ⟨rfl,hb⟩;exact hK _ _ (rfl) hb
  ·intro s w hS hb;have e15:s 24=.agg #[.bool L.neg,.string (encS L.num),.string (encS L.den)]:=hS 15 (by decide);simp only [over,ovL,Nat.reduceAdd,Nat.reduceLeDiff,Nat.reduceLT];obtain ⟨⟨cz0,cz1,cz2⟩,hfz⟩:=rwC (hpU hb HXZ.out);have fz0:=hfz 0;have fz1:=hfz 1;have fz2:=hfz 2;refine tail_step (n:=0) rfl rfl ?_;go_simp;simp only [wpTail];have hrow:=row_set (hpU hb HXZ.out) (.bool L.neg) (.string (encS L.num)) (.string (encS L.den));have hbw:=below_row (HB5.out.trans (hb.mono HB5.out.size)) (b:=bz) (by omega) (.bool L.neg) (.string (encS L.num)) (.string (encS L.den));have HROW:=hD hrow;have HBW:=hD hbw;clear hrow hbw hS hb cz0 cz1 cz2 hfz fz0 fz1 fz2;go_wp2_with fail;refine bodyPost_ret (rC1 HROW.out) rfl ?_;exact ⟨rfl,HBW.out⟩
def EVQ (ba bb:Nat) (na nb:Bool) (sa da sb db:ByteArray) (ra rb:Rt):Nat→Value
 | 0=>.agg #[.bool na,.string sa,.string da]
 | 1=>.agg #[.bool ra.neg,.string (encS ra.num),.string (encS ra.den)]
 | 2=>.agg #[.bool nb,.string sb,.string db]
 | 3=>.agg #[.bool rb.neg,.string (encS rb.num),.string (encS rb.den)]
 | _=>undef
def EVR (ba bb:Nat) (ra rb L:Rt):Nat→Value
 | 0=>.pointer (some ⟨ba,0,none⟩)
 | 1=>.bool ra.neg
 | 2=>.pointer (some ⟨bb,0,none⟩)
 | 3=>.bool rb.neg
 | 4=>.bool (ra.neg != rb.neg)
 | 5=>.pointer (some ⟨ba,1,none⟩)
 | 6=>.string (encS ra.num)
 | 7=>.pointer (some ⟨bb,2,none⟩)
 | 8=>.string (encS rb.den)
 | 9=>.string (encS (ra.num*rb.den))
 | 10=>.pointer (some ⟨ba,2,none⟩)
 | 11=>.string (encS ra.den)
 | 12=>.pointer (some ⟨bb,1,none⟩)
 | 13=>.string (encS rb.num)
 | 14=>.string (encS (ra.den*rb.num))
 | 15=>.agg #[.bool L.neg,.string (encS L.num),.string (encS L.den)]
 | _=>undef
def quoV (a b:Rt):Value:=if b.num=0 then .tuple #[.agg #[.bool false,.string ⟨#[]⟩,.string ⟨#[]⟩],.bool false] else .tuple #[rtV (quoR a b),.bool true]
set_option maxRecDepth 100000 in
theorem RatQuo_r {va vb:Value} {ra rb:Rt} {k:Nat} (ha:IsR va ra k) (hb:IsR vb rb k) (hk1:1≤k) (hk:k≤1000000) (wq:World) :
  Gv 60 #[va,vb] wq (quoV ra rb):=by
 unfold Gv;have HVA:=hD (fun w=>value_r ha (by omega) w);have HVB:=hD (fun w=>value_r hb (by omega) w);have za:=ha.rz hk1;have zb:=hb.rz hk1;have oka:=ha.ok;have okb:=hb.ok;have HN:=hD (fun w=>Mul_n (numS_encS ra.num) (numS_encS rb.den) (za.1.enc (by omega)) (zb.2.enc (by omega)) w);have HD:=hD (fun w=>Mul_n (numS_encS ra.den) (numS_encS rb.num) (za.2.enc (by omega)) (zb.1.enc (by omega)) w);have HL:=hD (fun (hz:rb.num≠0) w=>lowest_n (ra.neg != rb.neg) (encS (ra.num*rb.den)) (encS (ra.den*rb.num)) _ _ w (numS_encS _) (numS_encS _) (Nat.mul_pos oka.pos (Nat.pos_of_ne_zero hz)) (Nat.le_trans (encS_size_lt (za.1.mul zb.2)) (by omega)) (Nat.le_trans (encS_size_lt (za.2.mul zb.1)) (by omega)));have HE:Hid (quoR ra rb=low (ra.neg != rb.neg) (ra.num*rb.den) (ra.den*rb.num)):=hD rfl;unfold quoV;rw [HE.out];obtain ⟨L,hL⟩:∃L,low (ra.neg != rb.neg) (ra.num*rb.den) (ra.den*rb.num)=L:=⟨_,rfl⟩
 rw [hL] at HL ⊢;clear hL;obtain ⟨na,sa,da,rfl,-⟩:=ha;obtain ⟨nb,sb,db,rfl,-⟩:=hb;clear za zb hk1 hk oka okb;obtain ⟨W3,hW3,hxa,hxb,hxz,hb3⟩:=boxes3 wq (.cells #[.bool na,.string sa,.string da] 26) (.cells #[.bool nb,.string sb,.string db] 26) (.cells #[.bool false,.string ⟨#[]⟩,.string ⟨#[]⟩] 26);go_enter Tryz.func60,Tryz.ntmps60;go_wp2_with fail;obtain ⟨ba,hba⟩:∃b,wq.heap.size=b:=⟨_,rfl⟩;obtain ⟨bb,hbb⟩:∃b,ba+1=b:=⟨_,rfl⟩;obtain ⟨bz,hbz⟩:∃b,bb+1=b:=⟨_,rfl⟩;rw [hba] at hxa hxb hxz ⊢;rw [hbb] at hxb hxz ⊢;rw [hbz] at hxz ⊢;have HXA:=hD hxa;have HXB:=hD hxb;have HXZ:=hD hxz;have HB3:=hD hb3;have HNE:Hid (ba≠bb):=hD (by omega);have HNZA:Hid (bz≠ba):=hD (by omega);have HNZB:Hid (bz≠bb):=hD (by omega);clear hW3 hxa hxb hxz hb3
 refine wpTl (w:=W3) (by kernel_rfl) (fun ix v _=>v=EVQ ba bb na nb sa da sb db ra rb ix) 4 (fun t=>(decide (6≤t)&&decide (t<10))) (by decide) (by kernel_rfl) (by kernel_rfl) (by kernel_rfl) (by kernel_rfl) (by kernel_rfl) (fun _ _ _ _ _ h=>h) ?_ ?_
 ·intro i hi o listed a w hR K hK;have ho:=hR.at_;have hi:i<4:=hi;have hii:i=0∨i=1∨i=2∨i=3:=by omega
  rcases hii with rfl|rfl|rfl|rfl
  ·simp at ho;subst ho;have b2:a.tmps.getD 2 undef=.pointer (some ⟨ba,0,none⟩):=hR.b 2;obtain ⟨⟨cx0,cx1,cx2⟩,-⟩:=rwC (hpU hR.below HXA.out);refine pSq ?_;go_simp;exact hK _ _ rfl rB
  ·simp at ho;subst ho;have e0:a.tmps.getD 6 undef=.agg #[.bool na,.string sa,.string da]:=hR.t 0;refine pSq ?_;go_simp;refine (HVA.out w).mono ?_;rintro e w' ⟨rfl,hb⟩;exact hK _ _ (rfl) hb
  ·simp at ho;subst ho;have b3:a.tmps.getD 3 undef=.pointer (some ⟨bb,0,none⟩):=hR.b 3;obtain ⟨⟨cx0,cx1,cx2⟩,-⟩:=rwC (hpU hR.below HXB.out);refine pSq ?_;go_simp;exact hK _ _ rfl rB
  ·simp at ho;subst ho;have e2:a.tmps.getD 8 undef=.agg #[.bool nb,.string sb,.string db]:=hR.t 2;refine pSq ?_;go_simp;refine (HVB.out w).mono ?_;rintro e w' ⟨rfl,hb⟩;exact hK _ _ (rfl) hb
 ·intro s w hS hb;have e1:s 7=.agg #[.bool ra.neg,.string (encS ra.num),.string (encS ra.den)]:=hS 1 (by decide);have e3:s 9=.agg #[.bool rb.neg,.string (encS rb.num),.string (encS rb.den)]:=hS 3 (by decide);simp only [over,ovL,Nat.reduceAdd,Nat.reduceLeDiff,Nat.reduceLT];obtain ⟨⟨ca0,ca1,ca2⟩,hfa⟩:=rwC (hpU hb HXA.out);have fa0:=hfa 0;have fa1:=hfa 1;have fa2:=hfa 2;refine tail_step (n:=1) rfl rfl ?_;go_simp;have hxb:=hpU hb HXB.out;have hxa:=row_set (hpU hb HXA.out) (.bool ra.neg) (.string (encS ra.num)) (.string (encS ra.den));obtain ⟨W4,hW4⟩:∃W4,((w.setCell ⟨ba,0,none⟩ (.bool ra.neg)).setCell ⟨ba,1,none⟩ (.string (encS ra.num))).setCell ⟨ba,2,none⟩ (.string (encS ra.den))=W4:=⟨_,rfl⟩;have hxb4:W4.heap[bb]? =some (.cells #[.bool nb,.string sb,.string db] 26 (0,0)):=by rw [←hW4];simpa [World.setCell,Array.getElem?_modify,HNE.out] using hxb
  rw [hW4] at hxa ⊢;obtain ⟨⟨cb0,cb1,cb2⟩,hfb⟩:=rwC hxb4;have fb0:=hfb 0;have fb1:=hfb 1;have fb2:=hfb 2;refine tail_step (n:=0) rfl rfl ?_;go_simp;simp only [wpTail];have hxz:=hpU hb HXZ.out;have hxz4:W4.heap[bz]? =some (.cells #[.bool false,.string ⟨#[]⟩,.string ⟨#[]⟩] 26 (0,0)):=by rw [←hW4];simpa [World.setCell,Array.getElem?_modify,Ne.symm HNZA.out] using hxz
  have hxb5:=row_set hxb4 (.bool rb.neg) (.string (encS rb.num)) (.string (encS rb.den));obtain ⟨W5,hW5⟩:∃W5,((W4.setCell ⟨bb,0,none⟩ (.bool rb.neg)).setCell ⟨bb,1,none⟩ (.string (encS rb.num))).setCell ⟨bb,2,none⟩ (.string (encS rb.den))=W5:=⟨_,rfl⟩;have hxa5:W5.heap[ba]? =some (.cells #[.bool ra.neg,.string (encS ra.num),.string (encS ra.den)] 26 (0,0)):=by rw [←hW5];simpa [World.setCell,Array.getElem?_modify,Ne.symm HNE.out] using hxa
  have hxz5:W5.heap[bz]? =some (.cells #[.bool false,.string ⟨#[]⟩,.string ⟨#[]⟩] 26 (0,0)):=by rw [←hW5];simpa [World.setCell,Array.getElem?_modify,Ne.symm HNZB.out] using hxz4
  rw [hW5] at hxb5 ⊢;have HB5:Hid (Below wq.heap.size wq W5):=hD (by rw [←hW5, ←hW4];exact below_row (below_row (HB3.out.trans (hb.mono HB3.out.size)) (by omega) _ _ _) (by omega) _ _ _);have HXA:=hD hxa5;have HXB:=hD hxb5;have HXZ:=hD hxz5;clear hW5 hW4 hxa hxb hxz hxb4 hxz4 hxa5 hxb5 hxz5 hS hb e1 e3 ca0 ca1 ca2 cb0 cb1 cb2 hfa hfb fa0 fa1 fa2 fb0 fb1 fb2;obtain ⟨⟨cq0,cq1,cq2⟩,-⟩:=rwC HXB.out
  by_cases hz:rb.num=0
  ·have hem:(encS rb.num).toList.isEmpty=true:=by rw [enc_empty];simp [hz]
   have hem2:(encS rb.num).toList=[]:=List.isEmpty_iff.1 hem;have HZ:=hD hz;obtain ⟨⟨cb0,cb1,cb2⟩,-⟩:=rwC HXB.out;obtain ⟨⟨cz0,cz1,cz2⟩,hfz⟩:=rwC HXZ.out;have fz0:=hfz 0;have fz1:=hfz 1;have fz2:=hfz 2;have HROW:=hD (row_set HXZ.out (.bool false) (.string ⟨#[]⟩) (.string ⟨#[]⟩));have HBW:=hD (below_row HB5.out (b:=bz) (by omega) (.bool false) (.string ⟨#[]⟩) (.string ⟨#[]⟩));clear hz hfz;go_wp2_with fail;refine bodyPost_ret (rC2 HROW.out) rfl ?_;have hbwf:=HBW.out;rw [hba] at hbwf;first|exact ⟨rfl,HBW.out⟩|exact ⟨rfl,hbwf⟩|exact ⟨by rw [if_pos HZ.out];rfl,HBW.out⟩
  ·have HNZ:=hD hz;have hem:(encS rb.num).toList.isEmpty=false:=enc_some hz;have hem2:¬(encS rb.num).toList=[]:=fun h=>by rw [h] at hem;cases hem
   obtain ⟨⟨cb0,cb1,cb2⟩,-⟩:=rwC HXB.out;clear hz;go_wp2_with fail;clear cb0 cb1 cb2 hem hem2;refine wpTl (w:=W5) (by kernel_rfl) (fun ix v _=>v=EVR ba bb ra rb L ix) 16 (fun t=>(decide (14≤t)&&decide (t<30))) (by decide) (by kernel_rfl) (by kernel_rfl) (by kernel_rfl) (by kernel_rfl) (by kernel_rfl) (fun _ _ _ _ _ h=>h) ?_ ?_
   ·intro i hi o listed a w hR K hK;have ho:=hR.at_;have hi:i<16:=hi;have hii:i=0∨i=1∨i=2∨i=3∨i=4∨i=5∨i=6∨i=7∨i=8∨i=9∨i=10∨i=11∨i=12∨i=13∨i=14∨i=15:=by omega
    rcases hii with rfl|rfl|rfl|rfl|rfl|rfl|rfl|rfl|rfl|rfl|rfl|rfl|rfl|rfl|rfl|rfl
    ·simp at ho;subst ho;have b2:a.tmps.getD 2 undef=.pointer (some ⟨ba,0,none⟩):=hR.b 2;refine pSq ?_;go_simp;exact hK _ _ rfl rB
    ·simp at ho;subst ho;have e0:a.tmps.getD 14 undef=.pointer (some ⟨ba,0,none⟩):=hR.t 0;obtain ⟨⟨cx0,cx1,cx2⟩,-⟩:=rwC (hpU hR.below HXA.out);refine pSq ?_;go_simp;exact hK _ _ rfl rB
    ·simp at ho;subst ho;have b3:a.tmps.getD 3 undef=.pointer (some ⟨bb,0,none⟩):=hR.b 3;refine pSq ?_;go_simp;exact hK _ _ rfl rB
    ·simp at ho;subst ho;have e2:a.tmps.getD 16 undef=.pointer (some ⟨bb,0,none⟩):=hR.t 2;obtain ⟨⟨cx0,cx1,cx2⟩,-⟩:=rwC (hpU hR.below HXB.out);refine pSq ?_;go_simp;exact hK _ _ rfl rB
    ·simp at ho;subst ho;have e1:a.tmps.getD 15 undef=.bool ra.neg:=hR.t 1;have e3:a.tmps.getD 17 undef=.bool rb.neg:=hR.t 3;refine pSq ?_;go_simp;exact hK _ _ rfl rB
    ·simp at ho;subst ho;have b2:a.tmps.getD 2 undef=.pointer (some ⟨ba,0,none⟩):=hR.b 2;refine pSq ?_;go_simp;exact hK _ _ rfl rB
    ·simp at ho;subst ho;have e5:a.tmps.getD 19 undef=.pointer (some ⟨ba,1,none⟩):=hR.t 5;obtain ⟨⟨cx0,cx1,cx2⟩,-⟩:=rwC (hpU hR.below HXA.out);refine pSq ?_;go_simp;exact hK _ _ rfl rB
    ·simp at ho;subst ho;have b3:a.tmps.getD 3 undef=.pointer (some ⟨bb,0,none⟩):=hR.b 3;refine pSq ?_;go_simp;exact hK _ _ rfl rB
    ·simp at ho;subst ho;have e7:a.tmps.getD 21 undef=.pointer (some ⟨bb,2,none⟩):=hR.t 7;obtain ⟨⟨cx0,cx1,cx2⟩,-⟩:=rwC (hpU hR.below HXB.out);refine pSq ?_;go_simp;exact hK _ _ rfl rB
    ·simp at ho;subst ho;have e6:a.tmps.getD 20 undef=.string (encS ra.num):=hR.t 6;have e8:a.tmps.getD 22 undef=.string (encS rb.den):=hR.t 8;refine pSq ?_;go_simp;refine (HN.out w).mono ?_;rintro e w' ⟨rfl,hb⟩;exact hK _ _ (rfl) hb
    ·simp at ho;subst ho;have b2:a.tmps.getD 2 undef=.pointer (some ⟨ba,0,none⟩):=hR.b 2;refine pSq ?_;go_simp;exact hK _ _ rfl rB
    ·simp at ho;subst ho;have e10:a.tmps.getD 24 undef=.pointer (some ⟨ba,2,none⟩):=hR.t 10;obtain ⟨⟨cx0,cx1,cx2⟩,-⟩:=rwC (hpU hR.below HXA.out);refine pSq ?_;go_simp;exact hK _ _ rfl rB
    ·simp at ho;subst ho;have b3:a.tmps.getD 3 undef=.pointer (some ⟨bb,0,none⟩):=hR.b 3;refine pSq ?_;go_simp;exact hK _ _ rfl rB
    ·simp at ho;subst ho;have e12:a.tmps.getD 26 undef=.pointer (some ⟨bb,1,none⟩):=hR.t 12;obtain ⟨⟨cx0,cx1,cx2⟩,-⟩:=rwC (hpU hR.below HXB.out);refine pSq ?_;go_simp;exact hK _ _ rfl rB
    ·simp at ho;subst ho;have e11:a.tmps.getD 25 undef=.string (encS ra.den):=hR.t 11;have e13:a.tmps.getD 27 undef=.string (encS rb.num):=hR.t 13;refine pSq ?_;go_simp;refine (HD.out w).mono ?_;rintro e w' ⟨rfl,hb⟩;exact hK _ _ (rfl) hb
    ·simp at ho;subst ho;have e4:a.tmps.getD 18 undef=.bool (ra.neg != rb.neg):=hR.t 4;have e9:a.tmps.getD 23 undef=.string (encS (ra.num*rb.den)):=hR.t 9;have e14:a.tmps.getD 28 undef=.string (encS (ra.den*rb.num)):=hR.t 14;refine pSq ?_;go_simp;refine (HL.out HNZ.out w).mono ?_;rintro e w' ⟨rfl,hb⟩;exact hK _ _ (rfl) hb
   ·intro s w hS hb;have e15:s 29=.agg #[.bool L.neg,.string (encS L.num),.string (encS L.den)]:=hS 15 (by decide);simp only [over,ovL,Nat.reduceAdd,Nat.reduceLeDiff,Nat.reduceLT];obtain ⟨⟨cz0,cz1,cz2⟩,hfz⟩:=rwC (hpU hb HXZ.out);have fz0:=hfz 0;have fz1:=hfz 1;have fz2:=hfz 2;refine tail_step (n:=1) rfl rfl ?_;go_simp;refine tail_step (n:=0) rfl rfl ?_;go_simp;simp only [wpTail];have hrow:=row_set (hpU hb HXZ.out) (.bool L.neg) (.string (encS L.num)) (.string (encS L.den));have hbw:=below_row (HB5.out.trans (hb.mono HB5.out.size)) (b:=bz) (by omega) (.bool L.neg) (.string (encS L.num)) (.string (encS L.den));have HROW:=hD hrow;have HBW:=hD hbw;clear hrow hbw hS hb cz0 cz1 cz2 hfz fz0 fz1 fz2;go_wp2_with fail;refine bodyPost_ret (rC2 HROW.out) rfl ?_;have hbwf:=HBW.out;rw [hba] at hbwf;first|exact ⟨rfl,HBW.out⟩|exact ⟨rfl,hbwf⟩|exact ⟨by rw [if_neg HNZ.out];rfl,HBW.out⟩
end Go.Proofs.YtabfjecegpaoaaaGreatDoor
