/- Contracts that the proofs of this seat share. Each theorem names its conditions. -/

import Derived.Test.YtblgfmjlajhipaaGreatDoorZb5
import Derived.Test.YtblgfmjlajhipaaGreatDoorZb6
set_option maxHeartbeats 16000000
set_option linter.unusedVariables false
namespace Go.Proofs.YtblgfmjlajhipaaGreatDoor
open Go.RowKit Go.Shelf Go.Maps
open Dgt
def MapIs (es:Array MapEntry) (ck n:Nat) (D:DataW Value):Prop:=∀(w:World) (b:Nat),w.heap[b]? =some (.map es ck)→w.ownsMap Tryz.prog 3 selfE b n D
theorem map_nil:MapIs #[] 0 0 (mapD []):=fun w b h=>⟨#[],0,h,⟨by simp,by exact ⟨by simp,by simp,by simp⟩,by simp⟩,Nat.le_refl _,rfl⟩
theorem MapIs.mono {es:Array MapEntry} {ck n m:Nat} {D:DataW Value} (h:MapIs es ck n D) (hm:n≤m):MapIs es ck m D:=fun w b hb=>(h w b hb).mono hm
theorem map_keyed:Keyed Tryz.prog 3:=int_keyed Tryz.underlying3
theorem day_wf {d:Int} (h: -9223372036854775808≤d∧d≤9223372036854775807):(Lit.int .i64 d).wf=true:=by
 simp [Lit.wf,IntKind.min,IntKind.max,IntKind.signed,IntKind.bits]<;>omega
theorem day_key {d:Int} (h: -9223372036854775808≤d∧d≤9223372036854775807):keyOf Tryz.prog 3 (.int .i64 d)=some (.int .i64 d):=keyOf_int_mk Tryz.underlying3 (day_wf h)
set_option maxRecDepth 100000 in
theorem map_store {w:World} {b n:Nat} {es:Array MapEntry} {ck:Nat} {g:List DR} (hx:Hid (w.heap[b]? =some (.map es ck))) (hm:Hid (MapIs es ck n (mapD g))) (hn:n<2000) (d:Int) (h: -9223372036854775808≤d∧d≤9223372036854775807) (x:Rt) :
  ∃w' es' ck',(Instr.mapUpdate 94 (.map (some b)) (.int .i64 d) (.agg #[.bool x.neg,.string (encS x.num),.string (encS x.den)])).run Tryz.prog w=.ok () w' ∧Hid (w'.heap[b]? =some (.map es' ck'))∧Hid (MapIs es' ck' (n+1) (mapD (g++[(d,x)]))) ∧
   (∀c o,b≠c→Hid (w.heap[c]? =some o)→Hid (w'.heap[c]? =some o))∧∀(A:World) (m:Nat),Hid (m≤b)→Hid (Below m A w)→Hid (Below m A w'):=by
 obtain ⟨w',hrun,hown,hg⟩:=(hm.out w b hx.out).update map_keyed Tryz.underlying94 (by unfold maxLen;omega) (day_key h) (show selfE (.agg #[.bool x.neg,.string (encS x.num),.string (encS x.den)])=some (.held (rtV x),[]) from rfl);obtain ⟨es',ck',hb',F',hs',hD'⟩:=hown;refine ⟨w',es',ck',hrun,Lib.hid hb',Lib.hid (fun W c hc=>⟨es',ck',hc,F',hs',?_⟩),fun c o hne ho=>Lib.hid ?_,fun A m hmb hA=>Lib.hid ?_⟩
 ·rw [mapD_snoc];exact hD'
 ·exact (hg.block c (Array.getElem?_eq_some_iff.1 ho.out).1 (fun e=>hne (by injection e with e;exact e.symm))).trans ho.out
 ·have hmb:=hmb.out;have hA:=hA.out;have hbl:=(Array.getElem?_eq_some_iff.1 hx.out).1;exact ⟨hg.os.trans hA.os,hg.tape.trans hA.tape,hg.output.trans hA.output,Nat.le_trans hA.size hg.size,fun c hc=>(hg.block c (by omega) (fun e=>by injection e with e;omega)).trans (hA.block c hc)⟩
set_option maxRecDepth 100000 in
theorem map_look {w:World} {b n:Nat} {es:Array MapEntry} {ck:Nat} {g:List DR} (hx:Hid (w.heap[b]? =some (.map es ck))) (hm:Hid (MapIs es ck n (mapD g))) {d:Int} (h: -9223372036854775808≤d∧d≤9223372036854775807) (hd:d ∈ daysOf g) {x:Rt} (hr:rateOf g d=x) :
  (Instr.lookup 94 (.map (some b)) (.int .i64 d) false).run Tryz.prog w=.ok (.agg #[.bool x.neg,.string (encS x.num),.string (encS x.den)]) w:=by
 obtain ⟨v,ps,hrun,hv⟩:=(hm.out w b hx.out).lookup map_keyed Tryz.underlying94 (z:=.agg #[.bool false,.string ⟨#[]⟩,.string ⟨#[]⟩]) (Tryz.zeroValue29 w) (zd:=.held (.agg #[.bool false,.string ⟨#[]⟩,.string ⟨#[]⟩])) (zp:=[]) rfl (day_key h);rw [mapD_at g d _ hd,hr] at hv;have e:v=rtV x:=by
  unfold selfE at hv
  injection hv with hv
  have:=congrArg Prod.fst hv
  injection this
 rw [hrun,e];rfl
def normS (g:List DR) (s:List DR × Rt) (d:Int):List DR × Rt:=if rateOf g d=s.2 then s else (s.1++[(d,rateOf g d)],rateOf g d)
def normF (g:List DR) (ds:List Int):List DR × Rt:=ds.foldl (normS g) ([],zeroR)
theorem normF_snoc (g:List DR) {ds:List Int} {k:Nat} (h:k<ds.length):normF g (ds.take (k+1))=normS g (normF g (ds.take k)) ds[k]:=by
 unfold normF;rw [List.take_succ_eq_append_getElem h,List.foldl_append];rfl
theorem normF_aux (g:List DR):∀(ds:List Int) (acc:List DR) (u:Rt),(ds.foldl (normS g) (acc,u)).1=acc++normL g ds u
 | [],acc,u=>by simp [normL]
 | d::t,acc,u=>by
  rw [List.foldl_cons];unfold normS normL
  by_cases h:rateOf g d=u
  ·rw [if_pos h,if_pos h];exact normF_aux g t acc u
  ·rw [if_neg h,if_neg h];have:=normF_aux g t (acc++[(d,rateOf g d)]) (rateOf g d);unfold normS at this;rw [this,List.append_assoc];rfl
theorem normF_all (g:List DR):(normF g (daysOf g)).1=normG g:=by unfold normF;rw [normF_aux];rfl
theorem LstD.nil (w:World):LstD w (.slice none 0 0) []:=⟨none,0,rfl,Nat.le_refl _,by decide,fun i h=>absurd h (by simp)⟩
def DaysAt (cur:Array Value) (ds:List Int):Prop:=cur.toList.take (ds.length*1)=ds.map encZ
theorem days_cell {w:World} {g k:Nat} {cur:Array Value} {t:TypeId} {ds:List Int} (hx:Hid (w.heap[g]? =some (.cells cur t (0,0)))) (hd:Hid (DaysAt cur ds)) (hk:k<ds.length):w.cell? ⟨g,k,none⟩=some (.int .i64 ds[k]):=by
 rw [Lib.cell_of_heap hx.out];have h:=hd.out;unfold DaysAt at h;have e:(cur.toList.take (ds.length*1))[k]? =(ds.map encZ)[k]? :=by rw [h]
 rw [List.getElem?_take,if_pos (by omega),List.getElem?_map,List.getElem?_eq_getElem hk] at e;rw [Array.getElem?_toList] at e;exact e
theorem days_in {g:List DR} (hg:Gr g) {k:Nat} (h:k<(daysOf g).length):(daysOf g)[k] ∈ daysOf g∧0≤(daysOf g)[k]∧(daysOf g)[k]≤3652058:=by
 have hm:(daysOf g)[k] ∈ daysOf g:=List.getElem_mem h;obtain ⟨e,he,h2⟩:=mem_days.1 hm;have:=hg.day e he;exact ⟨hm,by omega,by omega⟩
theorem up_pair:∀{l:List Int},Up l→l.Pairwise (· < ·)
 | _,.nil=>.nil
 | _,.cons h ht=>List.pairwise_cons.2 ⟨h,up_pair ht⟩
theorem up_lt {l:List Int} (h:Up l) {i j:Nat} (hij:i<j) (hj:j<l.length):l[i]<l[j]:=List.pairwise_iff_getElem.1 (up_pair h) i j (by omega) hj hij
section
variable {g:List DR} (hg:Gr g)
include hg
end
end Go.Proofs.YtblgfmjlajhipaaGreatDoor
