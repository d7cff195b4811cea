/- Contracts that the proofs of this seat share. Each theorem names its conditions. -/
import Derived.OwnWalkIn
import Derived.TacticsInMore
import Derived.LoopNIn
import Derived.LoopIn
import Derived.Test.YtabfjecegpaoaaaGreatDoorZb7
import Derived.Test.YtabfjecegpaoaaaGreatDoorZa1
import Derived.Test.YtabfjecegpaoaaaGreatDoorZb1
import Derived.Test.YtabfjecegpaoaaaGreatDoorZb2
import Derived.Test.YtabfjecegpaoaaaGreatDoorZb4
import Derived.Test.YtabfjecegpaoaaaGreatDoorZa6
import Derived.Test.YtabfjecegpaoaaaGreatDoorZb6
set_option maxHeartbeats 16000000
set_option linter.unusedVariables false
namespace Go.Proofs.YtabfjecegpaoaaaGreatDoor
open Go.RowKit Go.Shelf
open Dgt
set_option maxRecDepth 100000 in
theorem stable_any {bo bl bq n cap:Nat} {q:List Rt} (h1:1≤n) (hn:n≤19) (hc:n≤cap) (hq:OvOk q n) (hne1:bl≠bo) (hne2:bq≠bo) (wq:World) (hS:SrtW bl bq n cap q wq) (hb:wq.heap[bo]? =some (.cells (intsB (List.range n)) 3 (0,0))) :
  Calls Tryz.prog 126 #[.slice (some ⟨bo,0,none⟩) n n,.int .i64 (n:Int),.func (Fn.func 102) #[] #[.pointer (some ⟨bl,0,none⟩)]] wq fun e w' =>e=.returned (.tuple #[])∧∃s,Ordd (ovq q) n s∧w'.heap[bo]? =some (.cells (intsB s) 3 (0,0))∧Fr (fun b=>b=bo) wq w' :=by
 have HC:=hD (insort_any h1 (by omega) hc hq hne1 hne2 wq hS hb);have hle:¬(20:Int)≤(n:Int):=by omega
 have hlt:¬(20:Int)<(n:Int):=by omega
 clear hS hb h1 hn hc hq hne1 hne2;go_enter Tryz.func126,Tryz.ntmps126;go_wp2_with fail;refine wp_loop_once ?_;go_wp2_with fail;refine (HC.out).mono ?_;rintro e w1 ⟨rfl,s,ho,hb,hf⟩;have HO:=hD ho;have HB:=hD hb;have HF:=hD hf;clear ho hb hf;go_wp2_with fail;refine wp_loop_once ?_;go_wp2_with fail
 go_end0
 exact ⟨rfl,s,HO.out,HB.out,HF.out⟩
theorem sortstable_any {bo bl bq n cap:Nat} {q:List Rt} (h1:1≤n) (hn:n≤19) (hc:n≤cap) (hq:OvOk q n) (hne1:bl≠bo) (hne2:bq≠bo) (wq:World) (hS:SrtW bl bq n cap q wq) (hb:wq.heap[bo]? =some (.cells (intsB (List.range n)) 3 (0,0))) :
  Calls Tryz.prog 101 #[.slice (some ⟨bo,0,none⟩) n n,.func (Fn.func 102) #[] #[.pointer (some ⟨bl,0,none⟩)]] wq fun e w' =>e=.returned (.tuple #[])∧∃s,Ordd (ovq q) n s∧w'.heap[bo]? =some (.cells (intsB s) 3 (0,0))∧Fr (fun b=>b=bo) wq w' :=by
 have HC:=hD (stable_any h1 hn hc hq hne1 hne2 wq hS hb);clear hS hb h1 hn hc hq hne1 hne2;go_enter Tryz.func101,Tryz.ntmps101;go_wp2_with fail;refine (HC.out).mono ?_;rintro e w1 ⟨rfl,s,ho,hb,hf⟩;have HO:=hD ho;have HB:=hD hb;have HF:=hD hf;clear ho hb hf;go_wp2_with fail
 go_end0
 exact ⟨rfl,s,HO.out,HB.out,HF.out⟩
theorem values_any (p:Option Addr) (n c:Nat) (wq:World):Calls Tryz.prog 103 #[.slice p n c] wq fun e w' =>e=.returned (.func (Fn.func 127) #[] #[.pointer (some ⟨wq.heap.size,0,none⟩)])∧w' =wq.alloc (.cells #[.slice p n c] 54):=by
 go_enter Tryz.func103,Tryz.ntmps103;go_wp2_with fail;go_ret;exact ⟨rfl,rfl⟩
theorem range_fill {n k:Nat} (h:k<n):(List.range k++List.replicate (n-k) 0).set k k=List.range (k+1)++List.replicate (n-(k+1)) 0:=by
 obtain ⟨m,hm⟩:∃m,n-k=m+1:=⟨n-k-1,by omega⟩;rw [hm,List.set_append,if_neg (by simp),List.replicate_succ,List.range_succ,show n-(k+1)=m by omega];simp
set_option maxRecDepth 100000 in
theorem greatest_any {bq n cap:Nat} {q:List Rt} (h1:1≤n) (hn:n≤19) (hc:n≤cap) (hq:OvOk q n) (wq:World) (hrow:wq.heap[bq]? =some (.cells (cel q).toArray 69 (0,0))) :
  Calls Tryz.prog 64 #[.slice (some ⟨bq,0,none⟩) n cap] wq fun e w' =>∃bs bo s,e=.returned (.func (Fn.func 127) #[] #[.pointer (some ⟨bs,0,none⟩)])∧Ordd (ovq q) n s∧wq.heap.size≤bs∧wq.heap.size≤bo ∧
   w'.heap[bs]? =some (.cells #[.slice (some ⟨bo,0,none⟩) n n] 54 (0,0))∧w'.heap[bo]? =some (.cells (intsB s) 3 (0,0))∧Below wq.heap.size wq w' :=by
 have HIN:=hD (And.intro h1 hn);have HST:=hD (fun (bo bl:Nat) (e1:bl≠bo) (e2:bq≠bo) W (hS:SrtW bl bq n cap q W) (hb:W.heap[bo]? =some (.cells (intsB (List.range n)) 3 (0,0)))=>sortstable_any h1 hn hc hq e1 e2 W hS hb);have HV:=hD (fun p n c w=>values_any p n c w);have HBX:=hD (heap_alloc_new wq (.cells #[.slice (some ⟨bq,0,none⟩) n cap] 67));have HB:=hD ((Below.refl wq.heap.size wq).alloc (Nat.le_refl _) (.cells #[.slice (some ⟨bq,0,none⟩) n cap] 67));have HQL:Hid (bq<wq.heap.size):=hD (Array.getElem?_eq_some_iff.1 hrow).1;have HRW:=hD (hpU ((Below.refl _ wq).alloc (Nat.le_refl _) (.cells #[.slice (some ⟨bq,0,none⟩) n cap] 67)) hrow);obtain ⟨W1,hW1⟩:∃W,wq.alloc (.cells #[.slice (some ⟨bq,0,none⟩) n cap] 67)=W:=⟨_,rfl⟩;obtain ⟨bl,hbl⟩:∃b,wq.heap.size=b:=⟨_,rfl⟩;obtain ⟨n0,hn0⟩:∃n,n=wq.heap.size:=⟨_,rfl⟩;rw [←hn0];have HN0:=hD hn0;have HBL:=hD hbl;rw [hW1] at HBX HB HRW;rw [hbl] at HBX
 have c1:W1.cell? ⟨bl,0,none⟩=some (.slice (some ⟨bq,0,none⟩) n cap):=by rw [Lib.cell_of_heap HBX.out];rfl
 have hmk:=mk_ints n (n:Int) rfl (by omega) W1;clear h1 hn hc hq hrow hn0;go_enter Tryz.func64,Tryz.ntmps64;go_wp2_with fail;have hz:=heap_alloc_new W1 (.cells (intsB (List.replicate n 0)) 3);have hb2:=(Below.refl W1.heap.size W1).alloc (Nat.le_refl _) (.cells (intsB (List.replicate n 0)) 3);have e0:cellsK .i64 (List.replicate n 0)=intsB (List.replicate n 0):=by simp [cellsK,intsB]
 rw [e0];obtain ⟨W2,hW2⟩:∃W,W1.alloc (.cells (intsB (List.replicate n 0)) 3)=W:=⟨_,rfl⟩;rw [hW2] at hz hb2 ⊢;have HBX:=hD (hpU hb2 HBX.out);have HRW:=hD (hpU hb2 HRW.out);have HB2:=hD hb2;have HL1:Hid (bl<W1.heap.size):=hD (by rw [←hW1,World.size_alloc,hbl];omega);have HL2:Hid (bq<W1.heap.size):=hD (Nat.lt_of_lt_of_le HQL.out HB.out.size);have HLN:Hid (n0≤W1.heap.size):=hD (by rw [HN0.out];exact HB.out.size);obtain ⟨bo,hbo⟩:∃b,W1.heap.size=b:=⟨_,rfl⟩;rw [hbo] at hz HL1 HL2 HLN ⊢;have HZ:=hD hz;have HBO:=hD hbo;clear hW1 hW2 hbl hbo hz hb2 e0 hmk c1
 go_loopw [10] (fun v wr=>∃k:Nat,k≤n∧v=.int .i64 (k:Int)∧Hid (wr.heap[bo]? =some (.cells (intsB (List.range k++List.replicate (n-k) 0)) 3 (0,0)))∧Hid (Fr (fun b=>b=bo) W2 wr)) (fun v _=>n-(intOf v).toNat)
 case atStart=>exact ⟨0,by omega,rfl,hD (by simpa using HZ.out),hD (Fr.refl _ _)⟩
 case round =>
  clear HZ;obtain ⟨k,hk,rfl,HK,HF⟩:=hrel
  by_cases hlt:k<n
  ·have hlt' :(k:Int)<(n:Int):=by omega
   have hn19:=HIN.out.2;have cx:wr.cell? ⟨bo,k,none⟩=some (.int .i64 ((0:Nat):Int)):=ints_cell HK.out (by rw [List.getElem?_append_right (by simp),List.length_range,Nat.sub_self,List.getElem?_replicate,if_pos (by omega)]);have fx:wr.frozen? ⟨bo,k,none⟩=false:=frz0 HK.out k;have hwi:IntKind.i64.wrap ((k:Int)+1)=((k+1:Nat):Int):=by rw [IntWalk.i64_in _ (by omega)];omega
   have HX:=ints_set HK.out k k;rw [range_fill hlt] at HX;have HX:=hD HX;have HF:=hD (HF.out.setCell (p:=⟨bo,k,none⟩) (.inl rfl) (.int .i64 (k:Int)));have HLT:=hD hlt;clear hlt hk hn19;go_wp2_with fail
   go_roundw
   case rel=>exact ⟨k+1,by have:=HLT.out;omega,by first|rfl|go_num,HX,HF⟩
   case measure=>have:=HLT.out;simp [intOf];omega
  ·obtain rfl:k=n:=by omega
   have hge:¬(k:Int)<(k:Int):=by omega
   have HK:Hid (wr.heap[bo]? =some (.cells (intsB (List.range k)) 3 (0,0))):=by simpa using HK
   have HBX:=hD (HF.out.heap HBX.out (by have:=HL1.out;show ¬bl=bo;omega));have HRW:=hD (HF.out.heap HRW.out (by have:=HL2.out;show ¬bq=bo;omega));have HS:=hD (HST.out bo bl (by have:=HL1.out;omega) (by have:=HL2.out;omega) wr ⟨HBX.out,HRW.out⟩ HK.out);clear hlt hk;go_wp2_with fail;refine (HS.out).mono ?_;rintro e w1 ⟨rfl,s,ho,hb,hf⟩;have HF3:=hD (HF.out.trans hf);have HO:=hD ho;have HBB:=hD hb;clear ho hb hf;go_wp2_with fail;refine (HV.out _ _ _ _).mono ?_;rintro e w2 ⟨rfl,rfl⟩;go_wp2_with fail;go_ret;have hbw:Below wq.heap.size wq w1:=HB.out.trans ((HB2.out.mono HB.out.size).trans (HF3.out.below (by have:=HB.out.size;have:=HB2.out.size;omega) (fun b hb e=>by have:=HLN.out;have:=HN0.out;omega)));refine ⟨_,bo,s,rfl,HO.out,by rw [HN0.out];exact hbw.size,HLN.out,heap_alloc_new w1 _,hpU ((Below.refl _ w1).alloc (Nat.le_refl _) _) HBB.out,?_⟩;rw [HN0.out];exact hbw.alloc hbw.size _
end Go.Proofs.YtabfjecegpaoaaaGreatDoor
namespace Go.Proofs.YtabfjecegpaoaaaGreatDoor
open Go.RowKit
def IterB {α:Type} (P:Program) (gf:Nat) (lb:Array Value) (encs:α→Array Value) (xs:List α) (keep:World→Prop):Prop :=
 ∀(l:Nat) (J Jx:List α→World→Prop) (W:World),(∀pre A,J pre A→keep A) →
  (∀pre x rest W1,xs=pre++x::rest→J pre W1→YieldAt Fence.wide 0 P l (encs x) W1 fun e W' =>(e=.returned (.bool true)∧J (pre++[x]) W')∨(e=.returned (.bool false)∧Jx pre W')) →
  J [] W →
  CallsIn Fence.wide 0 P gf (#[.func (.yield l) #[] #[]]++lb) W fun e W' =>(∃v,e=.returned v)∧(J xs W' ∨∃pre,Jx pre W')
variable {P:Program}
theorem wp_rangeB {α:Type} {g:Operand} {ps:Array Tmp} {assign body:Code} {Q:Exit→Act→World→Prop} {a:Act} {w:World}
  {gf:Nat} {lb:Array Value} {encs:α→Array Value} {xs:List α} {keep:World→Prop}
  (hg:a.eval g=.func (.func gf) #[] lb) (eg:Enters P gf) (hiter:IterB P gf lb encs xs keep) (hps:∀x,(encs x).size=ps.size)
  (I:List α→World→Prop) (Ix:Nat→List α→World→Prop) (hI:∀pre A B,Below A.heap.size A B→I pre A→I pre B)
  (hIl:∀pre A L L',A.heap[w.heap.size+1]? =some (.loop L)→I pre A→I pre (A.putObj (w.heap.size+1) (.loop L')))
  (hIxl:∀id pre A L L',A.heap[w.heap.size+1]? =some (.loop L)→Ix id pre A→Ix id pre (A.putObj (w.heap.size+1) (.loop L')))
  (hkeep:∀pre A,I pre A→keep A) (h0:I [] w)
  (hround:∀(l:Nat) (pre:List α) (x:α) (rest:List α) (W:World),xs=pre++x::rest→I pre W →
   assign.wpIn (Fence.wide.inRound l) 0 P (Exit.then (fun a' Wa=>W=Wa∧∀W',w.heap.size+2≤W'.heap.size→I pre W' →
    body.wpIn (Fence.wide.inRound l) 0 P (fun e _ W3=>((e=.normal∧I (pre++[x]) W3)∨∃id,e=.exit id∧Ix id pre W3)∧W3.heap[w.heap.size]? =W'.heap[w.heap.size]? ∧W3.heap[w.heap.size+1]? =W'.heap[w.heap.size+1]?) a' W') (fun _ _ _=>False))
    { tmps:=(ps.zip (encs x)).foldl (fun t (p,v)=>t.setIfInBounds p v) a.tmps,defers:=[] } W)
  (hdone:∀(W:World),I xs W→w.heap.size+2≤W.heap.size→W.heap[w.heap.size]? =some (.deferred (some [])) →
   Q .normal { a with defers:={ target:=.collected w.heap.size,args:=#[] }::a.defers } W)
  (hstop:∀(id:Nat) (pre:List α) (W:World),Ix id pre W→w.heap.size+2≤W.heap.size→W.heap[w.heap.size]? =some (.deferred (some [])) →
   (Code.exit id).wpIn Fence.wide 0 P Q { a with defers:={ target:=.collected w.heap.size,args:=#[] }::a.defers } W) :
  (Code.rangeFunc g ps assign body).wpIn Fence.wide 0 P Q a w:=by
 obtain ⟨D,hD⟩:∃D,D=w.heap.size:=⟨_,rfl⟩
 obtain ⟨l,hl⟩:∃l,l=w.heap.size+1:=⟨_,rfl⟩
 refine wpIn_rangeFunc ?_
 intro fn hfn
 show ∃l mark w₁ d w₁' f args w₂,(Instr.enterLoop fn a.tmps ps assign body none).run P w=_∧_
 obtain ⟨rc,hrc⟩:∃rc:LoopState→Option Code→Loop,rc=fun st pe=>{ state:=st,pending:=pe,fn,tmps:=a.tmps,params:=ps,assign,body,defers:=w.heap.size }:=⟨_,rfl⟩
 obtain ⟨W1,hW1⟩:∃W1,(w.alloc (.deferred (some []))).alloc (.loop (rc .ready none))=W1:=⟨_,rfl⟩
 have hL1:W1.heap[l]? =some (.loop (rc .ready none)):=by
  rw [←hW1,hl];have:=World.alloc_heap_new (w.alloc (.deferred (some []))) (.loop (rc .ready none));rwa [World.size_alloc] at this
 have hK1:W1.heap[D]? =some (.deferred (some [])):=by
  rw [←hW1,hD];exact (Below.heap_alloc _ _ _ (by simp)).trans (World.alloc_heap_new w _)
 have hb1:Below w.heap.size w W1:=by
  rw [←hW1];exact ((Below.refl _ w).alloc (Nat.le_refl _) _).alloc (by simp) _
 have hI1:I [] W1:=hI _ _ _ hb1 h0
 refine ⟨w.heap.size+1,[{ target:=.collected w.heap.size,args:=#[] }],W1,{ target:=.fn (.func gf) lb,args:=#[.func (.yield (w.heap.size+1)) #[] #[]] },W1,gf,
  #[.func (.yield (w.heap.size+1)) #[] #[]]++lb,W1,?_,?_,?_,?_,?_,?_⟩
 ·rw [←hW1,hrc];exact run_enterLoop_outer _ _ _ _ _
 ·simp only [resolve,hg]
  simp [go_sem]
 ·intro f' _;trivial
 ·have eg' :∀args w,(callFunc gf args).run P w=.ok (.enter gf args) w:=eg
  simp [invoke,go_sem,eg']
 ·intro h;cases h
 ·rw [←hl]
  refine (hiter l
   (fun pre W=>I pre W∧W.heap[l]? =some (.loop (rc .ready none))∧W.heap[D]? =some (.deferred (some [])))
   (fun pre W=>∃id,Ix id pre W∧W.heap[l]? =some (.loop (rc .done (some (.exit id))))∧W.heap[D]? =some (.deferred (some []))) W1 (fun pre A h=>hkeep _ _ h.1) ?_ ⟨hI1,hL1,hK1⟩).mono ?_
  ·-- one round
   rintro pre x rest W hxs ⟨hi,h1,h2⟩
   have hlt:l<W.heap.size:=(Array.getElem?_eq_some_iff.1 h1).1
   have hy:=run_yield (P:=P) (args:=encs x) h1 (by rw [hrc];exact hps x)
   rw [hrc] at hy
   refine ⟨fn,_,assign,body,hy,roundIn_of_wpIn (F:=Fence.wide) hfn (wpIn_mono (hround l pre x rest W hxs hi) ?_)⟩
   clear hy
   rintro e a₁ Wa hthen
   cases e with
   | exit id=>exact hthen
   | goto t=>exact hthen
   | ret=>exact hthen
   | panic ch=>exact hthen
   | outgrown=>exact hthen
   | normal =>
   obtain ⟨rfl,hbody⟩:=hthen
   refine ⟨_,run_beginRound h1 (by rw [hrc]),?_⟩
   have hl2:(W.putObj l (.loop { rc .ready none with state:=.busy })).heap[l]? =some (.loop { rc .ready none with state:=.busy }):=World.putObj_heap_same hlt
   have hk2:(W.putObj l (.loop { rc .ready none with state:=.busy })).heap[D]? =some (.deferred (some [])):=(World.putObj_heap_other (by omega)).trans h2
   have hi2:I pre (W.putObj l (.loop { rc .ready none with state:=.busy })):=by
    have:=hIl pre W _ { rc .ready none with state:=.busy } (hl ▸ h1) hi
    rwa [←hl] at this
   refine wpIn_mono (hbody _ (by rw [World.putObj_size];omega) hi2) ?_
   rintro e a3 W3 ⟨hcase,hd3,hl3⟩
   rw [←hD] at hd3
   rw [←hl] at hl3
   have hl4:=hl3.trans hl2
   rcases hcase with ⟨rfl,hi3⟩|⟨id,rfl,hi3⟩
   rotate_left
   ·have hr:=run_endRound (P:=P) (some (.exit id)) hl4
    rw [hrc] at hr
    have hi4:=hIxl _ _ W3 _ (rc .done (some (.exit id))) (hl ▸ hl4) hi3
    rw [←hl] at hi4
    rw [hrc] at hi4 ⊢
    exact ⟨_,_,hr,.inr ⟨rfl,id,hi4,World.putObj_heap_same (Array.getElem?_eq_some_iff.1 hl4).1,(World.putObj_heap_other (by omega)).trans (hd3.trans hk2)⟩⟩
   have hr:=run_endRound (P:=P) none hl4
   rw [hrc] at hr
   have hi4:=hIl _ W3 _ (rc .ready none) (hl ▸ hl4) hi3
   rw [←hl] at hi4
   rw [hrc] at hi4 ⊢
   exact ⟨_,_,hr,.inl ⟨rfl,hi4,World.putObj_heap_same (Array.getElem?_eq_some_iff.1 hl4).1,(World.putObj_heap_other (by omega)).trans (hd3.trans hk2)⟩⟩
  ·-- behind the iterator
   rintro e W2 ⟨⟨v,rfl⟩,(⟨hi,h1,h2⟩|⟨pre,id,hi,h1,h2⟩)⟩
   ·have hlt:l<W2.heap.size:=(Array.getElem?_eq_some_iff.1 h1).1
    have hi4:=hIl _ W2 _ (rc .exhausted none) (hl ▸ h1) hi
    rw [←hl] at hi4
    have he:=run_endLoop (P:=P) h1 (by rw [hrc];simp)
    rw [hrc] at he
    refine ⟨none,_,he,?_⟩
    rw [hrc] at hi4
    exact hdone _ hi4 (by rw [World.putObj_size];omega) (by rw [←hD];exact (World.putObj_heap_other (by omega)).trans h2)
   ·have hlt:l<W2.heap.size:=(Array.getElem?_eq_some_iff.1 h1).1
    have he:=run_endLoop (P:=P) h1 (by rw [hrc];simp)
    rw [hrc] at he
    refine ⟨some (.exit id),_,he,?_⟩
    have hi4:=hIxl _ _ W2 _ (rc .exhausted (some (.exit id))) (hl ▸ h1) hi
    rw [←hl,hrc] at hi4
    exact hstop id pre _ (by simpa [hrc] using hi4) (by rw [World.putObj_size];omega) (by rw [←hD];exact (World.putObj_heap_other (by omega)).trans h2)
end Go.Proofs.YtabfjecegpaoaaaGreatDoor
namespace Go.Proofs.YtabfjecegpaoaaaGreatDoor
open Go.RowKit Go.Shelf
open Dgt
attribute [local go_sem] Oper.semAt_some
theorem cut_at' {s:List Nat} {k x:Nat} (h:s[k]? =some x):s=s.take k++x::s.drop (k+1):=by
 have hk:=(List.getElem?_eq_some_iff.1 h).1;have e:=(List.getElem?_eq_some_iff.1 h).2;rw [←e, ←List.drop_eq_getElem_cons hk,List.take_append_drop]
theorem take_at' {s:List Nat} {k x:Nat} (h:s[k]? =some x):s.take (k+1)=s.take k++[x]:=by
 have hk:=(List.getElem?_eq_some_iff.1 h).1;have e:=(List.getElem?_eq_some_iff.1 h).2;rw [List.take_succ_eq_append_getElem hk,e]
set_option maxRecDepth 100000 in
theorem values_iter (bs bo n:Nat) (s:List Nat) (hlen:s.length=n) (hn:n≤1000) :
  IterB Tryz.prog 127 #[.pointer (some ⟨bs,0,none⟩)] (fun k:Nat=>#[Value.int .i64 (k:Int)]) s (fun w0=>w0.heap[bs]? =some (.cells #[.slice (some ⟨bo,0,none⟩) n n] 54 (0,0))∧w0.heap[bo]? =some (.cells (intsB s) 3 (0,0))):=by
 intro f J Jx W hkeep hround h0;obtain ⟨hbW,hlW⟩:=hkeep _ _ h0;have hcb:W.cell? ⟨bs,0,none⟩=some (.slice (some ⟨bo,0,none⟩) n n):=by rw [Lib.cell_of_heap hbW];rfl
 have HR:=hD hround;have HKP:=hD hkeep;have H0:=hD h0;have HLN:=hD hlen;have HN:=hD hn;clear hround hkeep h0 hbW hlW hlen hn;refine callsIn_of_wp Tryz.func127 rfl trivial ?_ rfl;simp only [Tryz.ntmps127,List.size_toArray,List.length_cons,List.length_nil,Nat.reduceAdd,Nat.reduceSub,Array.replicate_succ,Array.replicate_zero,List.push_toArray,List.append_toArray,List.nil_append,List.cons_append]
 gi_wp2_with fail
 clear hcb
 gi_loopw [7] (fun i wr=>∃k:Nat,k≤n∧i=.int .i64 (k:Int)∧Hid (J (s.take k) wr)) (fun i _=>n-(intOf i).toNat)
 case atStart=>exact ⟨0,by omega,rfl,hD (by rw [List.take_zero];exact H0.out)⟩
 case round =>
  obtain ⟨k,hk,rfl,HJ⟩:=hrel;obtain ⟨hbQ,hlQ⟩:=HKP.out _ _ HJ.out
  by_cases hlt:k<n
  ·have hlt' :(k:Int)<(n:Int):=by omega
   have hkl:k<s.length:=by rw [HLN.out];exact hlt
   obtain ⟨x,hx⟩:∃x,s[k]? =some x:=⟨s[k],List.getElem?_eq_getElem hkl⟩;have cx:wr.cell? ⟨bo,k,none⟩=some (.int .i64 (x:Int)):=ints_cell hlQ hx;have hwi:IntKind.i64.wrap ((k:Int)+1)=((k+1:Nat):Int):=by rw [IntWalk.i64_in _ (by have:=HN.out;omega)];omega
   obtain ⟨fn,tmps,assign,body,hy,hR⟩:=HR.out (s.take k) x (s.drop (k+1)) wr (cut_at' hx) HJ.out;have HRR:=hD hR;have HTK:=hD (take_at' hx);have HLT:=hD hlt;clear hbQ hlQ hlt hk hkl hx hR
   gi_wp2_with fail
   refine ⟨rfl,?_⟩;refine HRR.out.mono ?_;rintro e W3 hcase;rcases hcase with ⟨rfl,hJ3⟩|⟨rfl,hJ3⟩
   ·have HJ3:Hid (J (s.take (k+1)) W3):=hD (by rw [HTK.out];exact hJ3);clear hJ3 hy cx
    gi_wp2_with fail
    go_roundw
    case rel=>exact ⟨k+1,by have:=HLT.out;omega,by first|rfl|go_num,HJ3⟩
    case measure=>have:=HLT.out;simp [intOf];omega
   ·have HJ3:=hD hJ3;clear hJ3 hy cx
    gi_wp2_with fail
    refine bodyPost_ret (results_none rfl _ _ _) rfl ?_;exact ⟨⟨_,rfl⟩,.inr ⟨_,HJ3.out⟩⟩
  ·have hge:¬(k:Int)<(n:Int):=by omega
   have HJ4:Hid (J s wr):=hD (by have:=HJ.out;rwa [List.take_of_length_le (by rw [HLN.out];omega)] at this);clear hlt hk hbQ hlQ
   gi_wp2_with fail
   go_end0
   exact ⟨⟨_,rfl⟩,.inl HJ4.out⟩
end Go.Proofs.YtabfjecegpaoaaaGreatDoor
namespace Go.Proofs.YtabfjecegpaoaaaGreatDoor
open Go Go.RowKit
section
variable {P:Program} {ops:Array Oper} {Q:Exit→Act→World→Prop} {T0:Array Value} {S:Nat→Value→World→Prop}
def BoxS (S:Nat→Value→World→Prop) (ws ia is:Nat) (Z N:Obj) (listed:Array Bool) (j:Nat) (v:Value) (w:World):Prop :=
 if j=ia then ∃g,v=.pointer (some ⟨g,0,none⟩)∧ws≤g∧w.heap[g]? =some (if listed.getD is false=true then N else Z)
 else if j=is then True else S j v w
structure BAt (ops:Array Oper) (T0:Array Value) (S:Nat→Value→World→Prop) (ia is:Nat) (w0:World) (i:Nat) (o:Oper) (listed:Array Bool) (a:Act) (w:World):Prop where
 at_:ops[i]? =some o
 ups:∀e ∈ o.after,Region.binds .any e=true→listed.getD e.on false=true
 base:∀t,freeB ops t=true→a.tmps.getD t undef=T0.getD t undef
 vals:∀j,j≠ia→j≠is→listed.getD j false=true→S j (inSlot a (dstOf ops j)) w
 below:Below w0.heap.size w0 w
theorem BAt.dep {ia is:Nat} {w0:World} {i:Nat} {o:Oper} {listed:Array Bool} {a:Act} {w:World} (h:BAt ops T0 S ia is w0 i o listed a w) (e:Edge) (he:e ∈ o.after) (hb:Region.binds .any e=true) (h1:e.on≠ia) (h2:e.on≠is):S e.on (inSlot a (dstOf ops e.on)) w:=h.vals e.on h1 h2 (h.ups e he hb)
theorem BAt.b {ops:Array Oper} {T0:Array Value} {S:Nat→Value→World→Prop} {ia is:Nat} {w0:World} {i:Nat} {o:Oper} {listed:Array Bool} {a:Act} {w:World} (h:BAt ops T0 S ia is w0 i o listed a w) (t:Nat) (ht:freeB ops t=true:=by kernel_rfl):a.tmps.getD t undef=T0.getD t undef:=h.base t ht
theorem wp_region_box {id:Nat} {w0:World} (hm:P.follows .mixedOrders=true) (S:Nat→Value→World→Prop) (ia is:Nat) (Z N:Obj) (b:Nat→Bool) (hov:overB ops T0.size b=true) (hsl:slotsB ops T0.size=true) (hbk:backR ops=true) (hne:ia≠is) (hil:is<ops.size)
  (hdep:(ops[is]?).any (fun o=>o.after.any fun e=>decide (e.on=ia)&&Region.binds .any e)=true) (hnone:dstOf ops is=none)
  (hup:∀j v w w',Below w0.heap.size w w' →S j v w→S j v w')
  (hstep:∀i,i<ops.size→i≠ia→i≠is→∀o listed a w',BAt ops T0 S ia is w0 i o listed a w' →
   ∀K:Act→World→Prop,(∀v w'',S i (gives o.dst v) w'' →Below w'.heap.size w' w'' →K (a.put o.dst v) w'')→wpOp P ops Q i K a w')
  (halloc:∀o a w',ops[ia]? =some o→∀K:Act→World→Prop,(∀v w'' g,gives o.dst v=.pointer (some ⟨g,0,none⟩)→w'.heap.size≤g→w''.heap[g]? =some Z→Below w'.heap.size w' w'' →K (a.put o.dst v) w'')→wpOp P ops Q ia K a w')
  (hstore:∀o listed a w' g,BAt ops T0 S ia is w0 is o listed a w' →inSlot a (dstOf ops ia)=.pointer (some ⟨g,0,none⟩)→w0.heap.size≤g→w'.heap[g]? =some Z →
   ∀K:Act→World→Prop,(∀w'',w''.heap[g]? =some N→Below w0.heap.size w' w'' →K a w'')→wpOp P ops Q is K a w')
  (hdone:∀(s:Nat→Value) w' g,(∀j,j<ops.size→j≠ia→j≠is→S j (match dstOf ops j with|some d=>s d|none=>undef) w')→(match dstOf ops ia with|some d=>s d|none=>undef)=.pointer (some ⟨g,0,none⟩)→w0.heap.size≤g→w'.heap[g]? =some N→Below w0.heap.size w0 w' →
   Q .normal { tmps:=(over b s 0 T0.toList).toArray,defers:=[] } w') :
  (Code.region id ops true).wp P Q { tmps:=T0,defers:=[] } w0:=by
 have hdepl:∀listed:Array Bool,(∀o,ops[is]? =some o→∀e ∈ o.after,Region.binds .any e=true→listed.getD e.on false=true)→listed.getD ia false=true:=fun listed h=>by
  cases ho:ops[is]? with
  | none=>rw [ho] at hdep;cases hdep
  | some o =>
   rw [ho] at hdep
   obtain ⟨e,he,h4⟩:=Array.any_eq_true'.1 (show (o.after.any fun e=>decide (e.on=ia)&&Region.binds .any e)=true from hdep)
   simp only [Bool.and_eq_true,decide_eq_true_eq] at h4
   have:=h o ho e he h4.2
   rwa [h4.1] at this
 refine wp_region_inv (RSt ops T0 (BoxS S w0.heap.size ia is Z N) (fun _ w' =>Below w0.heap.size w0 w')) hm ?_ ?_ ?_
 ·exact ⟨by simp,rfl,rfl,fun _ _=>rfl,fun j hj=>(by rw [getD_falses] at hj;cases hj),(Below.refl _ _).drew,fun j o _ hj=>by rw [getD_falses] at hj;cases hj⟩
 ·intro listed a w' hI i o ho hun hall
  have hun' :listed.getD i false=false:=by
   rcases Nat.lt_or_ge i listed.size with h' |h'
   ·simp [h'] at hun ⊢;exact hun
   ·simp [Array.getElem?_eq_none h'] at hun
  have hio:i<ops.size:=(Array.getElem?_eq_some_iff.1 ho).1
  have hA:BAt ops T0 S ia is w0 i o listed a w' :=⟨ho,hall,fun t ht=>hI.base t (fun j hj=>absurd hj (free_ne ht)),fun j h1 h2 hj=>by have:=hI.vals j hj;unfold BoxS at this;rwa [if_neg h1,if_neg h2] at this,hI.glob⟩
  by_cases hia:i=ia
  ·subst hia
   refine halloc o a w' ho _ fun v w'' g hv hg hz hb=> ?_
   refine hI.put_one hsl ho hun' hall ?_ (hI.glob.trans (hb.mono hI.glob.size)) ?_
   ·unfold BoxS;rw [if_pos rfl]
    refine ⟨g,hv,Nat.le_trans hI.glob.size hg,?_⟩
    have hs:(listed.setIfInBounds i true).getD is false=false:=by
     rw [getD_set_ne false hne]
     cases h:listed.getD is false
     ·rfl
     ·have:=hdepl listed (fun o ho e he hb=>hI.closed is o ho h e he hb)
      rw [hun'] at this;cases this
    rw [hs];simpa using hz
   ·intro j u hji hj hS
    unfold BoxS at hS ⊢
    rw [if_neg hji] at hS ⊢
    split
    ·trivial
    ·rename_i h;rw [if_neg h] at hS;exact hup j u w' w'' (hb.mono hI.glob.size) hS
  ·by_cases his:i=is
   ·subst his
    have hla:=hdepl listed (fun o' ho' e he hb=>by rw [ho] at ho';obtain rfl:=Option.some.inj ho';exact hall e he hb)
    have hbox:=hI.vals ia hla
    unfold BoxS at hbox
    rw [if_pos rfl,hun'] at hbox
    obtain ⟨g,hv,hg,hz⟩:=hbox
    have hdo:o.dst=none:=by rw [←show dstOf ops i=o.dst from (by simp [dstOf,ho])];exact hnone
    refine hstore o listed a w' g hA hv hg (by simpa using hz) _ fun w'' hN hb=> ?_
    refine ⟨by simpa using hI.lsize,hI.size,hI.defers,fun t ht=>hI.base t fun j hj=> ?_,fun j hj=> ?_,hI.glob.trans hb,fun j oj hoj hj e he hbe=> ?_⟩
    ·by_cases hji:j=i
     ·subst hji;exact hun'
     ·have:=ht j hj;rwa [getD_set_ne false (Ne.symm hji)] at this
    ·unfold BoxS
     by_cases hja:j=ia
     ·subst hja
      rw [if_pos rfl]
      refine ⟨g,hv,hg,?_⟩
      have:(listed.setIfInBounds i true).getD i false=true:=by simp [hI.lsize,hio]
      rw [this];simpa using hN
     ·rw [if_neg hja]
      split
      ·trivial
      ·rename_i h
       have hj' :listed.getD j false=true:=by rwa [getD_set_ne false (Ne.symm h)] at hj
       have:=hI.vals j hj'
       unfold BoxS at this
       rw [if_neg hja,if_neg h] at this
       exact hup j _ w' w'' hb this
    ·by_cases hji:j=i
     ·subst hji
      rw [ho] at hoj
      obtain rfl:=Option.some.inj hoj
      exact getD_set_true (hall e he hbe)
     ·have hj' :listed.getD j false=true:=by rwa [getD_set_ne false (Ne.symm hji)] at hj
      exact getD_set_true (hI.closed j oj hoj hj' e he hbe)
   ·refine hstep i hio hia his o listed a w' hA _ fun v w'' hS hb=> ?_
    refine hI.put_one hsl ho hun' hall ?_ (hI.glob.trans (hb.mono hI.glob.size)) ?_
    ·unfold BoxS;rw [if_neg hia,if_neg his];exact hS
    ·intro j u hji hj hSj
     unfold BoxS at hSj ⊢
     by_cases hja:j=ia
     ·subst hja
      rw [if_pos rfl] at hSj ⊢
      obtain ⟨g,h1,h2,h3⟩:=hSj
      refine ⟨g,h1,h2,?_⟩
      rw [getD_set_ne false his]
      exact (hb.block g (Array.getElem?_eq_some_iff.1 h3).1).trans h3
     ·rw [if_neg hja] at hSj ⊢
      split
      ·trivial
      ·rename_i h;rw [if_neg h] at hSj;exact hup j u w' w'' (hb.mono hI.glob.size) hSj
 ·intro listed a w' hI hr
  have hupl:∀j,j<ops.size→listed.getD j false=true:=fun j hj=>by
   have:=all_up hI.lsize (fun j o ho e he hb=>by
    have h1:=List.all_eq_true.1 hbk j (by simpa using (Array.getElem?_eq_some_iff.1 ho).1)
    rw [ho] at h1
    have h2:=Array.all_eq_true'.1 (show (o.after.all fun e=> !Region.binds .any e||decide (e.on<j))=true from h1) e he
    rw [hb] at h2
    simpa using h2) hr j hj
   have hs:j<listed.size:=by rw [hI.lsize];exact hj
   simpa [hs] using this
  have hT:a.tmps=fill ops (fun d=>a.tmps.getD d undef) ops.size T0:=by
   refine arr_ext (by rw [fill_size];exact hI.size) fun t=> ?_
   rw [fill_get ops _ T0 (fun j d h=>slots_lt hsl h) t]
   split
   ·rfl
   ·rename_i hno
    exact hI.base t fun j hj=>absurd ⟨j,dstOf_lt hj,hj⟩ hno
  have ha:a={ tmps:=fill ops (fun d=>a.tmps.getD d undef) ops.size T0,defers:=[] }:=by
   obtain ⟨tm,df⟩:=a
   have hd:df=[]:=hI.defers
   subst hd
   rw [←hT]
  have hla:=hdepl listed (fun o ho e he hb=>hI.closed is o ho (hupl is hil) e he hb)
  have hbox:=hI.vals ia hla
  unfold BoxS at hbox
  rw [if_pos rfl,hupl is hil] at hbox
  obtain ⟨g,hv,hg,hz⟩:=hbox
  rw [ha,fill_over hsl hov]
  refine hdone _ w' g (fun j hj h1 h2=> ?_) ?_ hg (by simpa using hz) hI.glob
  ·have:=hI.vals j (hupl j hj)
   unfold BoxS at this
   rw [if_neg h1,if_neg h2] at this
   cases hd:dstOf ops j with
   | none=>rw [hd] at this;exact this
   | some d=>rw [hd] at this;exact this
  ·cases hd:dstOf ops ia with
   | none=>rw [hd] at hv;exact hv
   | some d=>rw [hd] at hv;exact hv
end
end Go.Proofs.YtabfjecegpaoaaaGreatDoor
namespace Go.Proofs.YtabfjecegpaoaaaGreatDoor
open Go.RowKit Go.Shelf
open Dgt
def fitsB (neg:Bool) (n d:ByteArray):Bool:=rightR neg n d&&decide (bitsN (numS n)≤400)&&decide (bitsN (numS d)≤400)
set_option maxRecDepth 100000 in
theorem MoFits_any (na:Bool) (sa da:ByteArray) (zs:sa.size≤10000000) (zd:da.size≤10000000) (wq:World) :
  Gv 39 #[.agg #[.bool na,.string sa,.string da]] wq (.bool (fitsB na sa da)):=by
 unfold Gv;obtain ⟨R,hR⟩:∃b,rightR na sa da=b:=⟨_,rfl⟩;have HR:=hD hR;clear hR;obtain ⟨x,hx⟩:∃x,bitsN (numS sa)=x:=⟨_,rfl⟩;obtain ⟨y,hy⟩:∃x,bitsN (numS da)=x:=⟨_,rfl⟩;obtain ⟨P,hP⟩:∃b,decide ((x:Int)≤400)=b:=⟨_,rfl⟩;have HP:=hD hP;clear hP;obtain ⟨Q,hQ⟩:∃b,decide ((y:Int)≤400)=b:=⟨_,rfl⟩;have HQ:=hD hQ;clear hQ;have HF:Hid (fitsB na sa da=(R&&P&&Q)):=hD (by unfold fitsB;rw [HR.out,hx,hy, ←HP.out, ←HQ.out];congr 1;congr 1;exact decide_eq_decide.2 (by omega);exact decide_eq_decide.2 (by omega));have C1:Hid (∀w,Gv 58 #[.agg #[.bool na,.string sa,.string da]] w (.bool R)):=hD fun w=>by
  have h:=RatRight_any na sa da w zs zd;rw [HR.out] at h;exact h
 have C2:Hid (∀w,Gv 82 #[.string sa] w (.int .i64 (x:Int))):=hD fun w=>by
  have h:=Bits_any sa w (by omega);rw [hx] at h;exact h
 have C3:Hid (∀w,Gv 82 #[.string da] w (.int .i64 (y:Int))):=hD fun w=>by
  have h:=Bits_any da w (by omega);rw [hy] at h;exact h
 rw [HF.out];clear HF hx hy HR zs zd;have HB:=hD (Below.refl wq.heap.size wq);obtain ⟨n0,hn0⟩:∃n,n=wq.heap.size:=⟨_,rfl⟩;rw [←hn0];have HN0:=hD hn0;clear hn0;go_enter Tryz.func39,Tryz.ntmps39;obtain ⟨W1,bk1,hW1,hbk1,HX1_1,HB,HG1_1,hup⟩:=boxS HB HN0 na sa da;clear hup;obtain ⟨k2a,k2b,k2c⟩:=c3 HX1_1;go_wp2_with fail;clear hW1 hbk1 k2a k2b k2c;refine (C1.out _).mono ?_;rintro e w2 ⟨rfl,hb⟩;have HX1_1:=uH hb HX1_1;have HB:=mH HB hb;clear hb;cases R
 case false =>
  go_wp2_with fail;go_ret;exact ⟨rfl,by rw [HN0.out];exact HB.out⟩
 case true =>
  have q3:=HP.out;have k4:w2.cell? ⟨bk1,1,none⟩=some (.string sa):=by rw [Lib.cell_of_heap HX1_1.out];rfl
  go_wp2_with fail;clear q3 k4;refine (C2.out _).mono ?_;rintro e w3 ⟨rfl,hb⟩;have HX1_1:=uH hb HX1_1;have HB:=mH HB hb;clear hb;cases P
  case false =>
   have q5:=HP.out;go_wp2_with fail;clear q5;go_ret;exact ⟨rfl,by rw [HN0.out];exact HB.out⟩
  case true =>
   have q6:=HP.out;have k7:w3.cell? ⟨bk1,2,none⟩=some (.string da):=by rw [Lib.cell_of_heap HX1_1.out];rfl
   go_wp2_with fail;clear q6 k7;refine (C3.out _).mono ?_;rintro e w4 ⟨rfl,hb⟩;have HX1_1:=uH hb HX1_1;have HB:=mH HB hb;clear hb;have q8:=HQ.out;go_wp2_with fail;clear q8;go_ret;exact ⟨rfl,by rw [HN0.out];exact HB.out⟩
set_option maxRecDepth 100000 in
theorem MoOf_any (n:Int) (h1: -9223372036854775808≤n) (h2:n≤9223372036854775807) (wq:World) :
  Gv 20 #[.int .i64 n] wq (rtV (ofC n)):=by
 unfold Gv;have HE:Hid (quoV (ofR n) (ofR 100)=.tuple #[rtV (ofC n),.bool true]):=hD rfl;have z1:Rz (ofR n) 8:=ofR_sz h1 h2;have z2:Rz (ofR 100) 8:=ofR_sz (by decide) (by decide);have i1:IsR (rtV (ofR n)) (ofR n) 8:=IsR.of (ofR_ok _) z1;have i2:IsR (rtV (ofR 100)) (ofR 100) 8:=IsR.of (ofR_ok _) z2;have c1:=fun w=>RatOf_any n w h1 h2;have c2:=fun w=>RatOf_any 100 w (by decide) (by decide);have c3:=fun w=>RatQuo_r i1 i2 (by decide) (by decide) w
 rw [HE.out] at c3;clear HE i1 i2 z1 z2 h1 h2;obtain ⟨x,hx⟩:∃x,ofR n=x:=⟨_,rfl⟩;obtain ⟨y,hy⟩:∃x,ofR 100=x:=⟨_,rfl⟩;obtain ⟨z,hz⟩:∃x,ofC n=x:=⟨_,rfl⟩;rw [hx] at c1 c3;rw [hy] at c2 c3;rw [hz] at c3 ⊢;clear hx hy hz;have C1:Hid (∀w,Gv 59 #[.int .i64 n] w (.agg #[.bool x.neg,.string (encS x.num),.string (encS x.den)])):=hD c1;have C2:Hid (∀w,Gv 59 #[.int .i64 100] w (.agg #[.bool y.neg,.string (encS y.num),.string (encS y.den)])):=hD c2;have C3:Hid (∀w,Gv 60 #[rtV x,rtV y] w (.tuple #[.agg #[.bool z.neg,.string (encS z.num),.string (encS z.den)],.bool true])):=hD c3;clear c1 c2 c3;unfold rtV;have HB:=hD (Below.refl wq.heap.size wq);obtain ⟨n0,hn0⟩:∃n,n=wq.heap.size:=⟨_,rfl⟩;rw [←hn0];have HN0:=hD hn0;clear hn0;go_enter Tryz.func20,Tryz.ntmps20;obtain ⟨W1,bk2,hW1,hbk2,HX2_1,HB,HG2_1,hup⟩:=boxZ HB HN0;clear hup;go_wp2_with fail;clear hW1 hbk2;refine (C1.out _).mono ?_;rintro e w2 ⟨rfl,hb⟩
 have HX2_1:=uH hb HX2_1;have HB:=mH HB hb;clear hb;go_wp2_with fail;refine (C2.out _).mono ?_;rintro e w3 ⟨rfl,hb⟩;have HX2_1:=uH hb HX2_1;have HB:=mH HB hb;clear hb;go_wp2_with fail;refine (C3.out _).mono ?_;rintro e w4 ⟨rfl,hb⟩;have HX2_1:=uH hb HX2_1;have HB:=mH HB hb;clear hb;obtain ⟨W5,bk3,hW5,hbk3,HX3_2,HB,HG3_2,hup⟩:=boxZ HB HN0;have HL3_2:=(hup _ _ HX2_1).2;have HX2_1:=(hup _ _ HX2_1).1;clear hup;obtain ⟨W6,hW6,HX3_2,HB,ho,f3a,f3b,f3c,k3a,k3b,k3c⟩:=putR HX3_2 HB HN0 HG3_2 z;have HX2_1:=ho _ _ (en1 HL3_2) HX2_1;clear ho;obtain ⟨k4a,k4b,k4c⟩:=c3 HX3_2;obtain ⟨W7,hW7,HX2_1,HB,ho,f5a,f5b,f5c,k5a,k5b,k5c⟩:=putR HX2_1 HB HN0 HG2_1 z;have HX3_2:=ho _ _ (ne1 HL3_2) HX3_2;clear ho;go_wp2_with fail;clear hW5 hbk3 f3a f3b f3c k3a k3b k3c hW6 k4a k4b k4c f5a f5b f5c k5a k5b k5c hW7;refine bodyPost_ret (rC1 HX2_1.out) rfl ?_;exact ⟨rfl,by rw [HN0.out];exact HB.out⟩
end Go.Proofs.YtabfjecegpaoaaaGreatDoor
