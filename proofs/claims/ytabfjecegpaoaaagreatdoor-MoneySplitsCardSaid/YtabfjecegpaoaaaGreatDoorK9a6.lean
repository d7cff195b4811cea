/- MoneySplits: for every input the law returns true, and each argument reads afterwards as it read before; the listed tables read as the program lays them (the tied card). -/
import Derived.Deep.LoopGhost
import Derived.Deep.QuietTactic
import Derived.BigQuiet
import Derived.Test.YtabfjecegpaoaaaGreatDoorProg
import Derived.WalkKit
import Derived.WalkSpells
import Derived.WalkLawsBesides
import Derived.IntWalk
import Derived.Lib.Hide
import Derived.Laws.BitsAllLaws
import Derived.StillTailTactics
import Derived.Deep.OwnRows
import Derived.Lib.ConvBytes
import Derived.Below
import Derived.RangeFuncNested
import Derived.RangeFuncCalls
import Derived.RangeFuncLeaves
import Derived.Shelf.Abstract
import Derived.Lib.LaidIn
import Derived.RegionTactic
import Derived.KernelRfl
import Derived.OrdersIn
import Derived.Shelf.Strings.Builder1
import Derived.Shelf.Strings.Builder2
import Derived.Shelf.Strings.Trim
import Derived.Shelf.Small.Utf8
import Derived.Shelf.Small.Bits
import Derived.Shelf.Small.Strs
import Derived.Shelf.Strings.BuilderF
import Derived.Shelf.Strings.BuilderK
import Derived.Shelf.Strings.Builder2Cap
import Derived.Shelf.Strconv.Atoi
import Derived.Shelf.Strconv.Itoa0
import Derived.Shelf.Strconv.Itoa1
import Derived.Shelf.LaysM
import Derived.Shelf.Strconv.Itoa2
import Derived.Shelf.Strconv.Itoa3
import Derived.Shelf.Strconv.AtoiErrFast
import Derived.Shelf.Strconv.ParseIntEmpty
import Derived.Shelf.Strconv.AtoiFail
import Derived.Shelf.Strconv.Clone
import Derived.Shelf.Strconv.SyntaxError
import Derived.Shelf.LaysC
import Derived.Shelf.Strconv.ToError
import Derived.Shelf.Strconv.Lower
import Derived.Shelf.Strconv.ParseUint10
import Derived.Shelf.Strconv.ParseUint10Empty
import Derived.Shelf.Strconv.ParseUint10Any
import Derived.Shelf.Strconv.ParseInt10
import Derived.Shelf.Strconv.AtoiLong
import Derived.Shelf.Strconv.AtoiInnerAll
import Derived.Shelf.Strconv.RangeError
import Derived.Shelf.Strconv.ToErrorRange
import Derived.Shelf.Strconv.AtoiAll
import Derived.Shelf.Strconv.ErrVarAll
import Derived.Shelf.Strconv.ParseUintEmpty
import Derived.Shelf.Strconv.ParseUint10b64
import Derived.Shelf.Strconv.ParseUint10b32
import Derived.Shelf.Strconv.ParseUint10b16
import Derived.Shelf.Strconv.ParseUint10b8
import Derived.Shelf.Strconv.ParseUint10At
import Derived.Shelf.Strconv.ParseInt10At64
import Derived.Shelf.Strconv.ParseInt10At32
import Derived.Shelf.Strconv.ParseInt10At16
import Derived.Shelf.Strconv.ParseInt10At8
import Derived.Shelf.Strconv.ParseInt10All
import Derived.Shelf.Strings.Search1
import Derived.Shelf.GgClosure.StringsIndexFunc
import Derived.Ground.GgwProg
import Derived.Shelf.GgClosure.StringsIndexFuncTop
import Derived.Shelf.GgClosure.StringsRunes
import Derived.Shelf.Strings.Prefix
import Derived.Shelf.Strings.Runes
import Derived.Shelf.Strings.AsciiSet
import Derived.Shelf.Bits.Mul64
import Derived.Shelf.Strings.Repeat
import Derived.Shelf.Unicode.DecodeSlow
import Derived.Shelf.Unicode.DecodeAny
import Derived.Shelf.Strings.FuncGrows
import Derived.Shelf.Strings.BuilderCap
import Derived.OwnWalkIn
import Derived.TacticsInMore
import Derived.LoopNIn
import Derived.LoopIn
import Derived.Laws.AppendOwnNone
import Derived.Test.YtabfjecegpaoaaaGreatDoorZc2
import Derived.Test.YtabfjecegpaoaaaGreatDoorK9a3
import Derived.Test.YtabfjecegpaoaaaGreatDoorZb6
import Derived.Test.YtabfjecegpaoaaaGreatDoorZb2
import Derived.Test.YtabfjecegpaoaaaGreatDoorZb4
import Derived.Test.YtabfjecegpaoaaaGreatDoorZb3
import Derived.Test.YtabfjecegpaoaaaGreatDoorZb1
import Derived.Test.YtabfjecegpaoaaaGreatDoorZa6
import Derived.Test.YtabfjecegpaoaaaGreatDoorZa5
import Derived.Test.YtabfjecegpaoaaaGreatDoorZa4
import Derived.Test.YtabfjecegpaoaaaGreatDoorZa3
import Derived.Test.YtabfjecegpaoaaaGreatDoorZa0
import Derived.Test.YtabfjecegpaoaaaGreatDoorZa1
import Derived.Test.YtabfjecegpaoaaaGreatDoorZa2
import Derived.Test.YtabfjecegpaoaaaGreatDoorZb5
import Derived.Test.YtabfjecegpaoaaaGreatDoorZb8
import Derived.Test.YtabfjecegpaoaaaGreatDoorZb7
import Derived.Test.YtabfjecegpaoaaaGreatDoorZc1
import Derived.Test.YtabfjecegpaoaaaGreatDoorZc0
import Derived.Test.YtabfjecegpaoaaaGreatDoorZb9
import Derived.Test.YtabfjecegpaoaaaGreatDoorZa9
import Derived.Test.YtabfjecegpaoaaaGreatDoorZa8
import Derived.Test.YtabfjecegpaoaaaGreatDoorK9a0
import Derived.Test.YtabfjecegpaoaaaGreatDoorK9a5
set_option maxHeartbeats 16000000
set_option linter.unusedVariables false
namespace Go.Proofs.YtabfjecegpaoaaaGreatDoor
open Go Go.RowKit Go.Shelf
open Dgt
theorem cel_raw (l:List Rt):cel l=cells3 (l.map rawR):=by
 unfold cel cells3;rw [List.flatMap_map];rfl
theorem own_block {w:World} {B n:Nat} {e:TypeId} {v:Value} {l:List Rt} (h:w.ownsRow B e 3 v n (cells3 (l.map rawR))) (hl:l.length=n) (hn:0<n) :
  ∃g cap rest,v=.slice (some ⟨g,0,none⟩) n cap∧B≤g∧w.heap[g]? =some (.cells (cel l++rest).toArray e (0,0))∧n≤cap:=by
 rcases h.2 with ⟨-,h0⟩|⟨g,cap,cur,rfl,h1,h2,h3,h4,h5,h6⟩
 ·omega
 ·refine ⟨g,cap,cur.toList.drop (n*3),rfl,h1,?_,h3⟩;rw [h2]
  congr 1
  congr 1
  rw [cel_raw, ←h6,List.take_append_drop]
theorem celx_cells {W:World} {b:Nat} {t:TypeId} {l:List Rt} {r:List Value} (h:W.heap[b]? =some (.cells (cel l++r).toArray t (0,0))) {i:Nat} {a:Rt} (ha:l[i]? =some a) :
  W.cell? ⟨b,i*3,none⟩=some (.bool a.neg)∧W.cell? ⟨b,i*3+1,none⟩=some (.string (encS a.num))∧W.cell? ⟨b,i*3+2,none⟩=some (.string (encS a.den)):=by
 obtain ⟨h1,h2,h3⟩:=cel_at l ha;have hi:i<l.length:=(List.getElem?_eq_some_iff.1 ha).1;have hc:=cel_len l;refine ⟨?_,?_,?_⟩<;>(rw [Lib.cell_of_heap h];rw [List.getElem?_toArray,List.getElem?_append_left (by omega)];assumption)
theorem celx_store {W:World} {b:Nat} {t:TypeId} {l:List Rt} {r:List Value} (h:W.heap[b]? =some (.cells (cel l++r).toArray t (0,0))) {i:Nat} (a:Rt) (hi:i<l.length) :
  (((W.setCell ⟨b,i*3,none⟩ (.bool a.neg)).setCell ⟨b,i*3+1,none⟩ (.string (encS a.num))).setCell ⟨b,i*3+2,none⟩ (.string (encS a.den))).heap[b]? =some (.cells (cel (l.set i a)++r).toArray t (0,0)):=by
 have hc:=cel_len l;rw [←cel_set l a hi];have e:∀(x:List Value) (j:Nat) (v:Value),j<x.length→x.set j v++r=(x++r).set j v:=fun x j v hj=>by rw [List.set_append_left _ _ hj]
 rw [e _ _ _ (by simp;omega),e _ _ _ (by simp;omega),e _ _ _ (by omega)];simp [World.setCell,Array.getElem?_modify,h]
theorem own_succ {w:World} {B k:Nat} {e:TypeId} {v:Value} {F:Nat→Rt} {a:Rt} (h:w.ownsRow B e 3 v (k+1) (cells3 ((lsf F k).map rawR)++[.bool a.neg,.string (encS a.num),.string (encS a.den)])) (ha:F k=a) :
  w.ownsRow B e 3 v (k+1) (cells3 ((lsf F (k+1)).map rawR)):=by
 have e:lsf F (k+1)=lsf F k++[a]:=by unfold lsf;rw [List.range_succ,List.map_append, ←ha];rfl
 rw [e,List.map_append,cells3_append];exact h
def boo (f:Nat→Bool) (n:Nat):List Value:=(List.range n).map fun i=>.bool (f i)
theorem boo_cell {W:World} {b:Nat} {t:TypeId} {f:Nat→Bool} {n i:Nat} (h:W.heap[b]? =some (.cells (boo f n).toArray t (0,0))) (hi:i<n):W.cell? ⟨b,i,none⟩=some (.bool (f i)):=by
 rw [Lib.cell_of_heap h,List.getElem?_toArray];simp [boo,hi]
theorem boo_store {W:World} {b:Nat} {t:TypeId} {f g:Nat→Bool} {n k:Nat} (h:W.heap[b]? =some (.cells (boo f n).toArray t (0,0))) (hk:g k=true) (hg:∀i,i≠k→g i=f i) :
  (W.setCell ⟨b,k,none⟩ (.bool true)).heap[b]? =some (.cells (boo g n).toArray t (0,0)):=by
 have e:(boo f n).set k (.bool true)=boo g n:=by
  refine List.ext_getElem? fun j=> ?_
  rw [List.getElem?_set]
  by_cases hj:k=j
  ·subst hj
   by_cases hn:k<n
   ·simp [boo,hn,hk]
   ·simp [boo,hn]
  ·rw [if_neg hj]
   by_cases hn:j<n
   ·simp [boo,hn,hg j (Ne.symm hj)]
   ·simp [boo,hn]
 rw [←e];simp [World.setCell,Array.getElem?_modify,h]
theorem boo_false (n:Nat):boo (fun _=>false) n=List.replicate n (.bool false):=by simp [boo,List.map_const']
theorem infoBool:(Tryz.prog.info? 4).map (fun i=>(i.zero,i.size,i.bytes))=some (some (.bool false),1,1):=by kernel_rfl
theorem made_bools (n:Nat):madeCells #[.bool false] (n*1)=(boo (fun _=>false) n).toArray:=by
 rw [boo_false];have h:=made_rep [.bool false] (by decide) n;have e:∀m:Nat,(List.replicate m [Value.bool false]).flatten=List.replicate m (.bool false):=fun m=>by
  induction m with
  | zero=>rfl
  | succ m ih=>rw [List.replicate_succ,List.flatten_cons,ih,List.replicate_succ];rfl
 rw [e] at h;exact h
theorem mk_bools (n:Nat) (hn:n≤20) (W:World):(Instr.makeSlice 74 (.int .i64 (n:Int)) (.int .i64 (n:Int))).run Tryz.prog W =
  .ok (.slice (some ⟨W.heap.size,0,none⟩) n n) (W.alloc (.cells (boo (fun _=>false) n).toArray 4)):=by
 obtain ⟨i,hi,hzz⟩:=Option.map_eq_some_iff.1 infoBool;simp only [Prod.mk.injEq] at hzz;obtain ⟨hz,hs,hb⟩:=hzz;have hr:=run_make (P:=Tryz.prog) W 74 4 i _ Tryz.underlying74 hi hz .i64 .i64 n n (by omega) (Int.le_refl _) (by rw [hb];omega) (by omega);simp only [Int.toNat_natCast,hs] at hr;rw [hr, ←made_bools n];rfl
def Best (ov:Nat→Rat) (pre:List Nat) (k:Nat):Option Nat→Prop
 | none=>∀i,i<k→i ∈ pre
 | some b=>b<k∧b ∉ pre∧∀i,i<k→i ∉ pre→¬ahead ov i b
theorem best_zero (ov:Nat→Rat) (pre:List Nat):Best ov pre 0 none:=fun i hi=>absurd hi (by omega)
theorem best_taken {ov:Nat→Rat} {pre:List Nat} {k:Nat} {o:Option Nat} (h:Best ov pre k o) (hk:k ∈ pre):Best ov pre (k+1) o:=by
 cases o with
 | none=>exact fun i hi=>by rcases Nat.lt_succ_iff_lt_or_eq.1 hi with h1|rfl;exact h i h1;exact hk
 | some b =>
  refine ⟨Nat.lt_succ_of_lt h.1,h.2.1,fun i hi hn=> ?_⟩;rcases Nat.lt_succ_iff_lt_or_eq.1 hi with h1|rfl
  ·exact h.2.2 i h1 hn
  ·exact absurd hk hn
theorem best_first {ov:Nat→Rat} {pre:List Nat} {k:Nat} (h:Best ov pre k none) (hk:k ∉ pre):Best ov pre (k+1) (some k):=by
 refine ⟨Nat.lt_succ_self k,hk,fun i hi hn=> ?_⟩;rcases Nat.lt_succ_iff_lt_or_eq.1 hi with h1|rfl
 ·exact absurd (h i h1) hn
 ·exact fun ha=>by rcases ha with ha|ha;exact absurd ha Rat.lt_irrefl;omega
theorem best_more {ov:Nat→Rat} {pre:List Nat} {k b:Nat} (h:Best ov pre k (some b)) (hk:k ∉ pre) (hc:ov b<ov k):Best ov pre (k+1) (some k):=by
 refine ⟨Nat.lt_succ_self k,hk,fun i hi hn=> ?_⟩;rcases Nat.lt_succ_iff_lt_or_eq.1 hi with h1|rfl
 ·have h2:=h.2.2 i h1 hn;intro ha;have h3:¬ov b<ov i:=fun e=>h2 (.inl e)
  rcases ha with ha|ha
  ·grind
  ·grind
 ·exact fun ha=>by rcases ha with ha|ha;exact absurd ha Rat.lt_irrefl;omega
theorem best_less {ov:Nat→Rat} {pre:List Nat} {k b:Nat} (h:Best ov pre k (some b)) (hc:¬ov b<ov k):Best ov pre (k+1) (some b):=by
 refine ⟨Nat.lt_succ_of_lt h.1,h.2.1,fun i hi hn=> ?_⟩;rcases Nat.lt_succ_iff_lt_or_eq.1 hi with h1|rfl
 ·exact h.2.2 i h1 hn
 ·intro ha;rcases ha with ha|ha
  ·exact hc ha
  ·have:=h.1;omega
theorem best_next {ov:Nat→Rat} {n j:Nat} {s:List Nat} (h:Ordd ov n s) (hj:j<n) {o:Option Nat} (hb:Best ov (s.take j) n o):∃b,o=some b∧b<n∧∃h2:j<s.length,s[j]=b:=by
 have hl:=h.len;cases o with
 | none =>
  have h1:=h.not_take (j:=j) (by omega);have h2:s[j]'(by omega)<n:=h.mem.1 (List.getElem_mem _);exact absurd (hb _ h2) h1
 | some b=>exact ⟨b,rfl,hb.1,by omega,h.best (by omega) hb.1 hb.2.1 hb.2.2⟩
def numAt (w:World) (b:Nat):Nat:=match w.cell? ⟨b,1,none⟩ with
 | some (.string s)=>numS s
 | _=>0
theorem numAt_row {w:World} {b:Nat} {a:Rt} {t:TypeId} (h:w.heap[b]? =some (.cells #[.bool a.neg,.string (encS a.num),.string (encS a.den)] t (0,0))):numAt w b=a.num:=by
 unfold numAt;rw [show w.cell? ⟨b,1,none⟩=some (.string (encS a.num)) from by rw [Lib.cell_of_heap h];rfl];exact numS_encS _
def besI:Option Nat→Int
 | none=> -1
 | some b=>(b:Int)
def f4 (c:Int) (ws:List Rt) (s:List Nat) (k i:Nat):Rt:=if i<k then ofC (sgZ c (xZ c ws s i)) else ofR (xZ c ws s i)
theorem f4_at (c:Int) (ws:List Rt) (s:List Nat) (k:Nat):f4 c ws s k k=ofR (xZ c ws s k):=by unfold f4;rw [if_neg (Nat.lt_irrefl k)]
theorem f4_succ (c:Int) (ws:List Rt) (s:List Nat) (k:Nat):upd (f4 c ws s k) k (ofC (sgZ c (xZ c ws s k)))=f4 c ws s (k+1):=by
 funext i
 unfold upd f4
 by_cases h:i=k
 ·subst h;rw [if_pos rfl,if_pos (Nat.lt_succ_self i)]
 ·rw [if_neg h]
  by_cases h2:i<k
  ·rw [if_pos h2,if_pos (by omega)]
  ·rw [if_neg h2,if_neg (by omega)]
theorem f4_zero (c:Int) (ws:List Rt) (s:List Nat) (n:Nat):lsf (bQ c ws (s.take (lefZ c ws).toNat)) n=lsf (f4 c ws s 0) n:=lsf_congr fun i _=>by unfold f4;rw [if_neg (by omega)];rfl
theorem f4_end (c:Int) (ws:List Rt) (s:List Nat):lsf (f4 c ws s ws.length) ws.length=partsT c ws s:=by
 unfold partsT lsf;refine List.map_congr_left fun k hk=> ?_
 unfold f4;rw [if_pos (List.mem_range.1 hk)]
theorem lst_block {W:World} {g cap:Nat} {l:List Rt} {r:List Value} {t:TypeId} (h:W.heap[g]? =some (.cells (cel l++r).toArray t (0,0))) (hl:l.length≤1000):LstR W (.slice (some ⟨g,0,none⟩) l.length cap) (l.map rawR):=by
 refine .inr ⟨g,0,cap,by rw [List.length_map],(Array.getElem?_eq_some_iff.1 h).1,by rw [List.length_map];exact hl,fun i hi=> ?_⟩;rw [List.length_map] at hi;have hc:=celx_cells h (List.getElem?_eq_getElem hi);rw [List.getElem_map,Nat.zero_add];exact hc
theorem guard_skip_u {P:Program} {ops:Array Oper} {Q:Exit→Act→World→Prop} {i:Nat} {o:Oper} {K:Act→World→Prop} {a:Act} {w:World} {g d:Nat} {b:Bool} (ho:ops[i]? =some o) (hg:o.guard=some (g,b)) (hd:dstOf ops g=some d)
  (ht:a.tmps.getD d undef=undef) (h:K (a.put o.dst undef) w):wpOp P ops Q i K a w:=by
 unfold wpOp;rw [ho];have hw:¬Region.wanted o (yielded ops a.tmps)=true:=by
  have hd' :((ops[g]?).bind (·.dst))=some d:=hd;have hy:yielded ops a.tmps g=none:=by
   unfold yielded;rw [hd'];rw [Array.getD_eq_getD_getElem?] at ht;cases e:a.tmps[d]? with
   | none=>simp [e]
   | some v =>
    rw [e] at ht;simp at ht;subst ht;simp [e,undef]
  simp [Region.wanted,hg,hy]
 show if Region.wanted o (yielded ops a.tmps)=true then _ else _
 rw [if_neg hw];exact h
theorem take_next {s:List Nat} {j:Nat} (hj:j<s.length):s.take (j+1)=s.take j++[s[j]]:=List.take_succ_eq_append_getElem hj
end Go.Proofs.YtabfjecegpaoaaaGreatDoor
