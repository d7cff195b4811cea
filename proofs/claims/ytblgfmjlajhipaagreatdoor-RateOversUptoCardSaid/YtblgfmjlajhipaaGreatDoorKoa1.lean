/- RateOvers: contracts and the law's walk. Each theorem names its conditions. -/
import Derived.Shelf.SortM.Plain
import Derived.Shelf.SortM.SortNone
import Derived.Ground.GgzProg
import Derived.Ground.SlgmProg
import Derived.Maps.Own
import Derived.Maps.OwnOps
import Derived.Maps.OwnSet
import Derived.Maps.Views
import Derived.Shelf.SlIterI.Nil
import Derived.WalkKit
import Derived.Deep.LoopGhost
import Derived.Deep.QuietTactic
import Derived.BigQuiet
import Derived.Test.YtblgfmjlajhipaaGreatDoorProg
import Derived.WalkSpells
import Derived.WalkLawsBesides
import Derived.IntWalk
import Derived.Lib.Hide
import Derived.Laws.BitsAllLaws
import Derived.StillTailTactics
import Derived.Deep.OwnRows
import Derived.Lib.ConvBytes
import Derived.Below
import Derived.RangeFuncNested
import Derived.RangeFuncCalls
import Derived.RangeFuncLeaves
import Derived.Shelf.Abstract
import Derived.Lib.LaidIn
import Derived.RegionTactic
import Derived.KernelRfl
import Derived.OrdersIn
import Derived.Shelf.Strings.Trim
import Derived.Shelf.Small.Utf8
import Derived.Shelf.Small.Bits
import Derived.Shelf.Small.Strs
import Derived.Shelf.Strconv.Itoa0
import Derived.Shelf.Strings.Search1
import Derived.Shelf.Strings.Runes
import Derived.Shelf.Strings.AsciiSet
import Derived.Shelf.Unicode.DecodeSlow
import Derived.Shelf.Unicode.DecodeAny
import Derived.Deep.DeepCutAuto
import Derived.Laws.AppendOwn
import Derived.Deep.DeepAppendWide
import Derived.Test.YtblgfmjlajhipaaGreatDoorZb7
import Derived.Test.YtblgfmjlajhipaaGreatDoorZb5
import Derived.Test.YtblgfmjlajhipaaGreatDoorKoa0
import Derived.Test.YtblgfmjlajhipaaGreatDoorZa7
import Derived.Test.YtblgfmjlajhipaaGreatDoorZa6
import Derived.Test.YtblgfmjlajhipaaGreatDoorZa5
import Derived.Test.YtblgfmjlajhipaaGreatDoorZa4
import Derived.Test.YtblgfmjlajhipaaGreatDoorZa3
import Derived.Test.YtblgfmjlajhipaaGreatDoorZa0
import Derived.Test.YtblgfmjlajhipaaGreatDoorZa1
import Derived.Test.YtblgfmjlajhipaaGreatDoorZa2
import Derived.Test.YtblgfmjlajhipaaGreatDoorZb6
import Derived.Test.YtblgfmjlajhipaaGreatDoorZc3
import Derived.Test.YtblgfmjlajhipaaGreatDoorZc2
import Derived.Test.YtblgfmjlajhipaaGreatDoorZc1
import Derived.Test.YtblgfmjlajhipaaGreatDoorZc0
import Derived.Test.YtblgfmjlajhipaaGreatDoorZb9
import Derived.Test.YtblgfmjlajhipaaGreatDoorZb8
import Derived.Test.YtblgfmjlajhipaaGreatDoorZc4
set_option maxHeartbeats 16000000
set_option linter.unusedVariables false
namespace Go.Proofs.YtblgfmjlajhipaaGreatDoor
open Go.RowKit Go.Shelf Go.Maps
open Dgt
def nextF (g:List DR) (la:Int):Int:=g.foldl (fun s e=>if la<e.1∧e.1<s then e.1 else s) 3652059
theorem nextF_snoc (g:List DR) (e:DR) (la:Int):nextF (g++[e]) la=if la<e.1∧e.1<nextF g la then e.1 else nextF g la:=by
 unfold nextF;rw [List.foldl_append];rfl
theorem nextF_spec (g:List DR) (la:Int):(nextF g la=3652059∨((∃e ∈ g,e.1=nextF g la)∧la<nextF g la))∧∀e ∈ g,la<e.1→nextF g la≤e.1:=by
 refine snoc_ind (P:=fun g=>(nextF g la=3652059∨((∃e ∈ g,e.1=nextF g la)∧la<nextF g la))∧∀e ∈ g,la<e.1→nextF g la≤e.1) ⟨.inl rfl,by simp⟩ ?_ g;rintro l x ⟨h1,h2⟩;rw [nextF_snoc]
 by_cases h:la<x.1∧x.1<nextF l la
 ·rw [if_pos h];refine ⟨.inr ⟨⟨x,by simp,rfl⟩,h.1⟩,fun e he h3=> ?_⟩;rcases List.mem_append.1 he with he|he
  ·have:=h2 e he h3;omega
  ·rw [List.mem_singleton.1 he];exact Int.le_refl _
 ·rw [if_neg h];refine ⟨?_,fun e he h3=> ?_⟩
  ·rcases h1 with h1|⟨⟨e,he,h4⟩,h5⟩
   ·exact .inl h1
   ·exact .inr ⟨⟨e,by simp [he],h4⟩,h5⟩
  ·rcases List.mem_append.1 he with he|he
   ·exact h2 e he h3
   ·rw [List.mem_singleton.1 he] at h3 ⊢;omega
def lastD (ds:List Int):Nat→Int|0=> -1|k+1=>ds.getD k 0
def prevR (g:List DR) (ds:List Int):Nat→Rt|0=>zeroR|k+1=>rateOf g (ds.getD k 0)
theorem up_le {l:List Int} (h:Up l) {i j:Nat} (hij:i≤j) (hj:j<l.length):l[i]≤l[j]:=by
 rcases Nat.lt_or_eq_of_le hij with h1|rfl
 ·exact Int.le_of_lt (up_lt h h1 hj)
 ·exact Int.le_refl _
theorem lastD_s {ds:List Int} {k:Nat} (h:k<ds.length):lastD ds (k+1)=ds[k]:=by
 show ds.getD k 0=ds[k];rw [List.getD_eq_getElem?_getD,List.getElem?_eq_getElem h];rfl
theorem prevR_s {g:List DR} {ds:List Int} {k:Nat} (h:k<ds.length):prevR g ds (k+1)=rateOf g ds[k]:=by
 show rateOf g (ds.getD k 0)=_;rw [List.getD_eq_getElem?_getD,List.getElem?_eq_getElem h];rfl
section
variable {g:List DR} (hg:Gr g)
include hg
theorem last_lt {k:Nat} (h:k<(daysOf g).length):lastD (daysOf g) k<(daysOf g)[k]:=by
 cases k with
 | zero=>have:=days_in hg h;show (-1:Int)<_;omega
 | succ k=>rw [lastD_s (by omega)];exact up_lt (days_up g) (by omega) h
omit hg in
theorem last_ge {k j:Nat} (h:j<k) (hk:k≤(daysOf g).length):(daysOf g)[j]≤lastD (daysOf g) k:=by
 cases k with
 | zero=>omega
 | succ k=>rw [lastD_s (by omega)];exact up_le (days_up g) (by omega) (by omega)
theorem next_days {k:Nat} (hk:k≤(daysOf g).length):nextF g (lastD (daysOf g) k)=if h:k<(daysOf g).length then (daysOf g)[k] else 3652059:=by
 obtain ⟨h1,h2⟩:=nextF_spec g (lastD (daysOf g) k)
 by_cases h:k<(daysOf g).length
 ·rw [dif_pos h];obtain ⟨hm,h0,h9⟩:=days_in hg h;obtain ⟨e,he,h3⟩:=mem_days.1 hm;have h4:=h2 e he (by rw [h3];exact last_lt hg h);rcases h1 with h1|⟨⟨e2,he2,h5⟩,h6⟩
  ·omega
  ·have hm2:nextF g (lastD (daysOf g) k) ∈ daysOf g:=mem_days.2 ⟨e2,he2,h5⟩;obtain ⟨j,hj,h7⟩:=List.mem_iff_getElem.1 hm2;rcases Nat.lt_or_ge j k with h8|h8
   ·have:=last_ge h8 hk;omega
   ·have:=up_le (days_up g) h8 hj;omega
 ·rw [dif_neg h];rcases h1 with h1|⟨⟨e2,he2,h5⟩,h6⟩
  ·exact h1
  ·have hm2:nextF g (lastD (daysOf g) k) ∈ daysOf g:=mem_days.2 ⟨e2,he2,h5⟩;obtain ⟨j,hj,h7⟩:=List.mem_iff_getElem.1 hm2;have:=last_ge (show j<k by omega) hk;omega
theorem on_day {k:Nat} (h:k<(daysOf g).length):onT g (daysOf g)[k]=rateOf g (daysOf g)[k]:=by
 obtain ⟨hm,h0,h9⟩:=days_in hg h;obtain ⟨e,he,h3⟩:=mem_days.1 hm;unfold onT;rw [if_neg (by omega)];rcases onF_spec g (daysOf g)[k] hg.pos with ⟨-,h2⟩|⟨h2,-,h4,h5⟩
 ·have:=h2 e he;omega
 ·have:=h5 e he (by omega);rw [h4,show (onF g (daysOf g)[k]).1=(daysOf g)[k] by omega]
theorem on_prev {k:Nat} (h:k<(daysOf g).length):onT g ((daysOf g)[k]-1)=prevR g (daysOf g) k:=by
 obtain ⟨hm,h0,h9⟩:=days_in hg h;unfold onT;rw [if_neg (by omega)];rcases onF_spec g ((daysOf g)[k]-1) hg.pos with ⟨h1,h2⟩|⟨h2,⟨e,he,h3⟩,h4,h5⟩
 ·cases k with
  | zero=>rw [h1];rfl
  | succ k =>
   obtain ⟨e,he,h3⟩:=mem_days.1 (days_in hg (show k<(daysOf g).length by omega)).1;have:=h2 e he;have:=up_lt (days_up g) (show k<k+1 by omega) h;omega
 ·obtain ⟨j,hj,h7⟩:=List.mem_iff_getElem.1 (mem_days.2 ⟨e,he,h3⟩:(onF g ((daysOf g)[k]-1)).1 ∈ daysOf g);have hjk:j<k:=by
   rcases Nat.lt_or_ge j k with h8|h8
   ·exact h8
   ·have:=up_le (days_up g) h8 hj;omega
  cases k with
  | zero=>omega
  | succ k =>
   rw [prevR_s (by omega),h4];obtain ⟨e2,he2,h8⟩:=mem_days.1 (days_in hg (show k<(daysOf g).length by omega)).1;have h10:=up_lt (days_up g) (show k<k+1 by omega) h;have h11:=h5 e2 he2 (by omega);have h12:=up_le (days_up g) (show j≤k by omega) (by omega);rw [show (onF g ((daysOf g)[k+1]-1)).1=(daysOf g)[k] by omega]
end
theorem normF_prev (g:List DR) (ds:List Int):∀k,k≤ds.length→(normF g (ds.take k)).2=prevR g ds k
 | 0,_=>rfl
 | k+1,h=>by
  rw [normF_snoc g (show k<ds.length by omega),prevR_s (by omega)];unfold normS
  split
  ·rename_i h2;exact h2.symm
  ·rfl
theorem norm_next {g:List DR} (hg:Gr g) {k:Nat} (h:k<(daysOf g).length):(normF g ((daysOf g).take (k+1))).1 =
  if onT g (daysOf g)[k]=onT g ((daysOf g)[k]-1) then (normF g ((daysOf g).take k)).1 else (normF g ((daysOf g).take k)).1++[((daysOf g)[k],onT g (daysOf g)[k])]:=by
 rw [normF_snoc g h,on_day hg h,on_prev hg h];unfold normS;rw [normF_prev g _ k (by omega)]
 split<;>rfl
end Go.Proofs.YtblgfmjlajhipaaGreatDoor
namespace Go.Proofs.YtblgfmjlajhipaaGreatDoor
open Go.RowKit Go.Shelf
open Dgt
set_option maxRecDepth 100000 in
theorem rSpanRight_any (fr tp:Int)  (wq:World) :
  Gv 81 #[.agg #[.int .i64 fr,.int .i64 tp]] wq (.bool (spanB fr tp)):=by
 unfold Gv;have HV:=hD (show spanB fr tp=(decide (0≤fr)&&decide (fr<tp)&&decide (tp≤3652059)) from rfl);obtain ⟨V,hV⟩:∃v,spanB fr tp=v:=⟨_,rfl⟩;rw [hV] at HV ⊢;clear hV;obtain ⟨t1,ht1⟩:∃xq,decide (0≤fr)=xq:=⟨_,rfl⟩;have Ht1:=hD ht1;clear ht1;obtain ⟨t2,ht2⟩:∃xq,decide (fr<tp)=xq:=⟨_,rfl⟩;have Ht2:=hD ht2;clear ht2;obtain ⟨t3,ht3⟩:∃xq,decide (tp≤3652059)=xq:=⟨_,rfl⟩;have Ht3:=hD ht3;clear ht3;rw [Ht1.out,Ht2.out,Ht3.out] at HV;have HB:=hD (Below.refl wq.heap.size wq);obtain ⟨n0,hn0⟩:∃n,n=wq.heap.size:=⟨_,rfl⟩;rw [←hn0];have HN0:=hD hn0;clear hn0;go_enter Tryz.func81,Tryz.ntmps81;obtain ⟨W1,bk1,hW1,hbk1,HX1_1,HB,HG1_1,hup⟩:=boxn HB HN0 (.cells #[.int .i64 fr,.int .i64 tp] 68);clear hup;cases t1
 case false =>
  cases t2
  case false =>
   cases t3
   case false =>
    have hV:V=false:=HV.out;subst hV;clear HV;have q2:=Ht1.out;have q3:=Ht2.out;have q4:=Ht3.out;have k5:W1.cell? ⟨bk1,0,none⟩=some (.int .i64 fr):=by rw [Lib.cell_of_heap HX1_1.out];rfl
    have k6:W1.cell? ⟨bk1,1,none⟩=some (.int .i64 tp):=by rw [Lib.cell_of_heap HX1_1.out];rfl
    go_wp2_with fail;clear hW1 hbk1 q2 q3 q4 k5 k6;go_ret;exact ⟨rfl,by rw [HN0.out];exact HB.out⟩
   case true =>
    have hV:V=false:=HV.out;subst hV;clear HV;have q7:=Ht1.out;have q8:=Ht2.out;have q9:=Ht3.out;have k10:W1.cell? ⟨bk1,0,none⟩=some (.int .i64 fr):=by rw [Lib.cell_of_heap HX1_1.out];rfl
    have k11:W1.cell? ⟨bk1,1,none⟩=some (.int .i64 tp):=by rw [Lib.cell_of_heap HX1_1.out];rfl
    go_wp2_with fail;clear hW1 hbk1 q7 q8 q9 k10 k11;go_ret;exact ⟨rfl,by rw [HN0.out];exact HB.out⟩
  case true =>
   cases t3
   case false =>
    have hV:V=false:=HV.out;subst hV;clear HV;have q12:=Ht1.out;have q13:=Ht2.out;have q14:=Ht3.out;have k15:W1.cell? ⟨bk1,0,none⟩=some (.int .i64 fr):=by rw [Lib.cell_of_heap HX1_1.out];rfl
    have k16:W1.cell? ⟨bk1,1,none⟩=some (.int .i64 tp):=by rw [Lib.cell_of_heap HX1_1.out];rfl
    go_wp2_with fail;clear hW1 hbk1 q12 q13 q14 k15 k16;go_ret;exact ⟨rfl,by rw [HN0.out];exact HB.out⟩
   case true =>
    have hV:V=false:=HV.out;subst hV;clear HV;have q17:=Ht1.out;have q18:=Ht2.out;have q19:=Ht3.out;have k20:W1.cell? ⟨bk1,0,none⟩=some (.int .i64 fr):=by rw [Lib.cell_of_heap HX1_1.out];rfl
    have k21:W1.cell? ⟨bk1,1,none⟩=some (.int .i64 tp):=by rw [Lib.cell_of_heap HX1_1.out];rfl
    go_wp2_with fail;clear hW1 hbk1 q17 q18 q19 k20 k21;go_ret;exact ⟨rfl,by rw [HN0.out];exact HB.out⟩
 case true =>
  cases t2
  case false =>
   cases t3
   case false =>
    have hV:V=false:=HV.out;subst hV;clear HV;have q22:=Ht1.out;have q23:=Ht2.out;have q24:=Ht3.out;have k25:W1.cell? ⟨bk1,0,none⟩=some (.int .i64 fr):=by rw [Lib.cell_of_heap HX1_1.out];rfl
    have k26:W1.cell? ⟨bk1,1,none⟩=some (.int .i64 tp):=by rw [Lib.cell_of_heap HX1_1.out];rfl
    go_wp2_with fail;clear hW1 hbk1 q22 q23 q24 k25 k26;go_ret;exact ⟨rfl,by rw [HN0.out];exact HB.out⟩
   case true =>
    have hV:V=false:=HV.out;subst hV;clear HV;have q27:=Ht1.out;have q28:=Ht2.out;have q29:=Ht3.out;have k30:W1.cell? ⟨bk1,0,none⟩=some (.int .i64 fr):=by rw [Lib.cell_of_heap HX1_1.out];rfl
    have k31:W1.cell? ⟨bk1,1,none⟩=some (.int .i64 tp):=by rw [Lib.cell_of_heap HX1_1.out];rfl
    go_wp2_with fail;clear hW1 hbk1 q27 q28 q29 k30 k31;go_ret;exact ⟨rfl,by rw [HN0.out];exact HB.out⟩
  case true =>
   cases t3
   case false =>
    have hV:V=false:=HV.out;subst hV;clear HV;have q32:=Ht1.out;have q33:=Ht2.out;have q34:=Ht3.out;have k35:W1.cell? ⟨bk1,0,none⟩=some (.int .i64 fr):=by rw [Lib.cell_of_heap HX1_1.out];rfl
    have k36:W1.cell? ⟨bk1,1,none⟩=some (.int .i64 tp):=by rw [Lib.cell_of_heap HX1_1.out];rfl
    go_wp2_with fail;clear hW1 hbk1 q32 q33 q34 k35 k36;go_ret;exact ⟨rfl,by rw [HN0.out];exact HB.out⟩
   case true =>
    have hV:V=true:=HV.out;subst hV;clear HV;have q37:=Ht1.out;have q38:=Ht2.out;have q39:=Ht3.out;have k40:W1.cell? ⟨bk1,0,none⟩=some (.int .i64 fr):=by rw [Lib.cell_of_heap HX1_1.out];rfl
    have k41:W1.cell? ⟨bk1,1,none⟩=some (.int .i64 tp):=by rw [Lib.cell_of_heap HX1_1.out];rfl
    go_wp2_with fail;clear hW1 hbk1 q37 q38 q39 k40 k41;go_ret;exact ⟨rfl,by rw [HN0.out];exact HB.out⟩
set_option maxRecDepth 100000 in
theorem rRight2_any (d:Dk) (hz:d.rt.n.size≤1100000∧d.rt.d.size≤1100000) (wq:World) :
  Gv 77 #[.agg #[.int .i64 d.day,.bool d.rt.neg,.string d.rt.n,.string d.rt.d]] wq (.bool (goodD d)):=by
 unfold Gv;have HV:=hD (show goodD d=(decide (0≤d.day)&&decide (d.day≤3652058)&&fitsR d.rt) from rfl);have c1:=fun w=>rFits_any d.rt (by omega) (by omega) w
 obtain ⟨V,hV⟩:∃v,goodD d=v:=⟨_,rfl⟩;rw [hV] at HV ⊢;clear hV;obtain ⟨t1,ht1⟩:∃xq,decide (0≤d.day)=xq:=⟨_,rfl⟩;have Ht1:=hD ht1;clear ht1;obtain ⟨t2,ht2⟩:∃xq,decide (d.day≤3652058)=xq:=⟨_,rfl⟩;have Ht2:=hD ht2;clear ht2;obtain ⟨Q,hQ⟩:∃xq,fitsR d.rt=xq:=⟨_,rfl⟩;have HQ:=hD hQ;clear hQ;rw [Ht1.out,Ht2.out,HQ.out] at HV;rw [HQ.out] at c1;have C1:Hid (∀w,Gv 82 #[.agg #[.bool d.rt.neg,.string d.rt.n,.string d.rt.d]] w (.bool Q)):=hD c1;clear c1 hz;have HB:=hD (Below.refl wq.heap.size wq);obtain ⟨n0,hn0⟩:∃n,n=wq.heap.size:=⟨_,rfl⟩;rw [←hn0];have HN0:=hD hn0;clear hn0;go_enter Tryz.func77,Tryz.ntmps77;obtain ⟨W1,bk1,hW1,hbk1,HX1_1,HB,HG1_1,hup⟩:=boxn HB HN0 (.cells #[.int .i64 d.day,.bool d.rt.neg,.string d.rt.n,.string d.rt.d] 64);clear hup;have k2:W1.cell? ⟨bk1,1,none⟩=some (.bool d.rt.neg):=by rw [Lib.cell_of_heap HX1_1.out];rfl
 have k3:W1.cell? ⟨bk1,2,none⟩=some (.string d.rt.n):=by rw [Lib.cell_of_heap HX1_1.out];rfl
 have k4:W1.cell? ⟨bk1,3,none⟩=some (.string d.rt.d):=by rw [Lib.cell_of_heap HX1_1.out];rfl
 go_wp2_with fail;clear hW1 hbk1 k2 k3 k4;refine (C1.out _).mono ?_;rintro e w2 ⟨rfl,hb⟩;have HX1_1:=uH hb HX1_1;have HB:=mH HB hb;clear hb;cases Q
 case false =>
  cases t1
  case false =>
   cases t2
   case false =>
    have hV:V=false:=HV.out;subst hV;clear HV;have q5:=Ht1.out;have q6:=Ht2.out;have k7:w2.cell? ⟨bk1,0,none⟩=some (.int .i64 d.day):=by rw [Lib.cell_of_heap HX1_1.out];rfl
    go_wp2_with fail;clear q5 q6 k7;go_ret;exact ⟨rfl,by rw [HN0.out];exact HB.out⟩
   case true =>
    have hV:V=false:=HV.out;subst hV;clear HV;have q8:=Ht1.out;have q9:=Ht2.out;have k10:w2.cell? ⟨bk1,0,none⟩=some (.int .i64 d.day):=by rw [Lib.cell_of_heap HX1_1.out];rfl
    go_wp2_with fail;clear q8 q9 k10;go_ret;exact ⟨rfl,by rw [HN0.out];exact HB.out⟩
  case true =>
   cases t2
   case false =>
    have hV:V=false:=HV.out;subst hV;clear HV;have q11:=Ht1.out;have q12:=Ht2.out;have k13:w2.cell? ⟨bk1,0,none⟩=some (.int .i64 d.day):=by rw [Lib.cell_of_heap HX1_1.out];rfl
    go_wp2_with fail;clear q11 q12 k13;go_ret;exact ⟨rfl,by rw [HN0.out];exact HB.out⟩
   case true =>
    have hV:V=false:=HV.out;subst hV;clear HV;have q14:=Ht1.out;have q15:=Ht2.out;have k16:w2.cell? ⟨bk1,0,none⟩=some (.int .i64 d.day):=by rw [Lib.cell_of_heap HX1_1.out];rfl
    go_wp2_with fail;clear q14 q15 k16;go_ret;exact ⟨rfl,by rw [HN0.out];exact HB.out⟩
 case true =>
  cases t1
  case false =>
   cases t2
   case false =>
    have hV:V=false:=HV.out;subst hV;clear HV;have q17:=Ht1.out;have q18:=Ht2.out;have k19:w2.cell? ⟨bk1,0,none⟩=some (.int .i64 d.day):=by rw [Lib.cell_of_heap HX1_1.out];rfl
    go_wp2_with fail;clear q17 q18 k19;go_ret;exact ⟨rfl,by rw [HN0.out];exact HB.out⟩
   case true =>
    have hV:V=false:=HV.out;subst hV;clear HV;have q20:=Ht1.out;have q21:=Ht2.out;have k22:w2.cell? ⟨bk1,0,none⟩=some (.int .i64 d.day):=by rw [Lib.cell_of_heap HX1_1.out];rfl
    go_wp2_with fail;clear q20 q21 k22;go_ret;exact ⟨rfl,by rw [HN0.out];exact HB.out⟩
  case true =>
   cases t2
   case false =>
    have hV:V=false:=HV.out;subst hV;clear HV;have q23:=Ht1.out;have q24:=Ht2.out;have k25:w2.cell? ⟨bk1,0,none⟩=some (.int .i64 d.day):=by rw [Lib.cell_of_heap HX1_1.out];rfl
    go_wp2_with fail;clear q23 q24 k25;go_ret;exact ⟨rfl,by rw [HN0.out];exact HB.out⟩
   case true =>
    have hV:V=true:=HV.out;subst hV;clear HV;have q26:=Ht1.out;have q27:=Ht2.out;have k28:w2.cell? ⟨bk1,0,none⟩=some (.int .i64 d.day):=by rw [Lib.cell_of_heap HX1_1.out];rfl
    go_wp2_with fail;clear q26 q27 k28;go_ret;exact ⟨rfl,by rw [HN0.out];exact HB.out⟩
theorem AtD.raw {A:World} {g o:Nat} {d:Dk} {u:Rt} (h:AtD A g o d) (e:d.rt=rawR u):AtE A g o d.day u:=by
 obtain ⟨x,r⟩:=d;subst e;exact h
set_option maxRecDepth 100000 in
theorem rOn_any (v:Value) (l:List Dk) (day:Int) (hz:SzD l 1100000) (wq:World) (hl:LstD wq v l) :
  Gv 37 #[v,.int .i64 day] wq (.agg #[.bool (onT (drs l) day).neg,.string (encS (onT (drs l) day).num),.string (encS (onT (drs l) day).den)]):=by
 unfold Gv;obtain ⟨ps,ca,rfl,-,hla,hca⟩:=hl.open;have HAT:=hD hca;have HLA:=hD hla;have HZ:=hD hz;have HON:=hD (show onT (drs l) day=if 3652058<day then ofR 0 else (onF (drs l) day).2 from rfl);have c1:=fun w=>rRatOf_any 0 w (by decide) (by decide)
 have HZ0:Hid (onF (drs (l.take 0)) day=(-1,ofR 0)):=hD rfl;obtain ⟨z0,hz0⟩:∃a,ofR 0=a:=⟨_,rfl⟩;rw [hz0] at c1 HON HZ0;obtain ⟨V,hV⟩:∃a,onT (drs l) day=a:=⟨_,rfl⟩;rw [hV] at HON ⊢;clear hca hla hl hz hV hz0;have C1:Hid (∀w,Gv 14 #[.int .i64 0] w (.agg #[.bool z0.neg,.string (encS z0.num),.string (encS z0.den)])):=hD c1;clear c1;obtain ⟨tl,htl⟩:∃xq,decide (3652058<day)=xq:=⟨_,rfl⟩;have Htl:=hD htl;clear htl;have HB:=hD (Below.refl wq.heap.size wq);obtain ⟨n0,hn0⟩:∃n,n=wq.heap.size:=⟨_,rfl⟩;rw [←hn0];have HN0:=hD hn0;clear hn0;go_enter Tryz.func37,Tryz.ntmps37;obtain ⟨W1,bk4,hW1,hbk4,HX4_1,HB,HG4_1,hup⟩:=boxZ HB HN0;clear hup;go_wp2_with fail;clear hW1 hbk4;refine (C1.out _).mono ?_;rintro e w2 ⟨rfl,hb⟩;have HX4_1:=uH hb HX4_1;have HB:=mH HB hb;clear hb;obtain ⟨W3,bk5,hW3,hbk5,HX5_2,HB,HG5_2,hup⟩:=boxZ HB HN0;have HL5_2:=(hup _ _ HX4_1).2;have HX4_1:=(hup _ _ HX4_1).1;clear hup
 obtain ⟨W4,hW4,HX5_2,HB,ho,f3a,f3b,f3c,k3a,k3b,k3c⟩:=putR HX5_2 HB HN0 HG5_2 z0;have HX4_1:=ho _ _ (en1 HL5_2) HX4_1;clear ho;cases tl
 case false =>
  have q4:=Htl.out;have HON:=hD (show V=(onF (drs l) day).2 by rw [HON.out,if_neg (by have:=Htl.out;simpa using this)]);go_wp2_with fail;clear hW3 hbk5 f3a f3b f3c k3a k3b k3c hW4 q4
  go_loopw [6,7] (fun u6 u7 wr=>∃(k:Nat) (p:Int) (u:Rt),k≤l.length∧u6=.int .i64 p∧u7=.int .i64 (k:Int)∧Hid (onF (drs (l.take k)) day=(p,u))∧Hid (wr.heap[bk4]? =some (.cells #[.bool false,.string ⟨#[]⟩,.string ⟨#[]⟩] 29 (0,0)))∧Hid (wr.heap[bk5]? =some (.cells #[.bool u.neg,.string (encS u.num),.string (encS u.den)] 29 (0,0)))∧Hid (Below wq.heap.size wq wr)) (fun _ u7 _=>l.length-(intOf u7).toNat)
  case atStart=>exact ⟨0,(-1),z0,by omega,by first|rfl|go_num,by first|rfl|go_num,HZ0,HX4_1,HX5_2,HB⟩
  case round =>
   obtain ⟨k,p,u,hk,rfl,rfl,HS,HX4_1,HX5_2,HB⟩:=hrel
   by_cases hlt:k<l.length
   ·have hlt' :(k:Int)<(l.length:Int):=by omega
    obtain ⟨gl,off,rfl,hat⟩:=HAT.out k hlt;have HE:=hD hat;have c1:=fun w=>rRight2_any l[k] (HZ.out _ (List.getElem_mem hlt)) w
    have HST:=hD (drs_take hlt);have HGR:=hD (fun h:goodD l[k]=true=>good_right h);obtain ⟨d,hd⟩:∃d,l[k]=d:=⟨_,rfl⟩;rw [hd] at HE c1 HST HGR;obtain ⟨Q,hQ⟩:∃b,goodD d=b:=⟨_,rfl⟩;rw [hQ] at c1 HST HGR;have HLT:=hD hlt;have C2:Hid (∀w,Gv 77 #[.agg #[.int .i64 d.day,.bool d.rt.neg,.string d.rt.n,.string d.rt.d]] w (.bool Q)):=hD c1;clear c1 hat hd hQ hlt hk;have HWI:Hid (IntKind.i64.wrap ((k:Int)+1)=((k+1:Nat):Int)):=hD (by rw [IntWalk.i64_in _ (by have:=HLT.out;have:=HLA.out;omega)];omega);obtain ⟨k5e0,k5e1,k5e2,k5e3⟩:=HE.out _ HB.out;go_wp2_with fail;clear hlt' k5e0 k5e1 k5e2 k5e3;refine (C2.out _).mono ?_;rintro e w5 ⟨rfl,hb⟩;have HX4_1:=uH hb HX4_1;have HX5_2:=uH hb HX5_2;have HB:=mH HB hb;clear hb;cases Q
    case false =>
     have HS2:=hD (show onF (drs (l.take (k+1))) day=(p,u) by rw [HST.out];exact HS.out);have hwi:=HWI.out;go_wp2_with fail;clear hwi
     go_roundw
     case rel=>exact ⟨k+1,p,u,by have:=HLT.out;omega,rfl,by first|rfl|go_num,HS2,HX4_1,HX5_2,HB⟩
     case measure=>have:=HLT.out;simp [intOf];omega
    case true =>
     obtain ⟨hr,-⟩:=HGR.out rfl;obtain ⟨x,hx⟩:∃x,d.rt.val=x:=⟨_,rfl⟩;rw [hx] at hr;have HE2:=hD (HE.out.raw hr);have HSN:=hD (show onF (drs (l.take (k+1))) day=if d.day≤day∧p≤d.day then (d.day,x) else (p,u) by rw [HST.out];simp only [if_true];rw [onF_snoc,HS.out,hx]);obtain ⟨dd,hdd⟩:∃y,d.day=y:=⟨_,rfl⟩;rw [hdd] at HE2 HSN;clear hr hx hdd HE HST HGR;obtain ⟨t1,ht1⟩:∃xq,decide (dd≤day)=xq:=⟨_,rfl⟩;have Ht1:=hD ht1;clear ht1;obtain ⟨t2,ht2⟩:∃xq,decide (p≤dd)=xq:=⟨_,rfl⟩;have Ht2:=hD ht2;clear ht2;cases t1
     case false =>
      cases t2
      case false =>
       have q6:=Ht1.out;have q7:=Ht2.out;have hk3:(k:Int)<(l.length:Int):=by have:=HLT.out;omega
       obtain ⟨k8e0,k8e1,k8e2,k8e3⟩:=HE2.out _ HB.out;have HS2:=hD (show onF (drs (l.take (k+1))) day=(p,u) by rw [HSN.out,if_neg (fun h=>by have:=Ht1.out;have h1:=h.1;rw [decide_eq_true h1] at this;cases this)]);have hwi:=HWI.out;go_wp2_with fail;clear q6 q7 hk3 k8e0 k8e1 k8e2 k8e3 hwi
       go_roundw
       case rel=>exact ⟨k+1,p,u,by have:=HLT.out;omega,rfl,by first|rfl|go_num,HS2,HX4_1,HX5_2,HB⟩
       case measure=>have:=HLT.out;simp [intOf];omega
      case true =>
       have q9:=Ht1.out;have q10:=Ht2.out;have hk3:(k:Int)<(l.length:Int):=by have:=HLT.out;omega
       obtain ⟨k11e0,k11e1,k11e2,k11e3⟩:=HE2.out _ HB.out;have HS2:=hD (show onF (drs (l.take (k+1))) day=(p,u) by rw [HSN.out,if_neg (fun h=>by have:=Ht1.out;have h1:=h.1;rw [decide_eq_true h1] at this;cases this)]);have hwi:=HWI.out;go_wp2_with fail;clear q9 q10 hk3 k11e0 k11e1 k11e2 k11e3 hwi
       go_roundw
       case rel=>exact ⟨k+1,p,u,by have:=HLT.out;omega,rfl,by first|rfl|go_num,HS2,HX4_1,HX5_2,HB⟩
       case measure=>have:=HLT.out;simp [intOf];omega
     case true =>
      cases t2
      case false =>
       have q12:=Ht1.out;have q13:=Ht2.out;have hk3:(k:Int)<(l.length:Int):=by have:=HLT.out;omega
       obtain ⟨k14e0,k14e1,k14e2,k14e3⟩:=HE2.out _ HB.out;have HS2:=hD (show onF (drs (l.take (k+1))) day=(p,u) by rw [HSN.out,if_neg (fun h=>by have:=Ht2.out;have h1:=h.2;rw [decide_eq_true h1] at this;cases this)]);have hwi:=HWI.out;go_wp2_with fail;clear q12 q13 hk3 k14e0 k14e1 k14e2 k14e3 hwi
       go_roundw
       case rel=>exact ⟨k+1,p,u,by have:=HLT.out;omega,rfl,by first|rfl|go_num,HS2,HX4_1,HX5_2,HB⟩
       case measure=>have:=HLT.out;simp [intOf];omega
      case true =>
       have q15:=Ht1.out;have q16:=Ht2.out;have hk3:(k:Int)<(l.length:Int):=by have:=HLT.out;omega
       obtain ⟨k17e0,k17e1,k17e2,k17e3⟩:=HE2.out _ HB.out;have HS2:=hD (show onF (drs (l.take (k+1))) day=(dd,x) by rw [HSN.out,if_pos ⟨by have:=Ht1.out;simpa using this,by have:=Ht2.out;simpa using this⟩]);have hwi:=HWI.out;obtain ⟨k18e0,k18e1,k18e2,k18e3⟩:=HE2.out _ HB.out;obtain ⟨W6,hW6,HX5_2,HB,ho,f19a,f19b,f19c,k19a,k19b,k19c⟩:=putR HX5_2 HB HN0 HG5_2 x;have HX4_1:=ho _ _ (en1 HL5_2) HX4_1;clear ho;go_wp2_with fail;clear q15 q16 hk3 k17e0 k17e1 k17e2 k17e3 hwi k18e0 k18e1 k18e2 k18e3 f19a f19b f19c k19a k19b k19c hW6
       go_roundw
       case rel=>exact ⟨k+1,dd,x,by have:=HLT.out;omega,rfl,by first|rfl|go_num,HS2,HX4_1,HX5_2,HB⟩
       case measure=>have:=HLT.out;simp [intOf];omega
   ·have hge:¬(k:Int)<(l.length:Int):=by omega
    have hV:V=u:=by rw [HON.out];have:=HS.out;rw [List.take_of_length_le (by omega)] at this;rw [this]
    subst hV;obtain ⟨k20a,k20b,k20c⟩:=c3 HX5_2;obtain ⟨W7,hW7,HX4_1,HB,ho,f21a,f21b,f21c,k21a,k21b,k21c⟩:=putR HX4_1 HB HN0 HG4_1 V;have HX5_2:=ho _ _ (ne1 HL5_2) HX5_2;clear ho;go_wp2_with fail;clear hge k20a k20b k20c f21a f21b f21c k21a k21b k21c hW7;refine bodyPost_ret (rC1 HX4_1.out) rfl ?_;exact ⟨rfl,by rw [HN0.out];exact HB.out⟩
 case true =>
  have q22:=Htl.out;have hV:V=z0:=by rw [HON.out,if_pos (by have:=Htl.out;simpa using this)]
  subst hV;obtain ⟨k23a,k23b,k23c⟩:=c3 HX5_2;obtain ⟨W8,hW8,HX4_1,HB,ho,f24a,f24b,f24c,k24a,k24b,k24c⟩:=putR HX4_1 HB HN0 HG4_1 V;have HX5_2:=ho _ _ (ne1 HL5_2) HX5_2;clear ho;go_wp2_with fail;clear hW3 hbk5 f3a f3b f3c k3a k3b k3c hW4 q22 k23a k23b k23c f24a f24b f24c k24a k24b k24c hW8;refine bodyPost_ret (rC1 HX4_1.out) rfl ?_;exact ⟨rfl,by rw [HN0.out];exact HB.out⟩
end Go.Proofs.YtblgfmjlajhipaaGreatDoor
