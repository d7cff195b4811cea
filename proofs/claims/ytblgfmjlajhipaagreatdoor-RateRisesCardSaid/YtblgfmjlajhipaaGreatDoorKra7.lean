/- RateRises: contracts and the law's walk. Each theorem names its conditions. -/
import Derived.RangeFuncKeeps
import Derived.OwnWalkIn
import Derived.TacticsInMore
import Derived.LoopNIn
import Derived.LoopIn
import Derived.Shelf.SortM.Plain
import Derived.Shelf.SortM.SortNone
import Derived.Ground.GgzProg
import Derived.Ground.SlgmProg
import Derived.Maps.Own
import Derived.Maps.OwnOps
import Derived.Maps.OwnSet
import Derived.Maps.Views
import Derived.Shelf.SlIterI.Nil
import Derived.WalkKit
import Derived.Deep.LoopGhost
import Derived.Deep.QuietTactic
import Derived.BigQuiet
import Derived.Test.YtblgfmjlajhipaaGreatDoorProg
import Derived.WalkSpells
import Derived.WalkLawsBesides
import Derived.IntWalk
import Derived.Lib.Hide
import Derived.Laws.BitsAllLaws
import Derived.StillTailTactics
import Derived.Deep.OwnRows
import Derived.Lib.ConvBytes
import Derived.Below
import Derived.Shelf.Strings.Trim
import Derived.Shelf.Small.Utf8
import Derived.Shelf.Small.Bits
import Derived.Shelf.Small.Strs
import Derived.Shelf.Strconv.Itoa0
import Derived.Shelf.Strings.Search1
import Derived.Shelf.Strings.Runes
import Derived.Shelf.Strings.AsciiSet
import Derived.Shelf.Unicode.DecodeSlow
import Derived.Shelf.Unicode.DecodeAny
import Derived.Deep.DeepCutAuto
import Derived.Laws.AppendOwn
import Derived.Deep.DeepAppendWide
import Derived.Test.YtblgfmjlajhipaaGreatDoorKra2
import Derived.Test.YtblgfmjlajhipaaGreatDoorKra6
import Derived.Test.YtblgfmjlajhipaaGreatDoorZd1
import Derived.Test.YtblgfmjlajhipaaGreatDoorZd0
import Derived.Test.YtblgfmjlajhipaaGreatDoorZc8
import Derived.Test.YtblgfmjlajhipaaGreatDoorZc7
import Derived.Test.YtblgfmjlajhipaaGreatDoorZc6
import Derived.Test.YtblgfmjlajhipaaGreatDoorZb7
import Derived.Test.YtblgfmjlajhipaaGreatDoorZb5
import Derived.Test.YtblgfmjlajhipaaGreatDoorZa6
import Derived.Test.YtblgfmjlajhipaaGreatDoorZb4
import Derived.Test.YtblgfmjlajhipaaGreatDoorZa7
import Derived.Test.YtblgfmjlajhipaaGreatDoorZa5
import Derived.Test.YtblgfmjlajhipaaGreatDoorZa4
import Derived.Test.YtblgfmjlajhipaaGreatDoorZa3
import Derived.Test.YtblgfmjlajhipaaGreatDoorZa0
import Derived.Test.YtblgfmjlajhipaaGreatDoorZa1
import Derived.Test.YtblgfmjlajhipaaGreatDoorKra0
import Derived.Test.YtblgfmjlajhipaaGreatDoorZa2
import Derived.Test.YtblgfmjlajhipaaGreatDoorZb6
import Derived.Test.YtblgfmjlajhipaaGreatDoorKra1
import Derived.Test.YtblgfmjlajhipaaGreatDoorZc5
import Derived.Test.YtblgfmjlajhipaaGreatDoorZc4
import Derived.Test.YtblgfmjlajhipaaGreatDoorZc3
import Derived.Test.YtblgfmjlajhipaaGreatDoorZc2
import Derived.Test.YtblgfmjlajhipaaGreatDoorZc1
import Derived.Test.YtblgfmjlajhipaaGreatDoorZc0
import Derived.Test.YtblgfmjlajhipaaGreatDoorZb9
import Derived.Test.YtblgfmjlajhipaaGreatDoorZb8
import Derived.Test.YtblgfmjlajhipaaGreatDoorZc9
set_option maxHeartbeats 16000000
set_option linter.unusedVariables false
namespace Go.Proofs.YtblgfmjlajhipaaGreatDoor
open Go.RowKit Go.Shelf
open Dgt
theorem set_len {m:List BT} {k:Nat} {b:BT}:(m.set k b).length=m.length:=List.length_set
theorem set_fr {m:List BT} {k:Nat} {r:Rt} (hk:k<m.length) (j:Nat):frT (m.set k (frT m k,r)) j=frT m j:=by
 unfold frT;rw [List.getElem?_set]
 by_cases e:k=j
 ·subst e;rw [if_pos rfl,if_pos hk,List.getElem?_eq_getElem hk]
 ·rw [if_neg e]
theorem set_sch {m:List BT} (h:Sch m) {k:Nat} (hk:k<m.length) {r:Rt} (hr:r.Ok) (hf:fitT r=true):Sch (m.set k (frT m k,r)):=by
 refine h.of_rates set_len (set_fr hk) fun b hb=> ?_
 rcases List.mem_or_eq_of_mem_set hb with h1|rfl
 ·exact ⟨(h.ok b h1).2,(h.fit b h1).2⟩
 ·exact ⟨hr,hf⟩
theorem set_falls {m:List BT} {k:Nat} (hk:k<m.length) {x r:Rt} (hr:sgnR r<0):fallsT (m.set k (x,r))=true:=by
 unfold fallsT;rw [List.any_eq_true];exact ⟨(x,r),by rw [List.mem_iff_getElem];exact ⟨k,by rw [List.length_set];exact hk,by simp⟩,decide_eq_true hr⟩
def InvM (m:List BT):Prop:=∀k,k<m.length→rtQ m k=0∨∃p:Nat,0<p∧p≤50∧Gd p ((80:Nat):Rat) (1/rtQ m k)
theorem one_div {a d:Int} (ha:a≠0) (hd:0<d) (h:d≤80):Gd a.natAbs ((80:Nat):Rat) (1/((a:Rat)/d)):=by
 have hd' :=rat_pos hd;have ha' :(a:Rat)≠0:=by exact_mod_cast ha
 have e:1/((a:Rat)/d)=(d:Rat)/a:=by grind
 rw [e];have key:∀n:Nat,0<n→Gd n ((80:Nat):Rat) ((d:Rat)/(n:Int)):=fun n hn=>by
  have hp:(0:Int)<(n:Int):=by omega
  have hp' :=rat_pos hp;have hm:(d:Rat)/((n:Int):Rat)*((n:Int):Rat)=d:=Rat.div_mul_cancel (by grind);have h1:((n:Int):Rat)=(n:Rat):=Rat.intCast_natCast n;have hq:=div_pos' hd' hp';have h1n:(1:Rat)≤((n:Int):Rat):=by exact_mod_cast (show (1:Int)≤n by omega)
  have hdd:(d:Rat)≤((80:Int):Rat):=by exact_mod_cast h
  have e80:((80:Int):Rat)=((80:Nat):Rat):=rfl;rw [e80] at hdd
  generalize (d:Rat)/((n:Int):Rat)=t at hm hq
  have h2:=Rat.mul_le_mul_of_nonneg_left h1n (show 0≤t by grind);have h80:(0:Rat)≤((80:Nat):Rat):=by exact_mod_cast Nat.zero_le 80
  exact ⟨⟨d,by rw [←h1];exact hm⟩,by grind,by grind⟩
 rcases Int.lt_or_gt_of_ne ha with hlt|hgt
 ·have e2:(d:Rat)/a= -((d:Rat)/((a.natAbs:Nat):Int)):=by
   have:((a.natAbs:Nat):Int)= -a:=by omega
   rw [this,Rat.intCast_neg];grind
  rw [e2];exact (key a.natAbs (by omega)).neg
 ·have e2:((a.natAbs:Nat):Int)=a:=by omega
  have:=key a.natAbs (by omega)
  rwa [e2] at this
theorem made_inv (l:List T3):InvM (madeB l):=fun k hk=>by
 unfold madeB at hk ⊢;rw [madeK_len] at hk;unfold rtQ;rw [(madeK_at l hk).2]
 generalize mnum l k=q
 have h1:=mod_in q.1 (show (0:Int)<61 by decide);have h2:=mod_in q.2.2 (show (0:Int)<3 by decide);unfold mrate;rw [frac_q _ (by omega)]
 by_cases e:q.1%61-10=0
 ·left;rw [e];simp;grind
 ·exact .inr ⟨(q.1%61-10).natAbs,by omega,by omega,one_div e (by omega) (by omega)⟩
theorem up_inv {m:List BT} (h:InvM m):InvM (upB m):=fun k hk=>by
 rw [upB_len] at hk;unfold rtQ;rw [upB_rt];have:=h k hk;unfold rtQ at this;rcases abs_cases (rtT m k) with e|e<;>rw [e]
 ·exact this
 ·rcases this with h0|⟨p,h1,h2,h3⟩
  ·left;grind
  ·refine .inr ⟨p,h1,h2,?_⟩;have:=h3.neg
   rwa [show-(1/(rtT m k).q)=1/ -(rtT m k).q by grind] at this
theorem invV_falls {m:List BT} (h:Sch m) (hn:fallsT m=true) {y:Rt}:invV (m.map rawB) (rawR y)=(zrow,1):=by
 unfold invV;rw [if_pos (ck_of h),valsB_raw h,hn,if_pos (by rfl)]
def Curs (cur:Array Value) (l:List Bk):Prop:=∀(j:Nat) (u:Value),(cells6 l)[j]? =some u→cur[j]? =some u
theorem own_open {w:World} {B n:Nat} {v:Value} {xs:List Value} (h:w.ownsRow B 42 6 v n xs) (hn:0<n) :
  ∃g cap cur,v=.slice (some ⟨g,0,none⟩) n cap∧B≤g∧w.heap[g]? =some (.cells cur 42 (0,0))∧n≤cap∧n*6≤cur.size∧∀(j:Nat) (u:Value),xs[j]? =some u→cur[j]? =some u:=by
 rcases h.2 with ⟨-,h0⟩|⟨g,cap,cur,rfl,h1,h2,h3,h4,h5,h6⟩
 ·omega
 ·refine ⟨g,cap,cur,rfl,h1,h2,h3,by rw [h5];exact Nat.mul_le_mul_right 6 h3,fun j u hu=> ?_⟩;rw [←h6,List.getElem?_take] at hu
  split at hu
  ·rw [←Array.getElem?_toList];exact hu
  ·cases hu
theorem cells6_at {l:List Bk} {j:Nat} {u:Value} (h:(cells6 l)[j]? =some u):∃(hi:j/6<l.length),(l[j/6]).cells[j%6]? =some u:=by
 have hlen:(cells6 l).length=l.length*6:=by
  unfold cells6;rw [flat_len (n:=6) (fun r hr=>by obtain ⟨b,-,rfl⟩:=List.mem_map.1 hr;rfl),List.length_map]
 have hj:=(List.getElem?_eq_some_iff.1 h).1;have hi:j/6<l.length:=by omega
 refine ⟨hi,?_⟩;have hr:j%6<(l[j/6]).cells.length:=by show j%6<6;omega
 have h2:=flat_at (n:=6) (l:=l.map Bk.cells) (fun r hr=>by obtain ⟨b,-,rfl⟩:=List.mem_map.1 hr;rfl) (j/6) (by rw [List.length_map];exact hi) (j%6) (l[j/6]).cells[j%6] (by rw [List.getElem_map];exact List.getElem?_eq_getElem hr);rw [show j/6*6+j%6=j by omega] at h2;have h3:(cells6 l)[j]? =some (l[j/6]).cells[j%6]:=h2;rw [h3] at h;rw [List.getElem?_eq_getElem hr];exact h
theorem cells6_of {l:List Bk} {i:Nat} (hi:i<l.length) {j:Nat} {u:Value} (h:l[i].cells[j]? =some u):(cells6 l)[i*6+j]? =some u :=
 flat_at (n:=6) (l:=l.map Bk.cells) (fun r hr=>by obtain ⟨b,-,rfl⟩:=List.mem_map.1 hr;rfl) i (by rw [List.length_map];exact hi) j u (by rw [List.getElem_map];exact h)
theorem curs_lst {W:World} {g n cap:Nat} {cur:Array Value} {l:List Bk} (hh:W.heap[g]? =some (.cells cur 42 (0,0))) (hc:Curs cur l) (hl:l.length=n) (hn:n≤cap) (h8:n≤1000):LstK W (.slice (some ⟨g,0,none⟩) n cap) l:=by
 refine ⟨some ⟨g,0,none⟩,cap,by rw [List.length_map,hl],by rw [List.length_map,hl];exact hn,by rw [List.length_map,hl];exact h8,fun i hi=>⟨g,0,rfl,(Array.getElem?_eq_some_iff.1 hh).1,fun j u hu=> ?_⟩⟩;rw [List.length_map] at hi;rw [List.getElem_map] at hu;rw [Lib.cell_of_heap hh,Nat.zero_add];exact hc _ _ (cells6_of hi hu)
theorem curs_set {cur cur' :Array Value} {l:List Bk} {k:Nat} {b:Bk} (hk:k<l.length) (hc:Curs cur l) (h1:∀j,j/6≠k→cur'[j]? =cur[j]?) (h2:∀j u,b.cells[j]? =some u→cur'[k*6+j]? =some u):Curs cur' (l.set k b):=by
 intro j u hu;obtain ⟨hi,hx⟩:=cells6_at hu;rw [List.getElem_set] at hx
 by_cases e:k=j/6
 ·rw [if_pos e] at hx;have:=h2 _ _ hx
  rwa [show k*6+j%6=j by omega] at this
 ·rw [if_neg e] at hx;rw [h1 j (fun h=>e h.symm)];have:=cells6_of (l:=l) (i:=j/6) (by rw [List.length_set] at hi;exact hi) hx;rw [show j/6*6+j%6=j by omega] at this;exact hc j u this
theorem curs_old {cur:Array Value} {m:List BT} {k:Nat} (hk:k<m.length) (hc:Curs cur (m.map rawB)) {j:Nat} {u:Value} (h:(rawB (frT m k,rtT m k)).cells[j]? =some u):cur[k*6+j]? =some u:=by
 refine hc _ _ (cells6_of (i:=k) (by rw [List.length_map];exact hk) ?_);rw [List.getElem_map,show m[k]=(frT m k,rtT m k) from by rw [frT_at hk,rtT_at hk]];exact h
theorem set_at {cur:Array Value} {i j:Nat} {v:Value} (h:i≠j):(cur.setIfInBounds i v)[j]? =cur[j]? :=by rw [Array.getElem?_setIfInBounds,if_neg h]
theorem set_on {cur:Array Value} {i:Nat} {v:Value} (h:i<cur.size):(cur.setIfInBounds i v)[i]? =some v:=by rw [Array.getElem?_setIfInBounds,if_pos rfl,if_pos h]
theorem curs_rate {cur:Array Value} {m:List BT} {k:Nat} {r:Rt} (hk:k<m.length) (hc:Curs cur (m.map rawB)) (hs:m.length*6≤cur.size) :
  Curs (((cur.setIfInBounds (k*6+3) (.bool r.neg)).setIfInBounds (k*6+4) (.string (encS r.num))).setIfInBounds (k*6+5) (.string (encS r.den))) ((m.set k (frT m k,r)).map rawB):=by
 rw [List.map_set];refine curs_set (by rw [List.length_map];exact hk) hc (fun j hj=>by rw [set_at (by omega),set_at (by omega),set_at (by omega)]) (fun j u hu=> ?_);have hj:j<6:=(List.getElem?_eq_some_iff.1 hu).1;have hold:=fun (h:(rawB (frT m k,rtT m k)).cells[j]? =some u)=>curs_old hk hc h
 rcases (show j=0∨j=1∨j=2∨j=3∨j=4∨j=5 by omega) with rfl|rfl|rfl|rfl|rfl|rfl
 ·rw [set_at (by omega),set_at (by omega),set_at (by omega)];exact hold hu
 ·rw [set_at (by omega),set_at (by omega),set_at (by omega)];exact hold hu
 ·rw [set_at (by omega),set_at (by omega),set_at (by omega)];exact hold hu
 ·rw [set_at (by omega),set_at (by omega),set_on (by omega)];exact hu
 ·rw [set_at (by omega),set_on (by rw [Array.size_setIfInBounds];omega)];exact hu
 ·rw [set_on (by rw [Array.size_setIfInBounds,Array.size_setIfInBounds];omega)];exact hu
theorem set3 {W:World} {b:Nat} {cur:Array Value} {t:TypeId} {fr:Nat × Nat} (h:W.heap[b]? =some (.cells cur t fr)) (a c d:Nat) (x y z:Value) :
  (((W.setCell ⟨b,a,none⟩ x).setCell ⟨b,c,none⟩ y).setCell ⟨b,d,none⟩ z).heap[b]? =some (.cells (((cur.setIfInBounds a x).setIfInBounds c y).setIfInBounds d z) t fr):=by
 simp [World.setCell,Array.getElem?_modify,h]
theorem cur_one {cur:Array Value} {a:Nat} (h:a<cur.size):cur[a]? =some (cur.getD a undef):=by
 rw [Array.getElem?_eq_getElem h,Array.getD_eq_getD_getElem?,Array.getElem?_eq_getElem h];rfl
theorem cur3 {W:World} {b:Nat} {cur:Array Value} {t:TypeId} {fr:Nat × Nat} (h:W.heap[b]? =some (.cells cur t fr)) {a c d:Nat} (ha:a<cur.size) (hc:c<cur.size) (hd:d<cur.size) :
  W.cell? ⟨b,a,none⟩=some (cur.getD a undef)∧W.cell? ⟨b,c,none⟩=some (cur.getD c undef)∧W.cell? ⟨b,d,none⟩=some (cur.getD d undef):=by
 refine ⟨?_,?_,?_⟩<;>rw [Lib.cell_of_heap h]
 ·exact cur_one ha
 ·exact cur_one hc
 ·exact cur_one hd
theorem raw_szk {m:List BT} (h:∀b ∈ m,Rz b.1 1000∧Rz b.2 1000):SzK (m.map rawB) 1100000:=fun b hb=>by
 obtain ⟨c,hc,rfl⟩:=List.mem_map.1 hb;have h1:=rawR_sz ((h c hc).1.mono (show 1000≤1000 by decide));have h2:=rawR_sz ((h c hc).2.mono (show 1000≤1000 by decide));exact ⟨⟨Nat.le_trans h1.1 (by decide),Nat.le_trans h1.2 (by decide)⟩,Nat.le_trans h2.1 (by decide),Nat.le_trans h2.2 (by decide)⟩
theorem sch_szk {m:List BT} (h:Sch m):SzK (m.map rawB) 1100000:=raw_szk fun b hb=>⟨(fitT_sz (h.fit b hb).1).mono (by decide),(fitT_sz (h.fit b hb).2).mono (by decide)⟩
theorem raw_szr {x:Rt} (h:Rz x 1000):(rawR x).n.size≤1100000∧(rawR x).d.size≤1100000:=⟨Nat.le_trans (rawR_sz h).1 (by decide),Nat.le_trans (rawR_sz h).2 (by decide)⟩
theorem fit_rz {x:Rt} (h:fitT x=true):Rz x 1000:=(fitT_sz h).mono (by decide)
section
variable (nm:ByteArray) (um ud:Int) (v:Value) (m:List BT)
theorem At_s (x:Rt) (h:Sch m) (hx:x.Ok) (hf:fitT x=true) (hv:fitT (valT m x m.length)=true) (wq:World) (hl:LstK wq v (m.map rawB)) :
  Gv 21 #[.agg #[.string nm,.int .i64 um,.int .i64 ud,v],rtV x] wq (.tuple #[rtV (valT m x m.length),.int .i64 0]):=by
 unfold Gv;have h1:=At_any nm um ud v (m.map rawB) (rawR x) (sch_szk h) (raw_szr (fit_rz hf)) wq hl;rw [atV_sch h hx hf hv] at h1;exact h1
theorem Inv_s (x:Rt) (z:Rw) (c:Int) (h:Sch m) (hx:Rz x 1000) (hv:invV (m.map rawB) (rawR x)=(z,c)) (wq:World) (hl:LstK wq v (m.map rawB)) :
  Gv 29 #[.agg #[.string nm,.int .i64 um,.int .i64 ud,v],rtV x] wq (.tuple #[.agg #[.bool z.neg,.string z.n,.string z.d],.int .i64 c]):=by
 unfold Gv;have h1:=Inverse_any nm um ud v (m.map rawB) (rawR x) (sch_szk h) (raw_szr hx) wq hl;rw [hv] at h1;exact h1
theorem Check_s (h:Sch m) (wq:World) (hl:LstK wq v (m.map rawB)) :
  Gv 22 #[.agg #[.string nm,.int .i64 um,.int .i64 ud,v]] wq (.int .i64 0):=by
 unfold Gv;have h1:=Check_any nm um ud v (m.map rawB) (sch_szk h) wq hl;rw [ck_of h] at h1;exact h1
theorem Rise_s (h:Sch m) (b:Bool) (hb:fallsT m= !b) (wq:World) (hl:LstK wq v (m.map rawB)) :
  Gv 23 #[.agg #[.string nm,.int .i64 um,.int .i64 ud,v]] wq (.bool b):=by
 unfold Gv;have h1:=Rising_any nm um ud v (m.map rawB) (sch_szk h) wq hl;rw [riseV_of h,hb,Bool.not_not] at h1;exact h1
end
theorem cmp_in (a b:Rt):cmpR a b= -1∨cmpR a b=0∨cmpR a b=1:=by
 unfold cmpR sgnR;split
 ·exact .inr (.inl rfl)
 ·split
  ·exact .inl rfl
  ·exact .inr (.inr rfl)
end Go.Proofs.YtblgfmjlajhipaaGreatDoor
