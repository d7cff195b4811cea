/- Contracts that the proofs of this seat share. Each theorem names its conditions. -/

import Derived.Test.YtblgfmjlajhipaaGreatDoorZb7
import Derived.Test.YtblgfmjlajhipaaGreatDoorZc5
import Derived.Test.YtblgfmjlajhipaaGreatDoorZb5
set_option maxHeartbeats 16000000
set_option linter.unusedVariables false
namespace Go.Proofs.YtblgfmjlajhipaaGreatDoor
open Go.RowKit Go.Shelf Go.Maps
open Dgt
def dayN (n:List DR) (k:Nat):Int:=match n[k]? with|none=>0|some e=>e.1
theorem dayN_at {n:List DR} {k:Nat} (h:k<n.length):dayN n k=n[k].1:=by unfold dayN;rw [List.getElem?_eq_getElem h]
theorem chg_days:∀{n:List DR} {last:Rt} {d:Int},Chg n last d→Up (n.map (·.1))∧∀e ∈ n,d<e.1
 | [],_,_,_=>⟨.nil,by simp⟩
 | e::t,_,_,.cons h1 _ h3=>by
  obtain ⟨h4,h5⟩:=chg_days h3;refine ⟨.cons (fun y hy=> ?_) h4,fun x hx=> ?_⟩
  ·obtain ⟨x,hx,rfl⟩:=List.mem_map.1 hy;exact h5 x hx
  ·rcases List.mem_cons.1 hx with rfl|hx
   ·exact h1
   ·have:=h5 x hx;omega
theorem dayN_lt {n:List DR} (h:Up (n.map (·.1))) {a b:Nat} (hab:a<b) (hb:b<n.length):dayN n a<dayN n b:=by
 have:=up_lt h hab (by rw [List.length_map];exact hb);rw [List.getElem_map,List.getElem_map] at this;rw [dayN_at (by omega),dayN_at hb];exact this
theorem dayN_le {n:List DR} (h:Up (n.map (·.1))) {a b:Nat} (hab:a≤b) (hb:b<n.length):dayN n a≤dayN n b:=by
 rcases Nat.lt_or_eq_of_le hab with h1|rfl
 ·exact Int.le_of_lt (dayN_lt h h1 hb)
 ·exact Int.le_refl _
theorem onT_cnt {g:List DR} (hg:Gr g) (day:Int):onT g day=if 3652058<day then ofR 0 else if h:0<cntB (fun k=>decide (day<dayN (normG g) k)) (normG g).length then ((normG g)[cntB (fun k=>decide (day<dayN (normG g) k)) (normG g).length-1]'(by have:=@cntB_le (fun k=>decide (day<dayN (normG g) k)) (normG g).length;omega)).2 else ofR 0:=by
 have hc:=normG_chg g hg.pos;have hu:=(chg_days hc).1;have hle:=@cntB_le (fun k=>decide (day<dayN (normG g) k)) (normG g).length;unfold onT;rw [←on_eq g day hg.pos]
 split
 ·rfl
 ·rw [on_last hc hle]
  ·by_cases h:0<cntB (fun k=>decide (day<dayN (normG g) k)) (normG g).length
   ·rw [dif_pos ⟨h,hle⟩,dif_pos h]
   ·rw [dif_neg (fun h2=>h h2.1),dif_neg h];rfl
  ·intro k hk hlt;have h2:=cntB_at (T:=fun k=>decide (day<dayN (normG g) k)) (n:=(normG g).length) (by omega);simp only [decide_eq_false_iff_not] at h2;have:=dayN_le hu (show k≤cntB (fun k=>decide (day<dayN (normG g) k)) (normG g).length-1 by omega) (by omega);rw [dayN_at hk] at this;omega
  ·intro k hk hge;have h2:=cntB_above (T:=fun k=>decide (day<dayN (normG g) k)) hge hk;simp only [decide_eq_true_eq] at h2
   rwa [dayN_at hk] at h2
theorem cnt_mono {g:List DR} (hg:Gr g) (day:Int):∀a b,a≤b→b<(normG g).length→decide (day<dayN (normG g) a)=true→decide (day<dayN (normG g) b)=true:=fun a b hab hb h=>by
 rw [decide_eq_true_eq] at h ⊢;have:=dayN_le (chg_days (normG_chg g hg.pos)).1 hab hb;omega
end Go.Proofs.YtblgfmjlajhipaaGreatDoor
