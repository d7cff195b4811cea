/- RateOvers: contracts and the law's walk. Each theorem names its conditions. -/
import Derived.RangeFuncKeeps
import Derived.OwnWalkIn
import Derived.TacticsInMore
import Derived.LoopNIn
import Derived.LoopIn
import Derived.WalkKit
import Derived.Deep.LoopGhost
import Derived.Deep.QuietTactic
import Derived.BigQuiet
import Derived.Test.YtblgfmjlajhipaaGreatDoorProg
import Derived.WalkSpells
import Derived.WalkLawsBesides
import Derived.IntWalk
import Derived.Lib.Hide
import Derived.Laws.BitsAllLaws
import Derived.StillTailTactics
import Derived.Deep.OwnRows
import Derived.Lib.ConvBytes
import Derived.Below
import Derived.RangeFuncNested
import Derived.RangeFuncCalls
import Derived.RangeFuncLeaves
import Derived.Shelf.Abstract
import Derived.Lib.LaidIn
import Derived.RegionTactic
import Derived.KernelRfl
import Derived.OrdersIn
import Derived.Shelf.Strings.Trim
import Derived.Shelf.Small.Utf8
import Derived.Shelf.Small.Bits
import Derived.Shelf.Small.Strs
import Derived.Shelf.Strconv.Itoa0
import Derived.Shelf.Strings.Search1
import Derived.Shelf.Strings.Runes
import Derived.Shelf.Strings.AsciiSet
import Derived.Shelf.Unicode.DecodeSlow
import Derived.Shelf.Unicode.DecodeAny
import Derived.Ground.SlgmProg
import Derived.Shelf.SortM.Plain
import Derived.Shelf.SortM.SortNone
import Derived.Test.YtblgfmjlajhipaaGreatDoorZd0
import Derived.Test.YtblgfmjlajhipaaGreatDoorZc8
import Derived.Test.YtblgfmjlajhipaaGreatDoorZc7
import Derived.Test.YtblgfmjlajhipaaGreatDoorZc6
import Derived.Test.YtblgfmjlajhipaaGreatDoorKoa2
import Derived.Test.YtblgfmjlajhipaaGreatDoorZb9
import Derived.Test.YtblgfmjlajhipaaGreatDoorZb8
import Derived.Test.YtblgfmjlajhipaaGreatDoorZb6
import Derived.Test.YtblgfmjlajhipaaGreatDoorKoa0
import Derived.Test.YtblgfmjlajhipaaGreatDoorZb5
import Derived.Test.YtblgfmjlajhipaaGreatDoorZa7
import Derived.Test.YtblgfmjlajhipaaGreatDoorZa6
import Derived.Test.YtblgfmjlajhipaaGreatDoorZa5
import Derived.Test.YtblgfmjlajhipaaGreatDoorZa4
import Derived.Test.YtblgfmjlajhipaaGreatDoorZa3
import Derived.Test.YtblgfmjlajhipaaGreatDoorZa0
import Derived.Test.YtblgfmjlajhipaaGreatDoorZa1
import Derived.Test.YtblgfmjlajhipaaGreatDoorZa2
import Derived.Test.YtblgfmjlajhipaaGreatDoorZc9
import Derived.Test.YtblgfmjlajhipaaGreatDoorZd1
set_option maxHeartbeats 16000000
set_option linter.unusedVariables false
namespace Go.Proofs.YtblgfmjlajhipaaGreatDoor
open Go.RowKit Go.Shelf Go.Maps
open Dgt
set_option maxRecDepth 100000 in
theorem rOver_no (v:Value) (l:List Dk) (fr tp:Int) (hs:spanB fr tp=false) (wq:World) :
  Gv 39 #[v,.agg #[.int .i64 fr,.int .i64 tp]] wq (.tuple #[.agg #[.bool (overV l fr tp).1.neg,.string (overV l fr tp).1.n,.string (overV l fr tp).1.d],.bool (overV l fr tp).2]):=by
 unfold Gv;rw [show overV l fr tp=(zrow,false) by unfold overV;rw [if_neg (by rw [hs];decide)]];have c1:=fun w=>rSpanRight_any fr tp w
 rw [hs] at c1;have C1:Hid (∀w,Gv 81 #[.agg #[.int .i64 fr,.int .i64 tp]] w (.bool false)):=hD c1;clear c1 hs;have HB:=hD (Below.refl wq.heap.size wq);obtain ⟨n0,hn0⟩:∃n,n=wq.heap.size:=⟨_,rfl⟩;rw [←hn0];have HN0:=hD hn0;clear hn0;go_enter Tryz.func39,Tryz.ntmps39;obtain ⟨W1,bk3,hW1,hbk3,HX3_1,HB,HG3_1,hup⟩:=boxn HB HN0 (.cells #[.int .i64 fr,.int .i64 tp] 68);clear hup;obtain ⟨W2,bk4,hW2,hbk4,HX4_2,HB,HG4_2,hup⟩:=boxZ HB HN0;have HL4_2:=(hup _ _ HX3_1).2;have HX3_1:=(hup _ _ HX3_1).1;clear hup;have k3:W2.cell? ⟨bk3,0,none⟩=some (.int .i64 fr):=by rw [Lib.cell_of_heap HX3_1.out];rfl
 have k4:W2.cell? ⟨bk3,1,none⟩=some (.int .i64 tp):=by rw [Lib.cell_of_heap HX3_1.out];rfl
 go_wp2_with fail;clear hW1 hbk3 hW2 hbk4 k3 k4;refine (C1.out _).mono ?_;rintro e w3 ⟨rfl,hb⟩;have HX3_1:=uH hb HX3_1;have HX4_2:=uH hb HX4_2;have HB:=mH HB hb;clear hb;obtain ⟨W4,hW4,HX4_2,HB,ho,f5a,f5b,f5c,k5a,k5b,k5c⟩:=putZ HX4_2 HB HN0 HG4_2;have HX3_1:=ho _ _ (en1 HL4_2) HX3_1;clear ho;go_wp2_with fail;clear f5a f5b f5c k5a k5b k5c hW4;refine bodyPost_ret (rC2 HX4_2.out) rfl ?_;exact ⟨rfl,by rw [HN0.out];exact HB.out⟩
def ErOver_yes_9_1 (dx:Int) (fr:Int) (n:List DR) (cap:Nat) (k:Nat) (g9:Nat) (bk3:Nat):Nat→Value
 | 0=>.slice (some ⟨g9,0,none⟩) n.length cap
 | 1=>.int .i64 (k:Int)
 | 2=>.pointer (some ⟨g9,k*4,none⟩)
 | 3=>.pointer (some ⟨g9,k*4,none⟩)
 | 4=>.int .i64 dx
 | 5=>.pointer (some ⟨bk3,0,none⟩)
 | 6=>.int .i64 fr
 | 7=>.int .i64 (max dx fr)
 | 8=>.int .i64 (max dx fr)
 | _=>undef
def ErOver_yes_14_2 (x:Rt) (od:Rt) (pr:Rt) (su:Rt) (su2:Rt) (dd:Int) (dx:Int) (fr:Int) (tp:Int) (d2:Int) (n:List DR) (cap:Nat) (k:Nat) (g9:Nat):Nat→Value
 | 0=>.agg #[.bool su.neg,.string (encS su.num),.string (encS su.den)]
 | 1=>.slice (some ⟨g9,0,none⟩) n.length cap
 | 2=>.int .i64 (k:Int)
 | 3=>.pointer (some ⟨g9,k*4,none⟩)
 | 4=>.pointer (some ⟨g9,k*4+1,none⟩)
 | 5=>.agg #[.bool x.neg,.string (encS x.num),.string (encS x.den)]
 | 6=>.int .i64 (min tp d2)
 | 7=>.int .i64 (max dx fr)
 | 8=>.int .i64 dd
 | 9=>.agg #[.bool od.neg,.string (encS od.num),.string (encS od.den)]
 | 10=>.agg #[.bool pr.neg,.string (encS pr.num),.string (encS pr.den)]
 | 11=>.agg #[.bool su2.neg,.string (encS su2.num),.string (encS su2.den)]
 | _=>undef
def ErOver_yes_14_3 (x:Rt) (od:Rt) (pr:Rt) (su:Rt) (su2:Rt) (dd:Int) (dx:Int) (fr:Int) (tp:Int) (n:List DR) (cap:Nat) (k:Nat) (g9:Nat):Nat→Value
 | 0=>.agg #[.bool su.neg,.string (encS su.num),.string (encS su.den)]
 | 1=>.slice (some ⟨g9,0,none⟩) n.length cap
 | 2=>.int .i64 (k:Int)
 | 3=>.pointer (some ⟨g9,k*4,none⟩)
 | 4=>.pointer (some ⟨g9,k*4+1,none⟩)
 | 5=>.agg #[.bool x.neg,.string (encS x.num),.string (encS x.den)]
 | 6=>.int .i64 tp
 | 7=>.int .i64 (max dx fr)
 | 8=>.int .i64 dd
 | 9=>.agg #[.bool od.neg,.string (encS od.num),.string (encS od.den)]
 | 10=>.agg #[.bool pr.neg,.string (encS pr.num),.string (encS pr.den)]
 | 11=>.agg #[.bool su2.neg,.string (encS su2.num),.string (encS su2.den)]
 | _=>undef
set_option maxRecDepth 100000 in
theorem rOver_yes (v:Value) (l:List Dk) (fr tp:Int) (hz:SzD l 1100000) (hs:spanB fr tp=true) (wq:World) (hl:LstD wq v l) :
  Gv 39 #[v,.agg #[.int .i64 fr,.int .i64 tp]] wq (.tuple #[.agg #[.bool (overV l fr tp).1.neg,.string (overV l fr tp).1.n,.string (overV l fr tp).1.d],.bool (overV l fr tp).2]):=by
 unfold Gv;have hn9:=normG_le l;have hla:l.length≤1000:=by obtain ⟨_,_,_,-,h,-⟩:=hl.open;omega
 have HL:=hD hl;have HZ:=hD hz;have HOV:=hD (show overV l fr tp=if fitT (overT (normG (drs l)) fr tp)=true then (rawR (overT (normG (drs l)) fr tp),true) else (zrow,false) by unfold overV;rw [if_pos hs]);have hgr:=norm_gr (drs_gr l);have HGR:=hD hgr;have HSP:=hD (span_parts hs);have HPZ:=hD (fun k hk=>(sumP_sz hgr hs (by omega) k hk).2);have HPK:=hD (fun k=>(@ref_q _ fr tp hgr k).1);have HOR:=hD (@over_ref _ fr tp hgr);have HSZ:=hD (sumP_sz hgr hs (by omega) _ (Nat.le_refl _)).1;have c1:=fun w=>rSpanRight_any fr tp w
 have c2:=fun w=>rRatOf_any 0 w (by decide) (by decide)
 have HZ0:Hid (refK (normG (drs l)) fr tp 0=ofR 0):=hD rfl;obtain ⟨z0,hz0⟩:∃a,ofR 0=a:=⟨_,rfl⟩;rw [hz0] at c2 HZ0;rw [hs] at c1;have HLN:Hid ((normG (drs l)).length≤1000):=hD (by omega);have HSO:=hD (@over_q _ fr tp hgr).1;have HNO:=hD (rNorm_own v l hz);obtain ⟨V,hV⟩:∃o,overV l fr tp=o:=⟨_,rfl⟩;rw [hV] at HOV ⊢;obtain ⟨n,hn⟩:∃n,normG (drs l)=n:=⟨_,rfl⟩;rw [hn] at HOV HPZ HPK HOR HSZ HSO HNO HLN HZ0 HGR;clear hla hl hz hs hgr hz0 hV hn hn9;have C1:Hid (∀w,Gv 81 #[.agg #[.int .i64 fr,.int .i64 tp]] w (.bool true)):=hD c1;have C2:Hid (∀w,Gv 14 #[.int .i64 0] w (.agg #[.bool z0.neg,.string (encS z0.num),.string (encS z0.den)])):=hD c2;clear c1 c2;have HB:=hD (Below.refl wq.heap.size wq);obtain ⟨n0,hn0⟩:∃n,n=wq.heap.size:=⟨_,rfl⟩;rw [←hn0];have HN0:=hD hn0;clear hn0;go_enter Tryz.func39,Tryz.ntmps39
 obtain ⟨W1,bk3,hW1,hbk3,HX3_1,HB,HG3_1,hup⟩:=boxn HB HN0 (.cells #[.int .i64 fr,.int .i64 tp] 68);clear hup;obtain ⟨W2,bk4,hW2,hbk4,HX4_2,HB,HG4_2,hup⟩:=boxZ HB HN0;have HL4_2:=(hup _ _ HX3_1).2;have HX3_1:=(hup _ _ HX3_1).1;clear hup;have k3:W2.cell? ⟨bk3,0,none⟩=some (.int .i64 fr):=by rw [Lib.cell_of_heap HX3_1.out];rfl
 have k4:W2.cell? ⟨bk3,1,none⟩=some (.int .i64 tp):=by rw [Lib.cell_of_heap HX3_1.out];rfl
 go_wp2_with fail;clear hW1 hbk3 hW2 hbk4 k3 k4;refine (C1.out _).mono ?_;rintro e w3 ⟨rfl,hb⟩;have HX3_1:=uH hb HX3_1;have HX4_2:=uH hb HX4_2;have HB:=mH HB hb;clear hb;go_wp2_with fail;refine (HNO.out _ (HL.out.up HB.out)).mono ?_;rintro e w4 ⟨v',rfl,hln,hb⟩;have HGN:Hid (n0≤w3.heap.size∧bk4<w3.heap.size):=hD ⟨by rw [HN0.out];exact HB.out.size,(Array.getElem?_eq_some_iff.1 HX4_2.out).1⟩;have HX3_1:=uH hb HX3_1;have HX4_2:=uH hb HX4_2;have HB:=mH HB hb;clear hb;rcases hln.2 with ⟨rfl,h0⟩|⟨g9,cap,cur,rfl,hg9,hgh,hc1,hc2,hc3,hc4⟩
 ·have HL0:Hid (n.length=0):=hD h0;clear hln h0;go_wp2_with fail;refine (C2.out _).mono ?_;rintro e w5 ⟨rfl,hb⟩;have HX3_1:=uH hb HX3_1;have HX4_2:=uH hb HX4_2;have HB:=mH HB hb;clear hb;obtain ⟨W6,bk8,hW6,hbk8,HX8_5,HB,HG8_5,hup⟩:=boxZ HB HN0;have HL8_5:=(hup _ _ HX4_2).2;have HX3_1:=(hup _ _ HX3_1).1;have HX4_2:=(hup _ _ HX4_2).1;clear hup;obtain ⟨W7,hW7,HX8_5,HB,ho,f6a,f6b,f6c,k6a,k6b,k6c⟩:=putR HX8_5 HB HN0 HG8_5 z0;have HX3_1:=ho _ _ (en2 HL4_2 HL8_5) HX3_1;have HX4_2:=ho _ _ (en1 HL8_5) HX4_2;clear ho;go_wp2_with fail;clear hW6 hbk8 f6a f6b f6c k6a k6b k6c hW7
  go_loopw [9] (fun u9 wr=>∃(k:Nat),k≤0∧u9=.int .i64 (k:Int)∧Hid (wr.heap[bk3]? =some (.cells #[.int .i64 fr,.int .i64 tp] 68 (0,0)))∧Hid (wr.heap[bk4]? =some (.cells #[.bool false,.string ⟨#[]⟩,.string ⟨#[]⟩] 29 (0,0)))∧Hid (wr.heap[bk8]? =some (.cells #[.bool z0.neg,.string (encS z0.num),.string (encS z0.den)] 29 (0,0)))∧Hid (Below wq.heap.size wq wr)) (fun u9 _=>0-(intOf u9).toNat)
  case atStart=>exact ⟨0,by omega,by first|rfl|go_num,HX3_1,HX4_2,HX8_5,HB⟩
  case round =>
   obtain ⟨k,hk,rfl,HX3_1,HX4_2,HX8_5,HB⟩:=hrel
   by_cases hlt:k<0
   ·have hlt' :(k:Int)<(0:Int):=by omega
    exact absurd hlt (by omega)
   ·have hge:¬(k:Int)<(0:Int):=by omega
    have HSU:Hid (overT n fr tp=z0):=hD (by rw [←HOR.out,HL0.out];exact HZ0.out);have HSUZ:Hid (Rz z0 60000):=hD (by rw [←HSU.out];exact HSZ.out);have HSUO:Hid z0.Ok:=hD (by rw [←HSU.out];exact HSO.out);obtain ⟨su,rfl⟩:∃s,s=z0:=⟨_,rfl⟩;have c1:=fun w=>rFits_any (rawR su) (rawR_sz ((HSUZ.out).mono (show _≤9000000 by decide))).1 (rawR_sz ((HSUZ.out).mono (show _≤9000000 by decide))).2 w
    rw [fitsR_raw HSUO.out] at c1;have HOV2:=hD (show V=if fitT su=true then (rawR su,true) else (zrow,false) by rw [HOV.out,HSU.out]);obtain ⟨F,hF⟩:∃b,fitT su=b:=⟨_,rfl⟩;rw [hF] at c1 HOV2;have C3:Hid (∀w,Gv 82 #[rtV su] w (.bool F)):=hD c1;clear c1 hF;obtain ⟨k7a,k7b,k7c⟩:=c3 HX8_5;go_wp2_with fail;clear hge k7a k7b k7c;refine (C3.out _).mono ?_;rintro e w8 ⟨rfl,hb⟩;have HX3_1:=uH hb HX3_1;have HX4_2:=uH hb HX4_2;have HX8_5:=uH hb HX8_5;have HB:=mH HB hb;clear hb;cases F
    case false =>
     have hV:V=(zrow,false):=HOV2.out;subst hV;obtain ⟨W9,hW9,HX4_2,HB,ho,f8a,f8b,f8c,k8a,k8b,k8c⟩:=putZ HX4_2 HB HN0 HG4_2;have HX3_1:=ho _ _ (en1 HL4_2) HX3_1;have HX8_5:=ho _ _ (ne1 HL8_5) HX8_5;clear ho;go_wp2_with fail;clear f8a f8b f8c k8a k8b k8c hW9;refine bodyPost_ret (rC2 HX4_2.out) rfl ?_;exact ⟨rfl,by rw [HN0.out];exact HB.out⟩
    case true =>
     have hV:V=(rawR su,true):=HOV2.out;subst hV;obtain ⟨k9a,k9b,k9c⟩:=c3 HX8_5;obtain ⟨W10,hW10,HX4_2,HB,ho,f10a,f10b,f10c,k10a,k10b,k10c⟩:=putR HX4_2 HB HN0 HG4_2 su;have HX3_1:=ho _ _ (en1 HL4_2) HX3_1;have HX8_5:=ho _ _ (ne1 HL8_5) HX8_5;clear ho;go_wp2_with fail;clear k9a k9b k9c f10a f10b f10c k10a k10b k10c hW10;refine bodyPost_ret (rC2 HX4_2.out) rfl ?_;exact ⟨rfl,by rw [HN0.out];exact HB.out⟩
 ·have HG9:Hid (n0≤g9):=hD (by have:=HGN.out;omega);have HL9:Hid (bk4<g9):=hD (by have:=HGN.out;omega);have HX9:=hD hgh;have HOC:Hid (∀j (h:j<n.length),∀W:World,W.heap[g9]? =some (.cells cur 64 (0,0))→W.cell? ⟨g9,j*4,none⟩=some (.int .i64 n[j].1)∧W.cell? ⟨g9,j*4+1,none⟩=some (.bool n[j].2.neg)∧W.cell? ⟨g9,j*4+2,none⟩=some (.string (encS n[j].2.num))∧W.cell? ⟨g9,j*4+3,none⟩=some (.string (encS n[j].2.den))):=hD (fun j hj W h=>by
   have h5:=own_lstD (W:=W) (v:=.slice (some ⟨g9,0,none⟩) n.length cap) (l:=n.map rawD) (base:=0) (by rw [List.length_map];exact ⟨hln.1,.inr ⟨g9,cap,cur,rfl,Nat.zero_le _,h,hc1,hc2,hc3,hc4⟩⟩) (by rw [List.length_map];exact HLN.out);obtain ⟨pn,cn,e1,-,-,hat⟩:=h5.open;rw [Value.slice.injEq] at e1;obtain ⟨g,off,e3,h4⟩:=hat j (by rw [List.length_map];exact hj);rw [←e1.1] at e3;simp only [Option.some.injEq,Addr.mk.injEq,and_true] at e3;rw [List.getElem_map, ←e3.1, ←e3.2,Nat.zero_add] at h4;exact h4 W rB)
  clear hg9 hgh hc1 hc2 hc3 hc4 hln;go_wp2_with fail;refine (C2.out _).mono ?_;rintro e w11 ⟨rfl,hb⟩;have HX3_1:=uH hb HX3_1;have HX4_2:=uH hb HX4_2;have HX9:=uH hb HX9;have HB:=mH HB hb;clear hb;obtain ⟨W12,bk8,hW12,hbk8,HX8_11,HB,HG8_11,hup⟩:=boxZ HB HN0;have HL8_11:=(hup _ _ HX9).2;have HX3_1:=(hup _ _ HX3_1).1;have HX4_2:=(hup _ _ HX4_2).1;have HX9:=(hup _ _ HX9).1;clear hup;obtain ⟨W13,hW13,HX8_11,HB,ho,f12a,f12b,f12c,k12a,k12b,k12c⟩:=putR HX8_11 HB HN0 HG8_11 z0;have HX3_1:=ho _ _ (en3 HL4_2 HL9 HL8_11) HX3_1;have HX4_2:=ho _ _ (en2 HL9 HL8_11) HX4_2;have HX9:=ho _ _ (en1 HL8_11) HX9;clear ho;go_wp2_with fail;clear hW12 hbk8 f12a f12b f12c k12a k12b k12c hW13
  go_loopw [9] (fun u9 wr=>∃(k:Nat) (su:Rt),k≤n.length∧u9=.int .i64 (k:Int)∧Hid (refK n fr tp k=su)∧Hid (wr.heap[bk3]? =some (.cells #[.int .i64 fr,.int .i64 tp] 68 (0,0)))∧Hid (wr.heap[bk4]? =some (.cells #[.bool false,.string ⟨#[]⟩,.string ⟨#[]⟩] 29 (0,0)))∧Hid (wr.heap[g9]? =some (.cells cur 64 (0,0)))∧Hid (wr.heap[bk8]? =some (.cells #[.bool su.neg,.string (encS su.num),.string (encS su.den)] 29 (0,0)))∧Hid (Below wq.heap.size wq wr)) (fun u9 _=>n.length-(intOf u9).toNat)
  case atStart=>exact ⟨0,z0,by omega,by first|rfl|go_num,HZ0,HX3_1,HX4_2,HX9,HX8_11,HB⟩
  case round =>
   obtain ⟨k,su,hk,rfl,HS,HX3_1,HX4_2,HX9,HX8_11,HB⟩:=hrel
   by_cases hlt:k<n.length
   ·have hlt' :(k:Int)<(n.length:Int):=by omega
    have hat:=HOC.out k hlt;have hgk:n[k]? =some n[k]:=List.getElem?_eq_getElem hlt;obtain ⟨⟨dx,x⟩,he⟩:∃e,n[k]'hlt=e:=⟨_,rfl⟩;rw [he] at hgk;simp only [he] at hat;have hdx:=HGR.out.day (dx,x) (by rw [←he];exact List.getElem_mem hlt);have hxo:=HGR.out.ok (dx,x) (by rw [←he];exact List.getElem_mem hlt);have hxf:=HGR.out.fit (dx,x) (by rw [←he];exact List.getElem_mem hlt)
    change 0≤dx∧dx≤3652058 at hdx;change x.Ok at hxo;change fitT x=true at hxf
    obtain ⟨j,hj⟩:∃j,k+1=j:=⟨_,rfl⟩;have HJ1:Hid (IntKind.i64.wrap ((k:Int)+1)=(j:Int)):=hD (by rw [IntWalk.i64_in _ (by have:=HLN.out;omega)];omega);have HWI:Hid (IntKind.i64.wrap ((k:Int)+1)=((k+1:Nat):Int)):=hD (by rw [HJ1.out, ←hj]);obtain ⟨dd,hdd⟩:∃d,dayAt n fr tp k=d:=⟨_,rfl⟩;have HPS:Hid (refK n fr tp (k+1)=if 0<dd then addR su (mulR x (ofR dd)) else su):=hD (by rw [refK_s,hdd,HS.out];unfold rtAt;rw [hgk]);have HDD:Hid (dd=(match n[j]? with|none=>tp|some e2=>min tp e2.1)-max dx fr):=hD (by rw [←hdd, ←hj];unfold dayAt;rw [hgk];rfl);have hd8: -9223372036854775808≤dd∧dd≤9223372036854775807:=by
     have h:=HDD.out;have hp:=HSP.out;cases hk2:n[j]? with
     | none=>rw [hk2] at h;simp only at h;omega
     | some e2=>rw [hk2] at h;have:=HGR.out.day e2 (List.mem_of_getElem? hk2);simp only at h;omega
    have zs:Rz su 60000:=by rw [←HS.out];exact HPZ.out k (by omega)
    have ks:su.Ok:=by rw [←HS.out];exact HPK.out k
    have zo:Rz (ofR dd) 8:=ofR_sz hd8.1 hd8.2;have zx:=fitT_sz hxf;have m1:=fun w=>rRatOf_any dd w (by omega) (by omega)
    have m2:=fun w=>rRatMul_r (IsR.of hxo (zx.mono (show _≤1000 by decide))) (IsR.of (ofR_ok dd) (zo.mono (show 8≤1000 by decide))) (by decide) (by decide) w
    have m3:=fun w=>rRatAdd_r (IsR.of ks zs) (IsR.of (mulR_ok hxo (ofR_ok dd)) ((mulR_sz zx zo).mono (show _≤60000 by decide))) (by decide) (by decide) w
    obtain ⟨od,h1⟩:∃a,ofR dd=a:=⟨_,rfl⟩;rw [h1] at m1 m2 m3 HPS;obtain ⟨pr,h2⟩:∃a,mulR x od=a:=⟨_,rfl⟩;rw [h2] at m2 m3 HPS;obtain ⟨su2,h4⟩:∃a,addR su pr=a:=⟨_,rfl⟩;rw [h4] at m3 HPS;have HE:=hD hat;have HDX:=hD hdx;have HKJ:=hD hj;have HLT:=hD (And.intro hlt hj);have C3:Hid (∀w,Gv 14 #[.int .i64 dd] w (.agg #[.bool od.neg,.string (encS od.num),.string (encS od.den)])):=hD m1;have C4:Hid (∀w,Gv 28 #[rtV x,rtV od] w (.agg #[.bool pr.neg,.string (encS pr.num),.string (encS pr.den)])):=hD m2;have C5:Hid (∀w,Gv 19 #[rtV su,rtV pr] w (.agg #[.bool su2.neg,.string (encS su2.num),.string (encS su2.den)])):=hD m3;clear m1 m2 m3 zs ks zo zx h1 h2 h4 hat hgk he hdx hxo hxf hdd hd8 hlt hk hj;go_wp2_with fail;clear hlt'
    refine wpVl (w:=wr) (by kernel_rfl) (fun ix v _=>v=ErOver_yes_9_1 dx fr n cap k g9 bk3 ix) (fun t=>(decide (10≤t)&&decide (t<11))||(decide (27≤t)&&decide (t<35))) (by kernel_rfl) (by kernel_rfl) (by kernel_rfl) (fun _ _ _ _ _ h=>h) ?_ ?_
    ·intro i hi ov_ listed av_ w hR K hK;have ho:=hR.at_;have hi:i<9:=hi;have hii:i=0∨i=1∨i=2∨i=3∨i=4∨i=5∨i=6∨i=7∨i=8:=by omega
     rcases hii with rfl|rfl|rfl|rfl|rfl|rfl|rfl|rfl|rfl<;>(simp at ho;subst ho)
     ·have b7:av_.tmps.getD 7 undef=.slice (some ⟨g9,0,none⟩) n.length cap:=hR.b 7;refine pSq ?_;go_simp;exact hK _ _ rfl rB
     ·have b9:av_.tmps.getD 9 undef=.int .i64 (k:Int):=hR.b 9;refine pSq ?_;go_simp;exact hK _ _ rfl rB
     ·have e0:av_.tmps.getD 27 undef=.slice (some ⟨g9,0,none⟩) n.length cap:=hR.d 0;have e1:av_.tmps.getD 28 undef=.int .i64 (k:Int):=hR.d 1;have hk3:(k:Int)<(n.length:Int):=by have:=HLT.out;omega
      refine pSq ?_;go_simp;exact hK _ _ rfl rB
     ·have e2:av_.tmps.getD 29 undef=.pointer (some ⟨g9,k*4,none⟩):=hR.d 2;refine pSq ?_;go_simp;exact hK _ _ rfl rB
     ·have e3:av_.tmps.getD 30 undef=.pointer (some ⟨g9,k*4,none⟩):=hR.d 3;obtain ⟨cx0,cx1,cx2,cx3⟩:=HE.out _ (hpU hR.below HX9.out);refine pSq ?_;go_simp;exact hK _ _ rfl rB
     ·have b3:av_.tmps.getD 3 undef=.pointer (some ⟨bk3,0,none⟩):=hR.b 3;refine pSq ?_;go_simp;exact hK _ _ rfl rB
     ·have e5:av_.tmps.getD 32 undef=.pointer (some ⟨bk3,0,none⟩):=hR.d 5;have cx0:w.cell? ⟨bk3,0,none⟩=some (.int .i64 fr):=by rw [Lib.cell_of_heap (hpU hR.below HX3_1.out)];rfl
      refine pSq ?_;go_simp;exact hK _ _ rfl rB
     ·have e4:av_.tmps.getD 31 undef=.int .i64 dx:=hR.d 4;have e6:av_.tmps.getD 33 undef=.int .i64 fr:=hR.d 6;refine pSq ?_;go_simp;exact hK _ _ rfl rB
     ·have e7:av_.tmps.getD 34 undef=.int .i64 (max dx fr):=hR.d 7;refine pSq ?_;go_simp;exact hK _ _ rfl rB
    ·intro sv_ w hS hb;have e8:sv_ 10=.int .i64 (max dx fr):=hS 8 (by decide);simp only [over,ovL,Nat.reduceAdd,Nat.reduceLeDiff,Nat.reduceLT];have HB:=mH HB hb;have HX3_1:=uH hb HX3_1;have HX4_2:=uH hb HX4_2;have HX9:=uH hb HX9;have HX8_11:=uH hb HX8_11;obtain ⟨w14,hw⟩:∃w8,w8=w:=⟨_,rfl⟩;subst hw;rw [e8];clear hS hb e8;have k13:w14.cell? ⟨bk3,1,none⟩=some (.int .i64 tp):=by rw [Lib.cell_of_heap HX3_1.out];rfl
     have hj1:=HJ1.out
     by_cases hjn:j<n.length
     ·have hjn' :(j:Int)<(n.length:Int):=by omega
      have hat2:=HOC.out j hjn;obtain ⟨⟨d2,x2⟩,he2⟩:∃e,n[j]'hjn=e:=⟨_,rfl⟩;simp only [he2] at hat2;have HE2:=hD hat2;have hd2:=HGR.out.day (d2,x2) (by rw [←he2];exact List.getElem_mem hjn)
      change 0≤d2∧d2≤3652058 at hd2
      have HD3:Hid (dd=min tp d2-max dx fr):=hD (by
       have h:=HDD.out;rw [List.getElem?_eq_getElem hjn,he2] at h;exact h)
      have HWD:Hid (IntKind.i64.wrap (min tp d2-max dx fr)=dd):=hD (by
       have:=HSP.out;have:=HDX.out;rw [IntWalk.i64_in _ (by omega)];exact HD3.out.symm)
      clear hat2 he2 hd2 hjn;obtain ⟨k14e0,k14e1,k14e2,k14e3⟩:=HE2.out _ HX9.out;obtain ⟨td,htd⟩:∃xq,decide (max dx fr<min tp d2)=xq:=⟨_,rfl⟩;have Htd:=hD htd;clear htd;cases td
      case false =>
       have q15:=Htd.out;have HS2:=hD (show refK n fr tp (k+1)=su by rw [HPS.out,if_neg (by have h:=HD3.out;have:=Htd.out;simp only [decide_eq_false_iff_not] at this;omega)]);go_wp2_with fail;clear k13 hj1 hjn' k14e0 k14e1 k14e2 k14e3 q15
       go_roundw
       case rel=>exact ⟨k+1,su,by have:=HLT.out;omega,by rw [HKJ.out],HS2,HX3_1,HX4_2,HX9,HX8_11,HB⟩
       case measure=>have:=HLT.out;simp [intOf];omega
      case true =>
       have q16:=Htd.out;go_wp2_with fail;clear k13 hj1 hjn' k14e0 k14e1 k14e2 k14e3 q16;refine wpTl (w:=w14) (by kernel_rfl) (fun ix v _=>v=ErOver_yes_14_2 x od pr su su2 dd dx fr tp d2 n cap k g9 ix) 12 (fun t=>(decide (53≤t)&&decide (t<65))) (by decide) (by kernel_rfl) (by kernel_rfl) (by kernel_rfl) (by kernel_rfl) (by kernel_rfl) (fun _ _ _ _ _ h=>h) ?_ ?_
       ·intro i hi ov_ listed av_ w hR K hK;have ho:=hR.at_;have hi:i<12:=hi;have hii:i=0∨i=1∨i=2∨i=3∨i=4∨i=5∨i=6∨i=7∨i=8∨i=9∨i=10∨i=11:=by omega
        rcases hii with rfl|rfl|rfl|rfl|rfl|rfl|rfl|rfl|rfl|rfl|rfl|rfl<;>(simp at ho;subst ho)
        ·have b8:av_.tmps.getD 8 undef=.pointer (some ⟨bk8,0,none⟩):=hR.b 8;obtain ⟨cx0,cx1,cx2⟩:=c3 (uH hR.below HX8_11);refine pSq ?_;go_simp;exact hK _ _ rfl rB
        ·have b7:av_.tmps.getD 7 undef=.slice (some ⟨g9,0,none⟩) n.length cap:=hR.b 7;refine pSq ?_;go_simp;exact hK _ _ rfl rB
        ·have b9:av_.tmps.getD 9 undef=.int .i64 (k:Int):=hR.b 9;refine pSq ?_;go_simp;exact hK _ _ rfl rB
        ·have e1:av_.tmps.getD 54 undef=.slice (some ⟨g9,0,none⟩) n.length cap:=hR.t 1;have e2:av_.tmps.getD 55 undef=.int .i64 (k:Int):=hR.t 2;have hk3:(k:Int)<(n.length:Int):=by have:=HLT.out;omega
         refine pSq ?_;go_simp;exact hK _ _ rfl rB
        ·have e3:av_.tmps.getD 56 undef=.pointer (some ⟨g9,k*4,none⟩):=hR.t 3;refine pSq ?_;go_simp;exact hK _ _ rfl rB
        ·have e4:av_.tmps.getD 57 undef=.pointer (some ⟨g9,k*4+1,none⟩):=hR.t 4;obtain ⟨cx0,cx1,cx2,cx3⟩:=HE.out _ (hpU hR.below HX9.out);refine pSq ?_;go_simp;exact hK _ _ rfl rB
        ·have b11:av_.tmps.getD 11 undef=.int .i64 (min tp d2):=hR.b 11;refine pSq ?_;go_simp;exact hK _ _ rfl rB
        ·have b10:av_.tmps.getD 10 undef=.int .i64 (max dx fr):=hR.b 10;refine pSq ?_;go_simp;exact hK _ _ rfl rB
        ·have e6:av_.tmps.getD 59 undef=.int .i64 (min tp d2):=hR.t 6;have e7:av_.tmps.getD 60 undef=.int .i64 (max dx fr):=hR.t 7;have hdd:=HWD.out;refine pSq ?_;go_simp;exact hK _ _ rfl rB
        ·have e8:av_.tmps.getD 61 undef=.int .i64 dd:=hR.t 8;refine pSq ?_;go_simp;refine (C3.out w).mono ?_;rintro e w' ⟨rfl,hb⟩;exact hK _ _ (rfl) hb
        ·have e5:av_.tmps.getD 58 undef=.agg #[.bool x.neg,.string (encS x.num),.string (encS x.den)]:=hR.t 5;have e9:av_.tmps.getD 62 undef=.agg #[.bool od.neg,.string (encS od.num),.string (encS od.den)]:=hR.t 9;refine pSq ?_;go_simp;refine (C4.out w).mono ?_;rintro e w' ⟨rfl,hb⟩;exact hK _ _ (rfl) hb
        ·have e0:av_.tmps.getD 53 undef=.agg #[.bool su.neg,.string (encS su.num),.string (encS su.den)]:=hR.t 0;have e10:av_.tmps.getD 63 undef=.agg #[.bool pr.neg,.string (encS pr.num),.string (encS pr.den)]:=hR.t 10;refine pSq ?_;go_simp;refine (C5.out w).mono ?_;rintro e w' ⟨rfl,hb⟩;exact hK _ _ (rfl) hb
       ·intro sv_ w hS hb;have e11:sv_ 64=.agg #[.bool su2.neg,.string (encS su2.num),.string (encS su2.den)]:=hS 11 (by decide);simp only [over,ovL,Nat.reduceAdd,Nat.reduceLeDiff,Nat.reduceLT];have HX3_1:=uH hb HX3_1;have HX4_2:=uH hb HX4_2;have HX9:=uH hb HX9;have HX8_11:=uH hb HX8_11;have HB:=mH HB hb;obtain ⟨w15,hw⟩:∃w8,w8=w:=⟨_,rfl⟩;subst hw;rw [e11];clear hS hb e11;obtain ⟨W16,hW16,HX8_11,HB,ho,f17a,f17b,f17c,k17a,k17b,k17c⟩:=putR HX8_11 HB HN0 HG8_11 su2;have HX3_1:=ho _ _ (en3 HL4_2 HL9 HL8_11) HX3_1;have HX4_2:=ho _ _ (en2 HL9 HL8_11) HX4_2;have HX9:=ho _ _ (en1 HL8_11) HX9;clear ho;refine tail_step (n:=0) rfl rfl ?_;go_simp
        try rw [hW16]
        clear f17a f17b f17c k17a k17b k17c hW16;simp only [wpTail];have HS2:=hD (show refK n fr tp (k+1)=su2 by rw [HPS.out,if_pos (by have h:=HD3.out;have:=Htd.out;simp only [decide_eq_true_eq] at this;omega)]);have hj1:=HJ1.out;go_wp2_with fail;clear hj1
        go_roundw
        case rel=>exact ⟨k+1,su2,by have:=HLT.out;omega,by rw [HKJ.out],HS2,HX3_1,HX4_2,HX9,HX8_11,HB⟩
        case measure=>have:=HLT.out;simp [intOf];omega
     ·have hjn' :¬(j:Int)<(n.length:Int):=by omega
      have HD3:Hid (dd=tp-max dx fr):=hD (by
       have h:=HDD.out;rw [List.getElem?_eq_none (by omega)] at h;exact h)
      have HWD:Hid (IntKind.i64.wrap (tp-max dx fr)=dd):=hD (by
       have:=HSP.out;have:=HDX.out;rw [IntWalk.i64_in _ (by omega)];exact HD3.out.symm)
      clear hjn;obtain ⟨td,htd⟩:∃xq,decide (max dx fr<tp)=xq:=⟨_,rfl⟩;have Htd:=hD htd;clear htd;cases td
      case false =>
       have q18:=Htd.out;have HS2:=hD (show refK n fr tp (k+1)=su by rw [HPS.out,if_neg (by have h:=HD3.out;have:=Htd.out;simp only [decide_eq_false_iff_not] at this;omega)]);go_wp2_with fail;clear k13 hj1 hjn' q18
       go_roundw
       case rel=>exact ⟨k+1,su,by have:=HLT.out;omega,by rw [HKJ.out],HS2,HX3_1,HX4_2,HX9,HX8_11,HB⟩
       case measure=>have:=HLT.out;simp [intOf];omega
      case true =>
       have q19:=Htd.out;go_wp2_with fail;clear k13 hj1 hjn' q19;refine wpTl (w:=w14) (by kernel_rfl) (fun ix v _=>v=ErOver_yes_14_3 x od pr su su2 dd dx fr tp n cap k g9 ix) 12 (fun t=>(decide (53≤t)&&decide (t<65))) (by decide) (by kernel_rfl) (by kernel_rfl) (by kernel_rfl) (by kernel_rfl) (by kernel_rfl) (fun _ _ _ _ _ h=>h) ?_ ?_
       ·intro i hi ov_ listed av_ w hR K hK;have ho:=hR.at_;have hi:i<12:=hi;have hii:i=0∨i=1∨i=2∨i=3∨i=4∨i=5∨i=6∨i=7∨i=8∨i=9∨i=10∨i=11:=by omega
        rcases hii with rfl|rfl|rfl|rfl|rfl|rfl|rfl|rfl|rfl|rfl|rfl|rfl<;>(simp at ho;subst ho)
        ·have b8:av_.tmps.getD 8 undef=.pointer (some ⟨bk8,0,none⟩):=hR.b 8;obtain ⟨cx0,cx1,cx2⟩:=c3 (uH hR.below HX8_11);refine pSq ?_;go_simp;exact hK _ _ rfl rB
        ·have b7:av_.tmps.getD 7 undef=.slice (some ⟨g9,0,none⟩) n.length cap:=hR.b 7;refine pSq ?_;go_simp;exact hK _ _ rfl rB
        ·have b9:av_.tmps.getD 9 undef=.int .i64 (k:Int):=hR.b 9;refine pSq ?_;go_simp;exact hK _ _ rfl rB
        ·have e1:av_.tmps.getD 54 undef=.slice (some ⟨g9,0,none⟩) n.length cap:=hR.t 1;have e2:av_.tmps.getD 55 undef=.int .i64 (k:Int):=hR.t 2;have hk3:(k:Int)<(n.length:Int):=by have:=HLT.out;omega
         refine pSq ?_;go_simp;exact hK _ _ rfl rB
        ·have e3:av_.tmps.getD 56 undef=.pointer (some ⟨g9,k*4,none⟩):=hR.t 3;refine pSq ?_;go_simp;exact hK _ _ rfl rB
        ·have e4:av_.tmps.getD 57 undef=.pointer (some ⟨g9,k*4+1,none⟩):=hR.t 4;obtain ⟨cx0,cx1,cx2,cx3⟩:=HE.out _ (hpU hR.below HX9.out);refine pSq ?_;go_simp;exact hK _ _ rfl rB
        ·have b11:av_.tmps.getD 11 undef=.int .i64 tp:=hR.b 11;refine pSq ?_;go_simp;exact hK _ _ rfl rB
        ·have b10:av_.tmps.getD 10 undef=.int .i64 (max dx fr):=hR.b 10;refine pSq ?_;go_simp;exact hK _ _ rfl rB
        ·have e6:av_.tmps.getD 59 undef=.int .i64 tp:=hR.t 6;have e7:av_.tmps.getD 60 undef=.int .i64 (max dx fr):=hR.t 7;have hdd:=HWD.out;refine pSq ?_;go_simp;exact hK _ _ rfl rB
        ·have e8:av_.tmps.getD 61 undef=.int .i64 dd:=hR.t 8;refine pSq ?_;go_simp;refine (C3.out w).mono ?_;rintro e w' ⟨rfl,hb⟩;exact hK _ _ (rfl) hb
        ·have e5:av_.tmps.getD 58 undef=.agg #[.bool x.neg,.string (encS x.num),.string (encS x.den)]:=hR.t 5;have e9:av_.tmps.getD 62 undef=.agg #[.bool od.neg,.string (encS od.num),.string (encS od.den)]:=hR.t 9;refine pSq ?_;go_simp;refine (C4.out w).mono ?_;rintro e w' ⟨rfl,hb⟩;exact hK _ _ (rfl) hb
        ·have e0:av_.tmps.getD 53 undef=.agg #[.bool su.neg,.string (encS su.num),.string (encS su.den)]:=hR.t 0;have e10:av_.tmps.getD 63 undef=.agg #[.bool pr.neg,.string (encS pr.num),.string (encS pr.den)]:=hR.t 10;refine pSq ?_;go_simp;refine (C5.out w).mono ?_;rintro e w' ⟨rfl,hb⟩;exact hK _ _ (rfl) hb
       ·intro sv_ w hS hb;have e11:sv_ 64=.agg #[.bool su2.neg,.string (encS su2.num),.string (encS su2.den)]:=hS 11 (by decide);simp only [over,ovL,Nat.reduceAdd,Nat.reduceLeDiff,Nat.reduceLT];have HX3_1:=uH hb HX3_1;have HX4_2:=uH hb HX4_2;have HX9:=uH hb HX9;have HX8_11:=uH hb HX8_11;have HB:=mH HB hb;obtain ⟨w17,hw⟩:∃w8,w8=w:=⟨_,rfl⟩;subst hw;rw [e11];clear hS hb e11;obtain ⟨W18,hW18,HX8_11,HB,ho,f20a,f20b,f20c,k20a,k20b,k20c⟩:=putR HX8_11 HB HN0 HG8_11 su2;have HX3_1:=ho _ _ (en3 HL4_2 HL9 HL8_11) HX3_1;have HX4_2:=ho _ _ (en2 HL9 HL8_11) HX4_2;have HX9:=ho _ _ (en1 HL8_11) HX9;clear ho;refine tail_step (n:=0) rfl rfl ?_;go_simp
        try rw [hW18]
        clear f20a f20b f20c k20a k20b k20c hW18;simp only [wpTail];have HS2:=hD (show refK n fr tp (k+1)=su2 by rw [HPS.out,if_pos (by have h:=HD3.out;have:=Htd.out;simp only [decide_eq_true_eq] at this;omega)]);have hj1:=HJ1.out;go_wp2_with fail;clear hj1
        go_roundw
        case rel=>exact ⟨k+1,su2,by have:=HLT.out;omega,by rw [HKJ.out],HS2,HX3_1,HX4_2,HX9,HX8_11,HB⟩
        case measure=>have:=HLT.out;simp [intOf];omega
   ·have hge:¬(k:Int)<(n.length:Int):=by omega
    have HSU:Hid (overT n fr tp=su):=hD (by rw [←HOR.out, ←HS.out,show k=n.length by omega]);have HSUZ:Hid (Rz su 60000):=hD (by rw [←HSU.out];exact HSZ.out);have HSUO:Hid su.Ok:=hD (by rw [←HSU.out];exact HSO.out);have c1:=fun w=>rFits_any (rawR su) (rawR_sz ((HSUZ.out).mono (show _≤9000000 by decide))).1 (rawR_sz ((HSUZ.out).mono (show _≤9000000 by decide))).2 w
    rw [fitsR_raw HSUO.out] at c1;have HOV2:=hD (show V=if fitT su=true then (rawR su,true) else (zrow,false) by rw [HOV.out,HSU.out]);obtain ⟨F,hF⟩:∃b,fitT su=b:=⟨_,rfl⟩;rw [hF] at c1 HOV2;have C3:Hid (∀w,Gv 82 #[rtV su] w (.bool F)):=hD c1;clear c1 hF;obtain ⟨k21a,k21b,k21c⟩:=c3 HX8_11;go_wp2_with fail;clear hge k21a k21b k21c;refine (C3.out _).mono ?_;rintro e w19 ⟨rfl,hb⟩;have HX3_1:=uH hb HX3_1;have HX4_2:=uH hb HX4_2;have HX9:=uH hb HX9;have HX8_11:=uH hb HX8_11;have HB:=mH HB hb;clear hb;cases F
    case false =>
     have hV:V=(zrow,false):=HOV2.out;subst hV;obtain ⟨W20,hW20,HX4_2,HB,ho,f22a,f22b,f22c,k22a,k22b,k22c⟩:=putZ HX4_2 HB HN0 HG4_2;have HX3_1:=ho _ _ (en1 HL4_2) HX3_1;have HX9:=ho _ _ (ne1 HL9) HX9;have HX8_11:=ho _ _ (ne2 HL9 HL8_11) HX8_11;clear ho;go_wp2_with fail;clear f22a f22b f22c k22a k22b k22c hW20;refine bodyPost_ret (rC2 HX4_2.out) rfl ?_;exact ⟨rfl,by rw [HN0.out];exact HB.out⟩
    case true =>
     have hV:V=(rawR su,true):=HOV2.out;subst hV;obtain ⟨k23a,k23b,k23c⟩:=c3 HX8_11;obtain ⟨W21,hW21,HX4_2,HB,ho,f24a,f24b,f24c,k24a,k24b,k24c⟩:=putR HX4_2 HB HN0 HG4_2 su;have HX3_1:=ho _ _ (en1 HL4_2) HX3_1;have HX9:=ho _ _ (ne1 HL9) HX9;have HX8_11:=ho _ _ (ne2 HL9 HL8_11) HX8_11;clear ho;go_wp2_with fail;clear k23a k23b k23c f24a f24b f24c k24a k24b k24c hW21;refine bodyPost_ret (rC2 HX4_2.out) rfl ?_;exact ⟨rfl,by rw [HN0.out];exact HB.out⟩
theorem rOver_any (v:Value) (l:List Dk) (fr tp:Int) (hz:SzD l 1100000) (wq:World) (hl:LstD wq v l):Gv 39 #[v,.agg #[.int .i64 fr,.int .i64 tp]] wq (.tuple #[.agg #[.bool (overV l fr tp).1.neg,.string (overV l fr tp).1.n,.string (overV l fr tp).1.d],.bool (overV l fr tp).2]):=by
 unfold Gv;rcases Bool.eq_false_or_eq_true (spanB fr tp) with h|h
 ·exact rOver_yes v l fr tp hz h wq hl
 ·exact rOver_no v l fr tp h wq
end Go.Proofs.YtblgfmjlajhipaaGreatDoor
