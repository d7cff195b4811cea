/- RateSums: contracts and the law's walk. Each theorem names its conditions. -/
import Derived.WalkKit
import Derived.Deep.LoopGhost
import Derived.Deep.QuietTactic
import Derived.BigQuiet
import Derived.Test.YtblgfmjlajhipaaGreatDoorProg
import Derived.WalkSpells
import Derived.WalkLawsBesides
import Derived.IntWalk
import Derived.Lib.Hide
import Derived.Laws.BitsAllLaws
import Derived.StillTailTactics
import Derived.Deep.OwnRows
import Derived.Lib.ConvBytes
import Derived.Below
import Derived.RangeFuncNested
import Derived.RangeFuncCalls
import Derived.RangeFuncLeaves
import Derived.Shelf.Abstract
import Derived.Lib.LaidIn
import Derived.RegionTactic
import Derived.KernelRfl
import Derived.OrdersIn
import Derived.Shelf.Strings.Trim
import Derived.Shelf.Small.Utf8
import Derived.Shelf.Small.Bits
import Derived.Shelf.Small.Strs
import Derived.Shelf.Strconv.Itoa0
import Derived.Shelf.Strings.Search1
import Derived.Shelf.Strings.Runes
import Derived.Shelf.Strings.AsciiSet
import Derived.Shelf.Unicode.DecodeSlow
import Derived.Shelf.Unicode.DecodeAny
import Derived.Ground.SlgmProg
import Derived.Shelf.SortM.Plain
import Derived.Shelf.SortM.SortNone
import Derived.Test.YtblgfmjlajhipaaGreatDoorKsa2
import Derived.Test.YtblgfmjlajhipaaGreatDoorZb5
import Derived.Test.YtblgfmjlajhipaaGreatDoorZa7
import Derived.Test.YtblgfmjlajhipaaGreatDoorZa6
import Derived.Test.YtblgfmjlajhipaaGreatDoorZa5
import Derived.Test.YtblgfmjlajhipaaGreatDoorZa4
import Derived.Test.YtblgfmjlajhipaaGreatDoorZa3
import Derived.Test.YtblgfmjlajhipaaGreatDoorZa0
import Derived.Test.YtblgfmjlajhipaaGreatDoorZa1
import Derived.Test.YtblgfmjlajhipaaGreatDoorZa2
import Derived.Test.YtblgfmjlajhipaaGreatDoorKsa0
set_option maxHeartbeats 16000000
set_option linter.unusedVariables false
namespace Go.Proofs.YtblgfmjlajhipaaGreatDoor
open Go.RowKit Go.Shelf
open Dgt
def Esums_law_10_1 (su:Rt) (su2:Rt) (on:Rt) (F:Int) (k:Nat) (p8:Option Addr) (c8:Nat) (qs:List (Int × Int)):Nat→Value
 | 0=>.agg #[.bool su.neg,.string (encS su.num),.string (encS su.den)]
 | 1=>.slice p8 qs.length c8
 | 2=>.int .i64 (F+(k:Int))
 | 3=>.agg #[.bool on.neg,.string (encS on.num),.string (encS on.den)]
 | 4=>.agg #[.bool su2.neg,.string (encS su2.num),.string (encS su2.den)]
 | _=>undef
def Esums_law_15_2 (su:Rt) (o1:Rt) (o2:Rt):Nat→Value
 | 0=>.bool true
 | 1=>.bool true
 | 2=>.bool true
 | 3=>.bool true
 | 4=>.bool true
 | 5=>.bool true
 | 6=>.bool true
 | 7=>.bool true
 | 8=>.bool true
 | 9=>.bool true
 | 10=>.bool true
 | 11=>.bool false
 | 12=>.bool true
 | 13=>.bool true
 | 14=>.bool true
 | 15=>.agg #[.bool su.neg,.string (encS su.num),.string (encS su.den)]
 | 16=>.agg #[.bool su.neg,.string (encS su.num),.string (encS su.den)]
 | 17=>.bool true
 | 18=>.bool true
 | 19=>.bool true
 | 20=>.agg #[.bool o1.neg,.string (encS o1.num),.string (encS o1.den)]
 | 21=>.agg #[.bool o2.neg,.string (encS o2.num),.string (encS o2.den)]
 | 22=>.agg #[.bool su.neg,.string (encS su.num),.string (encS su.den)]
 | 23=>.agg #[.bool su.neg,.string (encS su.num),.string (encS su.den)]
 | 24=>.bool true
 | 25=>.bool true
 | 26=>.bool true
 | _=>undef
set_option maxRecDepth 100000 in
theorem sums_law (pq:Option Addr) (nq capq:Nat) (qs:List (Int × Int)) (dy pa pb:Int) (hd:0≤dy∧dy≤255) (ha:0≤pa∧pa≤255) (hb:0≤pb∧pb≤255) (hi:∀p ∈ qs,I64 p.1∧I64 p.2) (wq:World) (hq:CutC 2 30 wq (.slice pq nq capq) nq (qs.map fun p=>[.int .i64 p.1,.int .i64 p.2])) :
  Gv 11 #[.slice pq nq capq,.int .u8 dy,.agg #[.int .u8 pa,.int .u8 pb]] wq (.bool true):=by
 unfold Gv;have HP:Hid (LstP wq (.slice pq qs.length capq) qs):=Lib.hid (by have h:=hq.cut (by decide);rw [List.length_map] at h;exact h);obtain ⟨h4,h5,h6⟩:nq≤capq∧nq≤9223372036854775807∧qs.length=min nq 30:=by
  obtain ⟨p',cap',h1,h2,h3,h4,-⟩:=hq;simp only [Value.slice.injEq] at h1;obtain ⟨-,-,rfl⟩:=h1;rw [List.length_map] at h4;exact ⟨h2,h3,h4⟩
 have HM2:Hid (min (nq:Int) 30=(qs.length:Int)∧(qs.length:Int)≤(capq:Int)):=Lib.hid (by omega);have HLL:Hid (qs.length≤30):=Lib.hid (by omega);have HDO:=Lib.hid (fun w h=>Days_own (.slice pq qs.length capq) qs hi w h);have HZM:=Lib.hid (days_fit qs);have HGR:=Lib.hid (days_gr qs);have hdr:drs ((daysD qs).map rawD)=daysD qs:=drs_raw HGR.out;have t1:dy.tmod 60=dy%60:=Int.tmod_eq_emod_of_nonneg hd.1;have t2:pa.tmod 30=pa%30:=Int.tmod_eq_emod_of_nonneg ha.1;have t3:pb.tmod 30=pb%30:=Int.tmod_eq_emod_of_nonneg hb.1;obtain ⟨D,hD⟩:∃k:Nat,dy%60=(k:Int):=⟨(dy%60).toNat,by omega⟩;obtain ⟨A,hA⟩:∃k:Nat,1+pa%30=(k:Int):=⟨(1+pa%30).toNat,by omega⟩;obtain ⟨C,hC⟩:∃k:Nat,1+pb%30=(k:Int):=⟨(1+pb%30).toNat,by omega⟩;have hDb:D<60:=by omega
 have hAb:1≤A∧A≤30:=by omega
 have hCb:1≤C∧C≤30:=by omega
 have P1:=fit_sum qs (729990+D) A (by omega) (by omega);have P2:=fit_sum qs (729990+D+A) C (by omega) (by omega);have P3:=fit_sum qs (729990+D) (A+C) (by omega) (by omega);have E1:=over_two HGR.out (729990+D) A C;have E2:=sumN_over HGR.out (729990+D) (A+C) (by omega);have hg0:∃g,daysD qs=g:=⟨_,rfl⟩;obtain ⟨g0,hg0⟩:=hg0;rw [hg0] at HDO HZM HGR hdr P1 P2 P3 E1 E2;obtain ⟨F,hF⟩:∃x,(729990:Int)+(D:Int)=x:=⟨_,rfl⟩;rw [hF] at P1 P2 P3 E1 E2;obtain ⟨Mi,hMi⟩:∃x,F+(A:Int)=x:=⟨_,rfl⟩;obtain ⟨Tt,hTt⟩:∃x,Mi+(C:Int)=x:=⟨_,rfl⟩;have hTt2:F+((A+C:Nat):Int)=Tt:=by omega
 rw [hMi] at P1 P2 E1;rw [hTt] at P2 E1;rw [hTt2] at P3 E2;obtain ⟨ms,hms⟩:∃m,g0.map rawD=m:=⟨_,rfl⟩;rw [hms] at HDO HZM hdr;obtain ⟨nn,hnn⟩:∃m,normG g0=m:=⟨_,rfl⟩;rw [hnn] at P1 P2 P3 E1 E2;have hov:∀a b,spanB a b=true→fitT (overT nn a b)=true→overV ms a b=(rawR (overT nn a b),true):=fun a b h1 h2=>by
  unfold overV;rw [hdr,hnn,if_pos h1,if_pos h2]
 have V1:=hov F Mi (by unfold spanB;simp;omega) P1;have V2:=hov Mi Tt (by unfold spanB;simp;omega) P2;have V3:=hov F Tt (by unfold spanB;simp;omega) P3;have V4:overV ms Tt Tt=(zrow,false):=by unfold overV;rw [if_neg (by unfold spanB;simp)]
 have z1:=fitT_sz P1;have z2:=fitT_sz P2;have k1:=(@over_q nn F Mi (by rw [←hnn];exact norm_gr HGR.out)).1;have k2:=(@over_q nn Mi Tt (by rw [←hnn];exact norm_gr HGR.out)).1;obtain ⟨o1,ho1⟩:∃x,overT nn F Mi=x:=⟨_,rfl⟩;obtain ⟨o2,ho2⟩:∃x,overT nn Mi Tt=x:=⟨_,rfl⟩;obtain ⟨o3,ho3⟩:∃x,overT nn F Tt=x:=⟨_,rfl⟩;rw [ho1] at V1 E1 z1 k1;rw [ho2] at V2 E1 z2 k2;rw [ho3] at V3 E1 E2;have c9:=fun w=>rRatAdd_r (IsR.of k1 (z1.mono (show 50≤1000 by decide))) (IsR.of k2 (z2.mono (show 50≤1000 by decide))) (by decide) (by decide) w
 rw [E1] at c9;have c0:=fun w=>rRatOf_any 0 w (by decide) (by decide)
 have HZ0:Hid (sumN g0 F 0=ofR 0):=Lib.hid rfl;obtain ⟨z0,hz0⟩:∃x,ofR 0=x:=⟨_,rfl⟩;rw [hz0] at c0 HZ0;have HSUM:=Lib.hid E2;have HDR:=Lib.hid hdr;have HV1:=Lib.hid V1;have HV2:=Lib.hid V2;have HV3:=Lib.hid V3;have HV4:=Lib.hid V4;obtain ⟨d1,g1⟩:∃x,dy%60=x:=⟨_,rfl⟩;obtain ⟨a1,g2⟩:∃x,pa%30=x:=⟨_,rfl⟩;obtain ⟨b1,g3⟩:∃x,pb%30=x:=⟨_,rfl⟩;rw [g1] at t1;rw [g2] at t2;rw [g3] at t3;obtain ⟨F1,g4⟩:∃x,F+1=x:=⟨_,rfl⟩;obtain ⟨M1,g5⟩:∃x,Mi+1=x:=⟨_,rfl⟩;have W (x y:Int) (h: -9223372036854775808≤x∧x≤9223372036854775807) (e:x=y):IntKind.i64.wrap x=y:=by rw [IntWalk.i64_in _ (by omega)];exact e
 have HW1:Hid (IntKind.i64.wrap dy=dy∧dy.tmod 60=d1∧IntKind.i64.wrap d1=d1∧IntKind.i64.wrap (729990+d1)=F):=Lib.hid ⟨W _ _ (by omega) rfl,t1,W _ _ (by omega) rfl,W _ _ (by omega) (by omega)⟩;have HW2:Hid (IntKind.i64.wrap (F+1)=F1∧IntKind.i64.wrap pa=pa∧pa.tmod 30=a1∧IntKind.i64.wrap a1=a1∧IntKind.i64.wrap (F1+a1)=Mi):=Lib.hid ⟨W _ _ (by omega) g4,W _ _ (by omega) rfl,t2,W _ _ (by omega) rfl,W _ _ (by omega) (by omega)⟩;have HW3:Hid (IntKind.i64.wrap (Mi+1)=M1∧IntKind.i64.wrap pb=pb∧pb.tmod 30=b1∧IntKind.i64.wrap b1=b1∧IntKind.i64.wrap (M1+b1)=Tt):=Lib.hid ⟨W _ _ (by omega) g5,W _ _ (by omega) rfl,t3,W _ _ (by omega) rfl,W _ _ (by omega) (by omega)⟩;obtain ⟨N,hN⟩:∃n,A+C=n:=⟨_,rfl⟩;rw [hN] at hTt2 HSUM;have HNT:Hid (F+(N:Int)=Tt∧N≤60∧0≤F∧Tt≤3652058):=Lib.hid (by omega)
 clear hq h4 h5 h6 hi hdr t1 t2 t3 hD hA hC hDb hAb hCb P1 P2 P3 E1 E2 hg0 hF hMi hTt hTt2 hms hnn hov V1 V2 V3 V4 z1 z2 k1 k2 ho1 ho2 ho3 hz0 g1 g2 g3 g4 g5 W hN hd ha hb;have C1:Hid (∀w,Gv 14 #[.int .i64 0] w (.agg #[.bool z0.neg,.string (encS z0.num),.string (encS z0.den)])):=Lib.hid c0;have C2:Hid (∀w,Gv 19 #[rtV o1,rtV o2] w (.agg #[.bool o3.neg,.string (encS o3.num),.string (encS o3.den)])):=Lib.hid c9;clear c0 c9;have C3:Hid (∀w,Gv 12 #[] w (.bool true)):=Lib.hid fun w=>sanity_any w
 have HB:=Lib.hid (Below.refl wq.heap.size wq);obtain ⟨n0,hn0⟩:∃n,n=wq.heap.size:=⟨_,rfl⟩;rw [←hn0];have HN0:=Lib.hid hn0;clear hn0;go_enter Tryz.func11,Tryz.ntmps11;obtain ⟨W1,bk5,hW1,hbk5,HX5_1,HB,HG5_1,hup⟩:=boxn HB HN0 (.cells #[.int .u8 pa,.int .u8 pb] 73);clear hup;go_wp2_with fail;clear hW1 hbk5;refine (C3.out _).mono ?_;rintro e w2 ⟨rfl,hb⟩;have HX5_1:=uH hb HX5_1;have HB:=mH HB hb;clear hb;obtain ⟨hm3,hm4⟩:=HM2.out;go_wp2_with fail;clear hm3 hm4;refine (HDO.out _ (HP.out.up HB.out)).mono ?_;rintro e w3 ⟨v8,rfl,hln,hb⟩;have HX5_1:=uH hb HX5_1;have HB:=mH HB hb;obtain ⟨p8,c8,rfl⟩:=own_slice hln;have HLX:Hid (LstD w3 (.slice p8 qs.length c8) ms):=Lib.hid (by
  have h9:ms.length=qs.length:=by
   have:=hln.1;have h8:(cells4 ms).length=ms.length*4:=by unfold cells4;rw [flat_len (n:=4) (fun r hr=>by obtain ⟨b,-,rfl⟩:=List.mem_map.1 hr;rfl),List.length_map]
   omega
  exact own_lstD (by rw [h9];exact hln) (by rw [h9];have:=HLL.out;omega))
 have HBr:=Lib.hid (Below.refl w3.heap.size w3);clear hln hb;have C4:Hid (∀w,Below w3.heap.size w3 w→Gv 38 #[.slice p8 qs.length c8,.agg #[.int .i64 F,.int .i64 Mi]] w (.tuple #[.agg #[.bool o1.neg,.string (encS o1.num),.string (encS o1.den)],.bool true])):=Lib.hid fun w hp0=>by
  have h:=Over_any (.slice p8 qs.length c8) ms F Mi HZM.out w (HLX.out.up hp0);rw [HV1.out] at h;exact h
 have C5:Hid (∀w,Below w3.heap.size w3 w→Gv 38 #[.slice p8 qs.length c8,.agg #[.int .i64 Mi,.int .i64 Tt]] w (.tuple #[.agg #[.bool o2.neg,.string (encS o2.num),.string (encS o2.den)],.bool true])):=Lib.hid fun w hp0=>by
  have h:=Over_any (.slice p8 qs.length c8) ms Mi Tt HZM.out w (HLX.out.up hp0);rw [HV2.out] at h;exact h
 have C6:Hid (∀w,Below w3.heap.size w3 w→Gv 38 #[.slice p8 qs.length c8,.agg #[.int .i64 F,.int .i64 Tt]] w (.tuple #[.agg #[.bool o3.neg,.string (encS o3.num),.string (encS o3.den)],.bool true])):=Lib.hid fun w hp0=>by
  have h:=Over_any (.slice p8 qs.length c8) ms F Tt HZM.out w (HLX.out.up hp0);rw [HV3.out] at h;exact h
 have C7:Hid (∀w,Below w3.heap.size w3 w→Gv 38 #[.slice p8 qs.length c8,.agg #[.int .i64 Tt,.int .i64 Tt]] w (.tuple #[.agg #[.bool false,.string ⟨#[]⟩,.string ⟨#[]⟩],.bool false])):=Lib.hid fun w hp0=>by
  have h:=Over_any (.slice p8 qs.length c8) ms Tt Tt HZM.out w (HLX.out.up hp0);rw [HV4.out] at h;exact h
 obtain ⟨x1,x2,x3,x4⟩:=HW1.out;obtain ⟨y1,y2,y3,y4,y5⟩:=HW2.out;obtain ⟨u1,u2,u3,u4,u5⟩:=HW3.out;have k2:w3.cell? ⟨bk5,0,none⟩=some (.int .u8 pa):=by rw [Lib.cell_of_heap HX5_1.out];rfl
 have k3:w3.cell? ⟨bk5,1,none⟩=some (.int .u8 pb):=by rw [Lib.cell_of_heap HX5_1.out];rfl
 go_wp2_with fail;clear x1 x2 x3 x4 y1 y2 y3 y4 y5 u1 u2 u3 u4 u5 k2 k3;refine (C1.out _).mono ?_;rintro e w4 ⟨rfl,hb⟩;have HX5_1:=uH hb HX5_1;have HBr:=mH HBr hb;have HB:=mH HB hb;clear hb;obtain ⟨W5,bk12,hW5,hbk12,HX12_4,HB,HG12_4,hup⟩:=boxZ HB HN0;have HGb12_4:=Lib.hid (show _≤bk12 by rw [←hbk12];exact HBr.out.size);have HBr:=Lib.hid (by have h:=HBr.out.alloc HBr.out.size (.cells #[.bool false,.string ⟨#[]⟩,.string ⟨#[]⟩] 29);rw [hW5] at h;exact h);have HL12_4:=(hup _ _ HX5_1).2;have HX5_1:=(hup _ _ HX5_1).1;clear hup;obtain ⟨W6,hW6,HX12_4,HB,ho,f5a,f5b,f5c,k5a,k5b,k5c⟩:=putR HX12_4 HB HN0 HG12_4 z0;have HX5_1:=ho _ _ (en1 HL12_4) HX5_1;have HBr:=Lib.hid (by have h:=((HBr.out.setCell (p:=⟨bk12,0,none⟩) HGb12_4.out (.bool z0.neg)).setCell (p:=⟨bk12,1,none⟩) HGb12_4.out (.string (encS z0.num))).setCell (p:=⟨bk12,2,none⟩) HGb12_4.out (.string (encS z0.den));rw [hW6] at h;exact h)
 clear ho;go_wp2_with fail;clear hW5 hbk12 f5a f5b f5c k5a k5b k5c hW6
 go_loopw [13] (fun u13 wr=>∃(k:Nat) (su:Rt),k≤N∧u13=.int .i64 (F+(k:Int))∧Hid (sumN g0 F k=su)∧Hid (Below w3.heap.size w3 wr)∧Hid (wr.heap[bk5]? =some (.cells #[.int .u8 pa,.int .u8 pb] 73 (0,0)))∧Hid (wr.heap[bk12]? =some (.cells #[.bool su.neg,.string (encS su.num),.string (encS su.den)] 29 (0,0)))∧Hid (Below wq.heap.size wq wr)) (fun u13 _=>N-(intOf u13-F).toNat)
 case atStart=>exact ⟨0,z0,by omega,by first|rfl|go_num,HZ0,HBr,HX5_1,HX12_4,HB⟩
 case round =>
  obtain ⟨k,su,hk,rfl,HS,HBr,HX5_1,HX12_4,HB⟩:=hrel
  by_cases hlt:k<N
  ·have hlt' :(k:Int)<(N:Int):=by omega
   have hlt2:F+(k:Int)<Tt:=by have:=HNT.out;omega
   have hc:=onT_ok HGR.out (F+k);have zs:=sumN_sz HGR.out F k;have ks:=(sumN_q HGR.out F k (by have:=HNT.out;omega)).1;rw [HS.out] at zs ks;have HSN:Hid (sumN g0 F (k+1)=addR su (onT g0 (F+k))):=Lib.hid (by rw [←HS.out];rfl);have m1:=fun w h=>On_any (.slice p8 qs.length c8) ms (F+k) HZM.out w (HLX.out.up h)
   rw [HDR.out] at m1;have m2:=fun w=>rRatAdd_r (IsR.of ks (zs.mono (show 8+51*k≤10000 by have:=HNT.out;omega))) (IsR.of hc.1 ((fitT_sz hc.2).mono (show 50≤10000 by decide))) (by decide) (by decide) w
   obtain ⟨on,h1⟩:∃x,onT g0 (F+k)=x:=⟨_,rfl⟩;rw [h1] at m1 m2 HSN;obtain ⟨su2,h2⟩:∃x,addR su on=x:=⟨_,rfl⟩;rw [h2] at m2 HSN;have HLT:=Lib.hid hlt;have HWI:Hid (IntKind.i64.wrap (F+(k:Int)+1)=F+((k+1:Nat):Int)):=Lib.hid (by rw [IntWalk.i64_in _ (by have:=HLT.out;have:=HNT.out;omega)];omega);clear hc zs ks h1 h2 hlt hk;have C8:Hid (∀w,Below w3.heap.size w3 w→Gv 36 #[.slice p8 qs.length c8,.int .i64 (F+(k:Int))] w (.agg #[.bool on.neg,.string (encS on.num),.string (encS on.den)])):=Lib.hid fun w hp0=>m1 w hp0
   have C9:Hid (∀w,Gv 19 #[rtV su,rtV on] w (.agg #[.bool su2.neg,.string (encS su2.num),.string (encS su2.den)])):=Lib.hid m2;clear m1 m2;go_wp2_with fail;clear hlt' hlt2;refine wpTl (w:=wr) (by kernel_rfl) (fun ix v _=>v=Esums_law_10_1 su su2 on F k p8 c8 qs ix) 5 (fun t=>(decide (54≤t)&&decide (t<59))) (by decide) (by kernel_rfl) (by kernel_rfl) (by kernel_rfl) (by kernel_rfl) (by kernel_rfl) (fun _ _ _ _ _ h=>h) ?_ ?_
   ·intro i hi ov_ listed av_ w hR K hK;have ho:=hR.at_;have hi:i<5:=hi;have hii:i=0∨i=1∨i=2∨i=3∨i=4:=by omega
    rcases hii with rfl|rfl|rfl|rfl|rfl<;>(simp at ho;subst ho)
    ·have b12:av_.tmps.getD 12 undef=.pointer (some ⟨bk12,0,none⟩):=hR.b 12;obtain ⟨cx0,cx1,cx2⟩:=c3 (uH hR.below HX12_4);refine pSq ?_;go_simp;exact hK _ _ rfl rB
    ·have b8:av_.tmps.getD 8 undef=.slice p8 qs.length c8:=hR.b 8;refine pSq ?_;go_simp;exact hK _ _ rfl rB
    ·have b13:av_.tmps.getD 13 undef=.int .i64 (F+(k:Int)):=hR.b 13;refine pSq ?_;go_simp;exact hK _ _ rfl rB
    ·have e1:av_.tmps.getD 55 undef=.slice p8 qs.length c8:=hR.t 1;have e2:av_.tmps.getD 56 undef=.int .i64 (F+(k:Int)):=hR.t 2;refine pSq ?_;go_simp;refine (C8.out w (HBr.out.trans (hR.below.mono HBr.out.size))).mono ?_;rintro e w' ⟨rfl,hb⟩;exact hK _ _ (rfl) hb
    ·have e0:av_.tmps.getD 54 undef=.agg #[.bool su.neg,.string (encS su.num),.string (encS su.den)]:=hR.t 0;have e3:av_.tmps.getD 57 undef=.agg #[.bool on.neg,.string (encS on.num),.string (encS on.den)]:=hR.t 3;refine pSq ?_;go_simp;refine (C9.out w).mono ?_;rintro e w' ⟨rfl,hb⟩;exact hK _ _ (rfl) hb
   ·intro sv_ w hS hb;have e4:sv_ 58=.agg #[.bool su2.neg,.string (encS su2.num),.string (encS su2.den)]:=hS 4 (by decide);simp only [over,ovL,Nat.reduceAdd,Nat.reduceLeDiff,Nat.reduceLT];have HX5_1:=uH hb HX5_1;have HX12_4:=uH hb HX12_4;have HB:=mH HB hb;have HBr:=mH HBr hb;obtain ⟨w7,hw⟩:∃w8,w8=w:=⟨_,rfl⟩;subst hw;rw [e4];clear hS hb e4;obtain ⟨W8,hW8,HX12_4,HB,ho,f6a,f6b,f6c,k6a,k6b,k6c⟩:=putR HX12_4 HB HN0 HG12_4 su2;have HX5_1:=ho _ _ (en1 HL12_4) HX5_1;have HBr:=Lib.hid (by have h:=((HBr.out.setCell (p:=⟨bk12,0,none⟩) HGb12_4.out (.bool su2.neg)).setCell (p:=⟨bk12,1,none⟩) HGb12_4.out (.string (encS su2.num))).setCell (p:=⟨bk12,2,none⟩) HGb12_4.out (.string (encS su2.den));rw [hW8] at h;exact h);clear ho;refine tail_step (n:=0) rfl rfl ?_;go_simp
    try rw [hW8]
    clear f6a f6b f6c k6a k6b k6c hW8;simp only [wpTail];have hwi:=HWI.out;go_wp2_with fail;clear hwi
    go_roundw
    case rel=>exact ⟨k+1,su2,by have:=HLT.out;omega,by first|rfl|go_num,Lib.hid HSN.out,HBr,HX5_1,HX12_4,HB⟩
    case measure=>have:=HLT.out;simp [intOf];omega
  ·have hge:¬(k:Int)<(N:Int):=by omega
   have hge2:¬F+(k:Int)<Tt:=by have:=HNT.out;omega
   have hsu:su=o3:=by have h:=HS.out;rw [show k=N by omega,HSUM.out] at h;exact h.symm
   subst hsu;go_wp2_with fail;clear hge hge2;refine (C4.out _ HBr.out).mono ?_;rintro e w9 ⟨rfl,hb⟩;have HX5_1:=uH hb HX5_1;have HX12_4:=uH hb HX12_4;have HBr:=mH HBr hb;have HB:=mH HB hb;clear hb;obtain ⟨W10,bk14,hW10,hbk14,HX14_7,HB,HG14_7,hup⟩:=boxZ HB HN0;have HGb14_7:=Lib.hid (show _≤bk14 by rw [←hbk14];exact HBr.out.size);have HBr:=Lib.hid (by have h:=HBr.out.alloc HBr.out.size (.cells #[.bool false,.string ⟨#[]⟩,.string ⟨#[]⟩] 29);rw [hW10] at h;exact h);have HL14_7:=(hup _ _ HX12_4).2;have HX5_1:=(hup _ _ HX5_1).1;have HX12_4:=(hup _ _ HX12_4).1;clear hup;obtain ⟨W11,hW11,HX14_7,HB,ho,f8a,f8b,f8c,k8a,k8b,k8c⟩:=putR HX14_7 HB HN0 HG14_7 o1;have HX5_1:=ho _ _ (en2 HL12_4 HL14_7) HX5_1;have HX12_4:=ho _ _ (en1 HL14_7) HX12_4
   have HBr:=Lib.hid (by have h:=((HBr.out.setCell (p:=⟨bk14,0,none⟩) HGb14_7.out (.bool o1.neg)).setCell (p:=⟨bk14,1,none⟩) HGb14_7.out (.string (encS o1.num))).setCell (p:=⟨bk14,2,none⟩) HGb14_7.out (.string (encS o1.den));rw [hW11] at h;exact h);clear ho;go_wp2_with fail;clear hW10 hbk14 f8a f8b f8c k8a k8b k8c hW11;refine (C5.out _ HBr.out).mono ?_;rintro e w12 ⟨rfl,hb⟩;have HX5_1:=uH hb HX5_1;have HX12_4:=uH hb HX12_4;have HX14_7:=uH hb HX14_7;have HBr:=mH HBr hb;have HB:=mH HB hb;clear hb;obtain ⟨W13,bk16,hW13,hbk16,HX16_9,HB,HG16_9,hup⟩:=boxZ HB HN0;have HGb16_9:=Lib.hid (show _≤bk16 by rw [←hbk16];exact HBr.out.size);have HBr:=Lib.hid (by have h:=HBr.out.alloc HBr.out.size (.cells #[.bool false,.string ⟨#[]⟩,.string ⟨#[]⟩] 29);rw [hW13] at h;exact h);have HL16_9:=(hup _ _ HX14_7).2;have HX5_1:=(hup _ _ HX5_1).1;have HX12_4:=(hup _ _ HX12_4).1;have HX14_7:=(hup _ _ HX14_7).1
   clear hup;obtain ⟨W14,hW14,HX16_9,HB,ho,f10a,f10b,f10c,k10a,k10b,k10c⟩:=putR HX16_9 HB HN0 HG16_9 o2;have HX5_1:=ho _ _ (en3 HL12_4 HL14_7 HL16_9) HX5_1;have HX12_4:=ho _ _ (en2 HL14_7 HL16_9) HX12_4;have HX14_7:=ho _ _ (en1 HL16_9) HX14_7;have HBr:=Lib.hid (by have h:=((HBr.out.setCell (p:=⟨bk16,0,none⟩) HGb16_9.out (.bool o2.neg)).setCell (p:=⟨bk16,1,none⟩) HGb16_9.out (.string (encS o2.num))).setCell (p:=⟨bk16,2,none⟩) HGb16_9.out (.string (encS o2.den));rw [hW14] at h;exact h);clear ho;go_wp2_with fail;clear hW13 hbk16 f10a f10b f10c k10a k10b k10c hW14;refine (C6.out _ HBr.out).mono ?_;rintro e w15 ⟨rfl,hb⟩;have HX5_1:=uH hb HX5_1;have HX12_4:=uH hb HX12_4;have HX14_7:=uH hb HX14_7;have HX16_9:=uH hb HX16_9;have HBr:=mH HBr hb;have HB:=mH HB hb;clear hb;obtain ⟨W16,bk18,hW16,hbk18,HX18_11,HB,HG18_11,hup⟩:=boxZ HB HN0
   have HGb18_11:=Lib.hid (show _≤bk18 by rw [←hbk18];exact HBr.out.size);have HBr:=Lib.hid (by have h:=HBr.out.alloc HBr.out.size (.cells #[.bool false,.string ⟨#[]⟩,.string ⟨#[]⟩] 29);rw [hW16] at h;exact h);have HL18_11:=(hup _ _ HX16_9).2;have HX5_1:=(hup _ _ HX5_1).1;have HX12_4:=(hup _ _ HX12_4).1;have HX14_7:=(hup _ _ HX14_7).1;have HX16_9:=(hup _ _ HX16_9).1;clear hup;obtain ⟨W17,hW17,HX18_11,HB,ho,f12a,f12b,f12c,k12a,k12b,k12c⟩:=putR HX18_11 HB HN0 HG18_11 su;have HX5_1:=ho _ _ (en4 HL12_4 HL14_7 HL16_9 HL18_11) HX5_1;have HX12_4:=ho _ _ (en3 HL14_7 HL16_9 HL18_11) HX12_4;have HX14_7:=ho _ _ (en2 HL16_9 HL18_11) HX14_7;have HX16_9:=ho _ _ (en1 HL18_11) HX16_9
   have HBr:=Lib.hid (by have h:=((HBr.out.setCell (p:=⟨bk18,0,none⟩) HGb18_11.out (.bool su.neg)).setCell (p:=⟨bk18,1,none⟩) HGb18_11.out (.string (encS su.num))).setCell (p:=⟨bk18,2,none⟩) HGb18_11.out (.string (encS su.den));rw [hW17] at h;exact h);clear ho;go_wp2_with fail;clear hW16 hbk18 f12a f12b f12c k12a k12b k12c hW17;refine (C7.out _ HBr.out).mono ?_;rintro e w18 ⟨rfl,hb⟩;have HX5_1:=uH hb HX5_1;have HX12_4:=uH hb HX12_4;have HX14_7:=uH hb HX14_7;have HX16_9:=uH hb HX16_9;have HX18_11:=uH hb HX18_11;have HBr:=mH HBr hb;have HB:=mH HB hb;clear hb;obtain ⟨W19,bk20,hW19,hbk20,HX20_13,HB,HG20_13,hup⟩:=boxZ HB HN0;have HGb20_13:=Lib.hid (show _≤bk20 by rw [←hbk20];exact HBr.out.size);have HBr:=Lib.hid (by have h:=HBr.out.alloc HBr.out.size (.cells #[.bool false,.string ⟨#[]⟩,.string ⟨#[]⟩] 29);rw [hW19] at h;exact h);have HL20_13:=(hup _ _ HX18_11).2;have HX5_1:=(hup _ _ HX5_1).1
   have HX12_4:=(hup _ _ HX12_4).1;have HX14_7:=(hup _ _ HX14_7).1;have HX16_9:=(hup _ _ HX16_9).1;have HX18_11:=(hup _ _ HX18_11).1;clear hup;obtain ⟨W20,hW20,HX20_13,HB,ho,f14a,f14b,f14c,k14a,k14b,k14c⟩:=putZ HX20_13 HB HN0 HG20_13;have HX5_1:=ho _ _ (en5 HL12_4 HL14_7 HL16_9 HL18_11 HL20_13) HX5_1;have HX12_4:=ho _ _ (en4 HL14_7 HL16_9 HL18_11 HL20_13) HX12_4;have HX14_7:=ho _ _ (en3 HL16_9 HL18_11 HL20_13) HX14_7;have HX16_9:=ho _ _ (en2 HL18_11 HL20_13) HX16_9;have HX18_11:=ho _ _ (en1 HL20_13) HX18_11;have HBr:=Lib.hid (by have h:=((HBr.out.setCell (p:=⟨bk20,0,none⟩) HGb20_13.out (.bool false)).setCell (p:=⟨bk20,1,none⟩) HGb20_13.out (.string ⟨#[]⟩)).setCell (p:=⟨bk20,2,none⟩) HGb20_13.out (.string ⟨#[]⟩);rw [hW20] at h;exact h);clear ho;go_wp2_with fail;clear hW19 hbk20 f14a f14b f14c k14a k14b k14c hW20
   refine wpVl (w:=W20) (by kernel_rfl) (fun ix v _=>v=Esums_law_15_2 su o1 o2 ix) (fun t=>(decide (6≤t)&&decide (t<7))||(decide (91≤t)&&decide (t<117))) (by kernel_rfl) (by kernel_rfl) (by kernel_rfl) (fun _ _ _ _ _ h=>h) ?_ ?_
   ·intro i hi ov_ listed av_ w hR K hK;have ho:=hR.at_;have hi:i<27:=hi;have hii:i=0∨i=1∨i=2∨i=3∨i=4∨i=5∨i=6∨i=7∨i=8∨i=9∨i=10∨i=11∨i=12∨i=13∨i=14∨i=15∨i=16∨i=17∨i=18∨i=19∨i=20∨i=21∨i=22∨i=23∨i=24∨i=25∨i=26:=by omega
    rcases hii with rfl|rfl|rfl|rfl|rfl|rfl|rfl|rfl|rfl|rfl|rfl|rfl|rfl|rfl|rfl|rfl|rfl|rfl|rfl|rfl|rfl|rfl|rfl|rfl|rfl|rfl|rfl<;>(simp at ho;subst ho)
    ·have b7:av_.tmps.getD 7 undef=.bool true:=hR.b 7;refine pSq ?_;go_simp;exact hK _ _ rfl rB
    ·have e0:av_.tmps.getD 91 undef=.bool true:=hR.d 0;refine pSq ?_;go_simp;exact hK _ _ rfl rB
    ·have e1:av_.tmps.getD 92 undef=.bool true:=hR.g 1;have b15:av_.tmps.getD 15 undef=.bool true:=hR.b 15;refine gSq (b:=true) e1 ?_;go_simp;exact hK _ _ rfl rB
    ·have e1:av_.tmps.getD 92 undef=.bool true:=hR.d 1;have e2:av_.tmps.getD 93 undef=.bool true:=hR.d 2;refine pSq ?_;go_simp;exact hK _ _ rfl rB
    ·have e3:av_.tmps.getD 94 undef=.bool true:=hR.d 3;refine pSq ?_;go_simp;exact hK _ _ rfl rB
    ·have e4:av_.tmps.getD 95 undef=.bool true:=hR.g 4;have b17:av_.tmps.getD 17 undef=.bool true:=hR.b 17;refine gSq (b:=true) e4 ?_;go_simp;exact hK _ _ rfl rB
    ·have e4:av_.tmps.getD 95 undef=.bool true:=hR.d 4;have e5:av_.tmps.getD 96 undef=.bool true:=hR.d 5;refine pSq ?_;go_simp;exact hK _ _ rfl rB
    ·have e6:av_.tmps.getD 97 undef=.bool true:=hR.d 6;refine pSq ?_;go_simp;exact hK _ _ rfl rB
    ·have e7:av_.tmps.getD 98 undef=.bool true:=hR.g 7;have b19:av_.tmps.getD 19 undef=.bool true:=hR.b 19;refine gSq (b:=true) e7 ?_;go_simp;exact hK _ _ rfl rB
    ·have e7:av_.tmps.getD 98 undef=.bool true:=hR.d 7;have e8:av_.tmps.getD 99 undef=.bool true:=hR.d 8;refine pSq ?_;go_simp;exact hK _ _ rfl rB
    ·have e9:av_.tmps.getD 100 undef=.bool true:=hR.d 9;refine pSq ?_;go_simp;exact hK _ _ rfl rB
    ·have e10:av_.tmps.getD 101 undef=.bool true:=hR.g 10;have b21:av_.tmps.getD 21 undef=.bool false:=hR.b 21;refine gSq (b:=true) e10 ?_;go_simp;exact hK _ _ rfl rB
    ·have e11:av_.tmps.getD 102 undef=.bool false:=hR.d 11;have e10:av_.tmps.getD 101 undef=.bool true:=hR.g 10;refine gSq (b:=true) e10 ?_;go_simp;exact hK _ _ rfl rB
    ·have e10:av_.tmps.getD 101 undef=.bool true:=hR.d 10;have e12:av_.tmps.getD 103 undef=.bool true:=hR.d 12;refine pSq ?_;go_simp;exact hK _ _ rfl rB
    ·have e13:av_.tmps.getD 104 undef=.bool true:=hR.d 13;refine pSq ?_;go_simp;exact hK _ _ rfl rB
    ·have e14:av_.tmps.getD 105 undef=.bool true:=hR.g 14;have b18:av_.tmps.getD 18 undef=.pointer (some ⟨bk18,0,none⟩):=hR.b 18;obtain ⟨cx0,cx1,cx2⟩:=c3 (uH hR.below HX18_11);refine gSq (b:=true) e14 ?_;go_simp;exact hK _ _ rfl rB
    ·have e14:av_.tmps.getD 105 undef=.bool true:=hR.g 14;have b12:av_.tmps.getD 12 undef=.pointer (some ⟨bk12,0,none⟩):=hR.b 12;obtain ⟨cx0,cx1,cx2⟩:=c3 (uH hR.below HX12_4);refine gSq (b:=true) e14 ?_;go_simp;exact hK _ _ rfl rB
    ·have e15:av_.tmps.getD 106 undef=.agg #[.bool su.neg,.string (encS su.num),.string (encS su.den)]:=hR.d 15;have e16:av_.tmps.getD 107 undef=.agg #[.bool su.neg,.string (encS su.num),.string (encS su.den)]:=hR.d 16;have e14:av_.tmps.getD 105 undef=.bool true:=hR.g 14;have hq:=run_eqlR (eqR_iff.2 (rfl:su=su));refine gSq (b:=true) e14 ?_;go_simp;exact hK _ _ rfl rB
    ·have e14:av_.tmps.getD 105 undef=.bool true:=hR.d 14;have e17:av_.tmps.getD 108 undef=.bool true:=hR.d 17;refine pSq ?_;go_simp;exact hK _ _ rfl rB
    ·have e18:av_.tmps.getD 109 undef=.bool true:=hR.d 18;refine pSq ?_;go_simp;exact hK _ _ rfl rB
    ·have e19:av_.tmps.getD 110 undef=.bool true:=hR.g 19;have b14:av_.tmps.getD 14 undef=.pointer (some ⟨bk14,0,none⟩):=hR.b 14;obtain ⟨cx0,cx1,cx2⟩:=c3 (uH hR.below HX14_7);refine gSq (b:=true) e19 ?_;go_simp;exact hK _ _ rfl rB
    ·have e19:av_.tmps.getD 110 undef=.bool true:=hR.g 19;have b16:av_.tmps.getD 16 undef=.pointer (some ⟨bk16,0,none⟩):=hR.b 16;obtain ⟨cx0,cx1,cx2⟩:=c3 (uH hR.below HX16_9);refine gSq (b:=true) e19 ?_;go_simp;exact hK _ _ rfl rB
    ·have e20:av_.tmps.getD 111 undef=.agg #[.bool o1.neg,.string (encS o1.num),.string (encS o1.den)]:=hR.d 20;have e21:av_.tmps.getD 112 undef=.agg #[.bool o2.neg,.string (encS o2.num),.string (encS o2.den)]:=hR.d 21;have e19:av_.tmps.getD 110 undef=.bool true:=hR.g 19;refine gSq (b:=true) e19 ?_;go_simp;refine (C2.out w).mono ?_;rintro e w' ⟨rfl,hb⟩;exact hK _ _ (rfl) hb
    ·have e19:av_.tmps.getD 110 undef=.bool true:=hR.g 19;have b18:av_.tmps.getD 18 undef=.pointer (some ⟨bk18,0,none⟩):=hR.b 18;obtain ⟨cx0,cx1,cx2⟩:=c3 (uH hR.below HX18_11);refine gSq (b:=true) e19 ?_;go_simp;exact hK _ _ rfl rB
    ·have e22:av_.tmps.getD 113 undef=.agg #[.bool su.neg,.string (encS su.num),.string (encS su.den)]:=hR.d 22;have e23:av_.tmps.getD 114 undef=.agg #[.bool su.neg,.string (encS su.num),.string (encS su.den)]:=hR.d 23;have e19:av_.tmps.getD 110 undef=.bool true:=hR.g 19;have hq:=run_eqlR (eqR_iff.2 (rfl:su=su));refine gSq (b:=true) e19 ?_;go_simp;exact hK _ _ rfl rB
    ·have e19:av_.tmps.getD 110 undef=.bool true:=hR.d 19;have e24:av_.tmps.getD 115 undef=.bool true:=hR.d 24;refine pSq ?_;go_simp;exact hK _ _ rfl rB
    ·have e25:av_.tmps.getD 116 undef=.bool true:=hR.d 25;refine pSq ?_;go_simp;exact hK _ _ rfl rB
   ·intro sv_ w hS hb;have e26:sv_ 6=.bool true:=hS 26 (by decide);simp only [over,ovL,Nat.reduceAdd,Nat.reduceLeDiff,Nat.reduceLT];have HB:=mH HB hb;have HBr:=mH HBr hb;have HX5_1:=uH hb HX5_1;have HX12_4:=uH hb HX12_4;have HX14_7:=uH hb HX14_7;have HX16_9:=uH hb HX16_9;have HX18_11:=uH hb HX18_11;have HX20_13:=uH hb HX20_13;obtain ⟨w21,hw⟩:∃w8,w8=w:=⟨_,rfl⟩;subst hw;rw [e26];clear hS hb e26;go_wp2_with fail;go_ret;exact ⟨rfl,by rw [HN0.out];exact HB.out⟩
end Go.Proofs.YtblgfmjlajhipaaGreatDoor
