/- RatePieces: contracts and the law's walk. Each theorem names its conditions. -/
import Derived.RangeFuncNested
import Derived.RangeFuncCalls
import Derived.RangeFuncLeaves
import Derived.Shelf.Abstract
import Derived.Below
import Derived.Lib.LaidIn
import Derived.RegionTactic
import Derived.KernelRfl
import Derived.Lib.Hide
import Derived.OrdersIn
import Derived.OwnWalk
import Derived.Laws.AppendOwn
import Derived.Deep.QuietTactic
import Derived.BigQuiet
import Derived.Lib.IndexBytes
import Derived.Deep.LoopGhost
import Derived.Test.YtblgfmjlajhipaaGreatDoorProg
import Derived.WalkKit
import Derived.WalkSpells
import Derived.WalkLawsBesides
import Derived.IntWalk
import Derived.Laws.BitsAllLaws
import Derived.StillTailTactics
import Derived.Deep.OwnRows
import Derived.Lib.ConvBytes
import Derived.Shelf.Strings.Trim
import Derived.Shelf.Small.Utf8
import Derived.Shelf.Small.Bits
import Derived.Shelf.Small.Strs
import Derived.Shelf.Strconv.Itoa0
import Derived.Shelf.Strings.Search1
import Derived.Shelf.Strings.Runes
import Derived.Shelf.Strings.AsciiSet
import Derived.Shelf.Unicode.DecodeSlow
import Derived.Shelf.Unicode.DecodeAny
import Derived.Ground.SlgmProg
import Derived.Shelf.SortM.Plain
import Derived.Shelf.SortM.SortNone
import Derived.Laws.AppendOwnNone
import Derived.Test.YtblgfmjlajhipaaGreatDoorZa1
import Derived.Test.YtblgfmjlajhipaaGreatDoorZb1
import Derived.Test.YtblgfmjlajhipaaGreatDoorZa5
import Derived.Test.YtblgfmjlajhipaaGreatDoorZa4
import Derived.Test.YtblgfmjlajhipaaGreatDoorZa3
import Derived.Test.YtblgfmjlajhipaaGreatDoorZa0
import Derived.Test.YtblgfmjlajhipaaGreatDoorZa2
import Derived.Test.YtblgfmjlajhipaaGreatDoorZb2
import Derived.Test.YtblgfmjlajhipaaGreatDoorZb4
import Derived.Test.YtblgfmjlajhipaaGreatDoorZb0
import Derived.Test.YtblgfmjlajhipaaGreatDoorZa9
import Derived.Test.YtblgfmjlajhipaaGreatDoorZa8
import Derived.Test.YtblgfmjlajhipaaGreatDoorZa7
import Derived.Test.YtblgfmjlajhipaaGreatDoorZa6
import Derived.Test.YtblgfmjlajhipaaGreatDoorZb3
set_option maxHeartbeats 16000000
set_option linter.unusedVariables false
namespace Go.Proofs.YtblgfmjlajhipaaGreatDoor
open Go.RowKit
section
variable {m m' :Nat→Prop} {A B C:World}
end
variable {P:Program}
end Go.Proofs.YtblgfmjlajhipaaGreatDoor
namespace Go.Proofs.YtblgfmjlajhipaaGreatDoor
open Go.RowKit Go.Shelf
end Go.Proofs.YtblgfmjlajhipaaGreatDoor
namespace Go.Proofs.YtblgfmjlajhipaaGreatDoor
open Go
section
variable {P:Program} {ops:Array Oper} {Q:Exit→Act→World→Prop} {md:Region.Mode}
end
end Go.Proofs.YtblgfmjlajhipaaGreatDoor
namespace Go.Proofs.YtblgfmjlajhipaaGreatDoor
open Go Go.RowKit
section
variable {P:Program} {ops:Array Oper} {Q:Exit→Act→World→Prop} {T0:Array Value} {S:Array Bool→Nat→Value→World→Prop} {R:Array Bool→World→Prop}
end
section
variable {P:Program} {ops:Array Oper} {Q:Exit→Act→World→Prop} {T0:Array Value} {S:Nat→Value→World→Prop}
end
end Go.Proofs.YtblgfmjlajhipaaGreatDoor
namespace Go.Proofs.YtblgfmjlajhipaaGreatDoor
open Go
theorem getD_none {listed:Array Bool} {i:Nat} (h:listed.getD i true=false):listed.getD i false=false:=by
 rcases Nat.lt_or_ge i listed.size with h' |h'
 ·simp [h'] at h ⊢;exact h
 ·simp [Array.getElem?_eq_none h'] at h
section
variable {F:Fence} {n:Nat} {P:Program} {ops:Array Oper} {Q:Exit→Act→World→Prop} {md:Region.Mode}
end
end Go.Proofs.YtblgfmjlajhipaaGreatDoor
namespace Go.Proofs.YtblgfmjlajhipaaGreatDoor
open Go Go.RowKit
section
variable {F:Fence} {n:Nat} {P:Program} {ops:Array Oper} {Q:Exit→Act→World→Prop} {T0:Array Value} {S:Array Bool→Nat→Value→World→Prop} {R:Array Bool→World→Prop}
end
section
variable {F:Fence} {n:Nat} {P:Program} {ops:Array Oper} {Q:Exit→Act→World→Prop} {T0:Array Value} {S:Nat→Value→World→Prop}
end
end Go.Proofs.YtblgfmjlajhipaaGreatDoor
namespace Go.Proofs.YtblgfmjlajhipaaGreatDoor
open Go Go.RowKit
section
variable {P:Program} {ops:Array Oper} {Q:Exit→Act→World→Prop} {T0:Array Value}
end
end Go.Proofs.YtblgfmjlajhipaaGreatDoor
namespace Go.Proofs.YtblgfmjlajhipaaGreatDoor
open Go.RowKit
variable {P:Program}
end Go.Proofs.YtblgfmjlajhipaaGreatDoor
namespace Go.Proofs.YtblgfmjlajhipaaGreatDoor
open Go.RowKit Go.Shelf
open Dgt
end Go.Proofs.YtblgfmjlajhipaaGreatDoor
namespace Go.Proofs.YtblgfmjlajhipaaGreatDoor
open Go.RowKit Go.Shelf
open Dgt
end Go.Proofs.YtblgfmjlajhipaaGreatDoor
namespace Go.Proofs.YtblgfmjlajhipaaGreatDoor
open Go.RowKit Go.Shelf
open Dgt
end Go.Proofs.YtblgfmjlajhipaaGreatDoor
namespace Go.Proofs.YtblgfmjlajhipaaGreatDoor
open Go.RowKit Go.Shelf
open Dgt
end Go.Proofs.YtblgfmjlajhipaaGreatDoor
namespace Go.Proofs.YtblgfmjlajhipaaGreatDoor
open Go.RowKit Go.Shelf
open Dgt
theorem rminus_any (vu vv:Value) (U V:List Nat) (w:World) (hu:LimR w vu U) (hv:LimR w vv V) (hle:valB 16777216 V≤valB 16777216 U) (hlen:V.length≤U.length) (hl9:U.length≤30000000) :
  Calls Tryz.prog 94 #[vu,vv] w fun e w' =>∃v',e=.returned v' ∧LimR w' v' (digs 16777216 (valB 16777216 U-valB 16777216 V))∧Below w.heap.size w w' :=
 (rminus_ok vu vv U V w hu hv hle hlen hl9).mono fun e w' ⟨v',h1,h2,h3,h4⟩=>⟨v',h1,h2,h4⟩
set_option maxRecDepth 100000 in
theorem rSub_any (a b:ByteArray) (w:World) (ha:a.size≤9000000) (hb:b.size≤9000000) :
  Gv 55 #[.string a,.string b] w (.tuple #[.string (encS (numS a-numS b)),.bool (decide (numS b≤numS a))]):=by
 unfold Gv;have HCM:=Lib.hid (rCmp_any a b · (by omega) (by omega));have OA:=Lib.hid (rof_any a · (by omega));have OB:=Lib.hid (rof_any b · (by omega));have la:(digs 16777216 (numS a)).length≤9000000:=Nat.le_trans (digs_len_le (by decide) (Nat.lt_of_lt_of_le (numS_lt a) (Nat.pow_le_pow_left (by decide) _))) ha;obtain ⟨A,hA⟩:∃A,numS a=A:=⟨_,rfl⟩;obtain ⟨B,hB⟩:∃B,numS b=B:=⟨_,rfl⟩;rw [hA] at OA la HCM;rw [hB] at OB HCM;rw [hA,hB];have LA:=Lib.hid la;clear ha hb la hA hB;rcases Nat.lt_or_ge A B with hlt|hge
 ·rw [cmpI_lt hlt] at HCM;have hE:Hid (encS (A-B)=⟨#[]⟩):=Lib.hid (by rw [show A-B=0 by omega,encS_zero]);have hD:Hid (decide (B≤A)=false):=Lib.hid (by rw [decide_eq_false_iff_not];omega);clear hlt;go_enter Tryz.func55,Tryz.ntmps55;go_wp2_with fail;refine (HCM.out _).mono ?_;rintro e w1 ⟨rfl,rfl⟩;go_wp2_with fail;go_ret2;exact ⟨by rw [hE.out,hD.out];rfl,Below.refl _ _⟩
 ·obtain ⟨c,hc,hc0⟩:=cmp_ge hge;rw [hc] at HCM;have hc0' :¬c<0:=by omega
  have hD:Hid (decide (B≤A)=true):=Lib.hid (by rw [decide_eq_true_eq];omega);have HGE:=Lib.hid hge;have HLN:=Lib.hid (digs_len_mono (B:=16777216) (by decide) hge);clear hge hc hc0;go_enter Tryz.func55,Tryz.ntmps55;go_wp2_with fail;refine (HCM.out _).mono ?_;rintro e w1 ⟨rfl,rfl⟩;go_wp2_with fail;refine (OA.out _).mono ?_;rintro e w1 ⟨vu,rfl,hl,hb⟩;have HU:=Lib.hid hl;have HB:=Lib.hid hb;clear hl hb;go_wp2_with fail;refine (OB.out _).mono ?_;rintro e w2 ⟨vv,rfl,hl,hb⟩;have HU:=Lib.hid (HU.out.up hb);have HV:=Lib.hid hl;have HB:=mH HB hb;clear hl hb;go_wp2_with fail;refine (rminus_any _ _ _ _ _ HU.out HV.out (by rw [valB_digs (by decide),valB_digs (by decide)];exact HGE.out) HLN.out (by have:=LA.out;omega)).mono ?_;rintro e w3 ⟨vm,rfl,hl,hb⟩;rw [valB_digs (by decide),valB_digs (by decide)] at hl;have HM:=Lib.hid hl;have HB:=mH HB hb;clear hl hb;go_wp2_with fail
  refine (rnumber_any _ _ _ HM.out (Nat.le_trans (digs_len_mono (by decide) (Nat.sub_le _ _)) (by have:=LA.out;omega))).mono ?_;rintro e w4 ⟨rfl,hb⟩;rw [valB_digs (by decide)];have HB:=mH HB hb;clear hb;go_wp2_with fail;go_ret2;exact ⟨by rw [hD.out];rfl,HB.out⟩
end Go.Proofs.YtblgfmjlajhipaaGreatDoor
namespace Go.Proofs.YtblgfmjlajhipaaGreatDoor
open Go.RowKit Go.Shelf
open Dgt
set_option maxRecDepth 100000 in
theorem rRatSign_r {va:Value} {ra:Rt} {k:Nat} (ha:IsR va ra k) (hk:k≤9000000) (wq:World) :
  Gv 26 #[va] wq (.int .i64 (sgnR ra)):=by
 unfold Gv;have HVA:=hD (fun w=>rvalue_r ha (by omega) w);obtain ⟨na,sa,da,rfl,-⟩:=ha;clear hk;have hxa:=heap_alloc_new wq (.cells #[.bool na,.string sa,.string da] 29);have hb0:=(Below.refl wq.heap.size wq).alloc (Nat.le_refl _) (.cells #[.bool na,.string sa,.string da] 29);obtain ⟨W1,hW1⟩:∃W1,wq.alloc (.cells #[.bool na,.string sa,.string da] 29)=W1:=⟨_,rfl⟩;rw [hW1] at hxa hb0;obtain ⟨⟨ca0,ca1,ca2⟩,-⟩:=rwC hxa;have HXA:=hD hxa;have HB0:=hD hb0;clear hxa hb0;go_enter Tryz.func26,Tryz.ntmps26;go_wp2_with fail;refine (HVA.out _).mono ?_;rintro e w1 ⟨rfl,hb⟩;have HXA:=uH hb HXA;have HB0:=hD (HB0.out.trans (hb.mono HB0.out.size));clear hb ca0 ca1 ca2 hW1;obtain ⟨⟨cb0,cb1,cb2⟩,hfb⟩:=rwC HXA.out;have fb0:=hfb 0;have fb1:=hfb 1;have fb2:=hfb 2
 obtain ⟨W2,hW2⟩:∃W2,((w1.setCell ⟨wq.heap.size,0,none⟩ (.bool ra.neg)).setCell ⟨wq.heap.size,1,none⟩ (.string (encS ra.num))).setCell ⟨wq.heap.size,2,none⟩ (.string (encS ra.den))=W2:=⟨_,rfl⟩;have hx2:=row_set HXA.out (.bool ra.neg) (.string (encS ra.num)) (.string (encS ra.den));have HB2:=hD (below_row HB0.out (b:=wq.heap.size) (Nat.le_refl _) (.bool ra.neg) (.string (encS ra.num)) (.string (encS ra.den)));rw [hW2] at hx2 HB2;obtain ⟨⟨cc0,cc1,cc2⟩,-⟩:=rwC hx2;clear hfb hx2;obtain ⟨nn,hnn⟩:∃b,ra.neg=b:=⟨_,rfl⟩;obtain ⟨m,hm⟩:∃m,ra.num=m:=⟨_,rfl⟩;have HS:Hid (sgnR ra=if m=0 then 0 else if nn then-1 else 1):=hD (by unfold sgnR;rw [hnn,hm]);simp only [hnn,hm] at hW2 cc0 cc1 ⊢
 by_cases m0:m=0
 ·have q:=enc_nil m0;have qe:(encS m).toList.isEmpty=true:=by rw [q];rfl
  have HS2:Hid (sgnR ra=0):=hD (by rw [HS.out,if_pos m0]);clear HS m0 hnn hm;go_wp2_with fail;go_ret;exact ⟨by rw [HS2.out];rfl,HB2.out⟩
 ·have q:=enc_not_nil m0;have qe:=enc_some m0;have HS2:Hid (sgnR ra=if nn then-1 else 1):=hD (by rw [HS.out,if_neg m0]);clear HS m0 hnn hm;cases nn
  all_goals
   go_wp2_with fail;go_ret;exact ⟨by rw [HS2.out];rfl,HB2.out⟩
set_option maxRecDepth 100000 in
theorem rRatNeg_r {va:Value} {ra:Rt} {k:Nat} (ha:IsR va ra k) (hk:k≤9000000) (wq:World) :
  Gv 50 #[va] wq (rtV (negR ra)):=by
 unfold Gv;have HVA:=hD (fun w=>rvalue_r ha (by omega) w);have hok:=ha.ok;obtain ⟨na,sa,da,rfl,-⟩:=ha;clear hk;obtain ⟨W3,hW3,hxa,hxz,hb3⟩:=boxes2 wq (.cells #[.bool na,.string sa,.string da] 29) (.cells #[.bool false,.string ⟨#[]⟩,.string ⟨#[]⟩] 29);obtain ⟨⟨ca0,ca1,ca2⟩,-⟩:=rwC hxa;go_enter Tryz.func50,Tryz.ntmps50;go_wp2_with fail;obtain ⟨ba,hba⟩:∃b,wq.heap.size=b:=⟨_,rfl⟩;obtain ⟨bz,hbz⟩:∃b,ba+1=b:=⟨_,rfl⟩;refine (HVA.out _).mono ?_;rintro e w1 ⟨rfl,hb⟩;have hxa1:=hpU hb hxa;have hxz1:=hpU hb hxz;rw [hba] at hxa1 hxz1 ⊢;rw [hbz] at hxz1 ⊢;obtain ⟨⟨cb0,cb1,cb2⟩,hfb⟩:=rwC hxa1;have fb0:=hfb 0;have fb1:=hfb 1;have fb2:=hfb 2;obtain ⟨nn,hnn⟩:∃b,ra.neg=b:=⟨_,rfl⟩;obtain ⟨m,hm⟩:∃m,ra.num=m:=⟨_,rfl⟩;rw [hnn,hm];have hxa2:=row_set hxa1 (.bool nn) (.string (encS m)) (.string (encS ra.den))
 obtain ⟨W2,hW2⟩:∃W2,((w1.setCell ⟨ba,0,none⟩ (.bool nn)).setCell ⟨ba,1,none⟩ (.string (encS m))).setCell ⟨ba,2,none⟩ (.string (encS ra.den))=W2:=⟨_,rfl⟩;have hne:ba≠bz:=by omega
 have hxz2:W2.heap[bz]? =some (.cells #[.bool false,.string ⟨#[]⟩,.string ⟨#[]⟩] 29 (0,0)):=by rw [←hW2];simpa [World.setCell,Array.getElem?_modify,hne] using hxz1
 rw [hW2] at hxa2;have HB2:Hid (Below wq.heap.size wq W2):=hD (by rw [←hW2];exact below_row (hb3.trans (hb.mono hb3.size)) (by omega) _ _ _);obtain ⟨⟨cc0,cc1,cc2⟩,hfc⟩:=rwC hxa2;have fc0:=hfc 0
 by_cases m0:m=0
 ·have q:=enc_nil m0;have qe:(encS m).toList.isEmpty=true:=by rw [q];rfl
  have HN:Hid (negR ra=⟨nn,m,ra.den⟩):=hD (by
   unfold negR;rw [hnn,hm];have hz:nn=false:=by
    cases hq:nn
    ·rfl
    ·have:=hok.nz (by rw [hnn,hq]);omega
   rw [hz];simp [m0])
  obtain ⟨⟨cz0,cz1,cz2⟩,hfz⟩:=rwC hxz2;have fz0:=hfz 0;have fz1:=hfz 1;have fz2:=hfz 2;have HROW:=hD (row_set hxz2 (.bool nn) (.string (encS m)) (.string (encS ra.den)));have HBW:=hD (below_row HB2.out (b:=bz) (by omega) (.bool nn) (.string (encS m)) (.string (encS ra.den)));clear hxa hxz hxa1 hxz1 hxa2 hxz2 hb hb3 hfb hfc hfz hne hW3 m0 hnn hm hok;go_wp2_with fail;refine bodyPost_ret (rC1 HROW.out) rfl ?_;have hbwf:=HBW.out;refine ⟨?_,by first|exact hbwf|(rw [hba] at hbwf;exact hbwf)⟩;rw [HN.out];rfl
 ·have q:=enc_not_nil m0;have qe:=enc_some m0;obtain ⟨n2,hn2⟩:∃b,(!nn)=b:=⟨_,rfl⟩;have HN:Hid (negR ra=⟨n2,m,ra.den⟩):=hD (by
   unfold negR;rw [hnn,hm, ←hn2,decide_eq_true (Nat.pos_of_ne_zero m0),Bool.and_true])
  obtain ⟨W4,hW4⟩:∃W4,W2.setCell ⟨ba,0,none⟩ (.bool n2)=W4:=⟨_,rfl⟩;have hxa4:W4.heap[ba]? =some (.cells #[.bool n2,.string (encS m),.string (encS ra.den)] 29 (0,0)):=by rw [←hW4];simp [World.setCell,Array.getElem?_modify,hxa2]
  have hxz4:W4.heap[bz]? =some (.cells #[.bool false,.string ⟨#[]⟩,.string ⟨#[]⟩] 29 (0,0)):=by rw [←hW4];simpa [World.setCell,Array.getElem?_modify,hne] using hxz2
  have HB4:Hid (Below wq.heap.size wq W4):=hD (by rw [←hW4];exact HB2.out.setCell (p:=⟨ba,0,none⟩) (by show wq.heap.size≤ba;omega) _);obtain ⟨⟨cd0,cd1,cd2⟩,-⟩:=rwC hxa4;obtain ⟨⟨cz0,cz1,cz2⟩,hfz⟩:=rwC hxz4;have fz0:=hfz 0;have fz1:=hfz 1;have fz2:=hfz 2;have HROW:=hD (row_set hxz4 (.bool n2) (.string (encS m)) (.string (encS ra.den)));have HBW:=hD (below_row HB4.out (b:=bz) (by omega) (.bool n2) (.string (encS m)) (.string (encS ra.den)));clear hxa hxz hxa1 hxz1 hxa2 hxz2 hxa4 hxz4 hb hb3 hfb hfc hfz hne hW3 m0 hnn hm hok;go_wp2_with fail;refine bodyPost_ret (rC1 HROW.out) rfl ?_;have hbwf:=HBW.out;refine ⟨?_,by first|exact hbwf|(rw [hba] at hbwf;exact hbwf)⟩;rw [HN.out];rfl
def EWN (ba bb:Nat) (ra rb L:Rt):Nat→Value
 | 0=>.pointer (some ⟨ba,0,none⟩)
 | 1=>.bool ra.neg
 | 2=>.pointer (some ⟨bb,0,none⟩)
 | 3=>.bool rb.neg
 | 4=>.bool (ra.neg != rb.neg)
 | 5=>.pointer (some ⟨ba,1,none⟩)
 | 6=>.string (encS ra.num)
 | 7=>.pointer (some ⟨bb,1,none⟩)
 | 8=>.string (encS rb.num)
 | 9=>.string (encS (ra.num*rb.num))
 | 10=>.pointer (some ⟨ba,2,none⟩)
 | 11=>.string (encS ra.den)
 | 12=>.pointer (some ⟨bb,2,none⟩)
 | 13=>.string (encS rb.den)
 | 14=>.string (encS (ra.den*rb.den))
 | 15=>.agg #[.bool L.neg,.string (encS L.num),.string (encS L.den)]
 | _=>undef
set_option maxRecDepth 100000 in
theorem rRatMul_r {va vb:Value} {ra rb:Rt} {k:Nat} (ha:IsR va ra k) (hb:IsR vb rb k) (hk1:1≤k) (hk:k≤4000000) (wq:World) :
  Gv 28 #[va,vb] wq (rtV (mulR ra rb)):=by
 unfold Gv;have HVA:=hD (fun w=>rvalue_r ha (by omega) w);have HVB:=hD (fun w=>rvalue_r hb (by omega) w);have za:=ha.rz hk1;have zb:=hb.rz hk1;have oka:=ha.ok;have okb:=hb.ok;have HN:=hD (fun w=>rMul_any (encS ra.num) (encS rb.num) w (Nat.le_trans (encS_size_lt za.1) (by omega)) (Nat.le_trans (encS_size_lt zb.1) (by omega)));simp only [numS_encS] at HN;have HD:=hD (fun w=>rMul_any (encS ra.den) (encS rb.den) w (Nat.le_trans (encS_size_lt za.2) (by omega)) (Nat.le_trans (encS_size_lt zb.2) (by omega)));simp only [numS_encS] at HD;have HL:=hD (fun w=>rlowest_n (ra.neg != rb.neg) (ra.num*rb.num) (ra.den*rb.den) w (Nat.mul_pos oka.pos okb.pos) ((za.1.mul zb.1).mono (by omega)) ((za.2.mul zb.2).mono (by omega)));have HE:Hid (mulR ra rb=low (ra.neg != rb.neg) (ra.num*rb.num) (ra.den*rb.den)):=hD rfl;rw [HE.out];obtain ⟨L,hL⟩:∃L,low (ra.neg != rb.neg) (ra.num*rb.num) (ra.den*rb.den)=L:=⟨_,rfl⟩
 rw [hL] at HL ⊢;clear hL;obtain ⟨na,sa,da,rfl,-⟩:=ha;obtain ⟨nb,sb,db,rfl,-⟩:=hb;clear za zb hk1 hk oka okb;obtain ⟨W3,hW3,hxa,hxb,hxz,hb3⟩:=boxes3 wq (.cells #[.bool na,.string sa,.string da] 29) (.cells #[.bool nb,.string sb,.string db] 29) (.cells #[.bool false,.string ⟨#[]⟩,.string ⟨#[]⟩] 29);obtain ⟨⟨ca0,ca1,ca2⟩,-⟩:=rwC hxa;go_enter Tryz.func28,Tryz.ntmps28;go_wp2_with fail;obtain ⟨ba,hba⟩:∃b,wq.heap.size=b:=⟨_,rfl⟩;obtain ⟨bb,hbb⟩:∃b,ba+1=b:=⟨_,rfl⟩;obtain ⟨bz,hbz⟩:∃b,bb+1=b:=⟨_,rfl⟩;rw [hba] at hxa hxb hxz ⊢;rw [hbb] at hxb hxz ⊢;rw [hbz] at hxz ⊢;have HNE:Hid (ba≠bb):=hD (by omega);have HNZA:Hid (bz≠ba):=hD (by omega);have HNZB:Hid (bz≠bb):=hD (by omega);refine (HVA.out _).mono ?_;rintro e w1 ⟨rfl,hb⟩;have hxa1:=hpU hb hxa;have hxb1:=hpU hb hxb;have hxz1:=hpU hb hxz;have hbl1:=hb3.trans (hb.mono hb3.size);clear hb hb3 hxa hxb hxz ca0 ca1 ca2 hW3
 obtain ⟨⟨ca0,ca1,ca2⟩,hfa⟩:=rwC hxa1;have fa0:=hfa 0;have fa1:=hfa 1;have fa2:=hfa 2;obtain ⟨W4,hW4⟩:∃W4,((w1.setCell ⟨ba,0,none⟩ (.bool ra.neg)).setCell ⟨ba,1,none⟩ (.string (encS ra.num))).setCell ⟨ba,2,none⟩ (.string (encS ra.den))=W4:=⟨_,rfl⟩;have hxa4:W4.heap[ba]? =some (.cells #[.bool ra.neg,.string (encS ra.num),.string (encS ra.den)] 29 (0,0)):=by rw [←hW4];exact row_set hxa1 _ _ _
 have hxb4:W4.heap[bb]? =some (.cells #[.bool nb,.string sb,.string db] 29 (0,0)):=by rw [←hW4];simpa [World.setCell,Array.getElem?_modify,HNE.out] using hxb1
 have hxz4:W4.heap[bz]? =some (.cells #[.bool false,.string ⟨#[]⟩,.string ⟨#[]⟩] 29 (0,0)):=by rw [←hW4];simpa [World.setCell,Array.getElem?_modify,Ne.symm HNZA.out] using hxz1
 have hbl4:Below wq.heap.size wq W4:=by rw [←hW4];exact below_row hbl1 (by omega) _ _ _
 obtain ⟨⟨cb0,cb1,cb2⟩,-⟩:=rwC hxb4;have HXA:=hD hxa4;have HXB:=hD hxb4;have HXZ:=hD hxz4;have HB4:=hD hbl4;clear hfa hxa1 hxb1 hxz1 hbl1 hxa4 hxb4 hxz4 hbl4;go_wp2_with fail;refine (HVB.out _).mono ?_;rintro e w2 ⟨rfl,hb⟩;have hxa1:=hpU hb HXA.out;have hxb1:=hpU hb HXB.out;have hxz1:=hpU hb HXZ.out;have hbl1:=HB4.out.trans (hb.mono HB4.out.size);clear hb cb0 cb1 cb2 ca0 ca1 ca2 fa0 fa1 fa2 hW4;obtain ⟨⟨cb0,cb1,cb2⟩,hfb⟩:=rwC hxb1;have fb0:=hfb 0;have fb1:=hfb 1;have fb2:=hfb 2;obtain ⟨W5,hW5⟩:∃W5,((w2.setCell ⟨bb,0,none⟩ (.bool rb.neg)).setCell ⟨bb,1,none⟩ (.string (encS rb.num))).setCell ⟨bb,2,none⟩ (.string (encS rb.den))=W5:=⟨_,rfl⟩;have hxb5:W5.heap[bb]? =some (.cells #[.bool rb.neg,.string (encS rb.num),.string (encS rb.den)] 29 (0,0)):=by rw [←hW5];exact row_set hxb1 _ _ _
 have hxa5:W5.heap[ba]? =some (.cells #[.bool ra.neg,.string (encS ra.num),.string (encS ra.den)] 29 (0,0)):=by rw [←hW5];simpa [World.setCell,Array.getElem?_modify,Ne.symm HNE.out] using hxa1
 have hxz5:W5.heap[bz]? =some (.cells #[.bool false,.string ⟨#[]⟩,.string ⟨#[]⟩] 29 (0,0)):=by rw [←hW5];simpa [World.setCell,Array.getElem?_modify,Ne.symm HNZB.out] using hxz1
 have HB5:Hid (Below wq.heap.size wq W5):=hD (by rw [←hW5];exact below_row hbl1 (by omega) _ _ _);have HXA:=hD hxa5;have HXB:=hD hxb5;have HXZ:=hD hxz5;clear hfb hxa1 hxb1 hxz1 hbl1 hxa5 hxz5;clear hxb5;go_wp2_with fail;clear cb0 cb1 cb2 fb0 fb1 fb2 hW5;refine wpTl (w:=W5) (by kernel_rfl) (fun ix v _=>v=EWN ba bb ra rb L ix) 16 (fun t=>(decide (9≤t)&&decide (t<25))) (by decide) (by kernel_rfl) (by kernel_rfl) (by kernel_rfl) (by kernel_rfl) (by kernel_rfl) (fun _ _ _ _ _ h=>h) ?_ ?_
 ·intro i hi o listed a w hR K hK;have ho:=hR.at_;have hi:i<16:=hi;have hii:i=0∨i=1∨i=2∨i=3∨i=4∨i=5∨i=6∨i=7∨i=8∨i=9∨i=10∨i=11∨i=12∨i=13∨i=14∨i=15:=by omega
  rcases hii with rfl|rfl|rfl|rfl|rfl|rfl|rfl|rfl|rfl|rfl|rfl|rfl|rfl|rfl|rfl|rfl
  ·simp at ho;subst ho;have b2:a.tmps.getD 2 undef=.pointer (some ⟨ba,0,none⟩):=hR.b 2;refine pSq ?_;go_simp;exact hK _ _ rfl rB
  ·simp at ho;subst ho;have e0:a.tmps.getD 9 undef=.pointer (some ⟨ba,0,none⟩):=hR.t 0;obtain ⟨⟨cx0,cx1,cx2⟩,-⟩:=rwC (hpU hR.below HXA.out);refine pSq ?_;go_simp;exact hK _ _ rfl rB
  ·simp at ho;subst ho;have b3:a.tmps.getD 3 undef=.pointer (some ⟨bb,0,none⟩):=hR.b 3;refine pSq ?_;go_simp;exact hK _ _ rfl rB
  ·simp at ho;subst ho;have e2:a.tmps.getD 11 undef=.pointer (some ⟨bb,0,none⟩):=hR.t 2;obtain ⟨⟨cx0,cx1,cx2⟩,-⟩:=rwC (hpU hR.below HXB.out);refine pSq ?_;go_simp;exact hK _ _ rfl rB
  ·simp at ho;subst ho;have e1:a.tmps.getD 10 undef=.bool ra.neg:=hR.t 1;have e3:a.tmps.getD 12 undef=.bool rb.neg:=hR.t 3;refine pSq ?_;go_simp;exact hK _ _ rfl rB
  ·simp at ho;subst ho;have b2:a.tmps.getD 2 undef=.pointer (some ⟨ba,0,none⟩):=hR.b 2;refine pSq ?_;go_simp;exact hK _ _ rfl rB
  ·simp at ho;subst ho;have e5:a.tmps.getD 14 undef=.pointer (some ⟨ba,1,none⟩):=hR.t 5;obtain ⟨⟨cx0,cx1,cx2⟩,-⟩:=rwC (hpU hR.below HXA.out);refine pSq ?_;go_simp;exact hK _ _ rfl rB
  ·simp at ho;subst ho;have b3:a.tmps.getD 3 undef=.pointer (some ⟨bb,0,none⟩):=hR.b 3;refine pSq ?_;go_simp;exact hK _ _ rfl rB
  ·simp at ho;subst ho;have e7:a.tmps.getD 16 undef=.pointer (some ⟨bb,1,none⟩):=hR.t 7;obtain ⟨⟨cx0,cx1,cx2⟩,-⟩:=rwC (hpU hR.below HXB.out);refine pSq ?_;go_simp;exact hK _ _ rfl rB
  ·simp at ho;subst ho;have e6:a.tmps.getD 15 undef=.string (encS ra.num):=hR.t 6;have e8:a.tmps.getD 17 undef=.string (encS rb.num):=hR.t 8;refine pSq ?_;go_simp;refine (HN.out w).mono ?_;rintro e w' ⟨rfl,hb⟩;exact hK _ _ (rfl) hb
  ·simp at ho;subst ho;have b2:a.tmps.getD 2 undef=.pointer (some ⟨ba,0,none⟩):=hR.b 2;refine pSq ?_;go_simp;exact hK _ _ rfl rB
  ·simp at ho;subst ho;have e10:a.tmps.getD 19 undef=.pointer (some ⟨ba,2,none⟩):=hR.t 10;obtain ⟨⟨cx0,cx1,cx2⟩,-⟩:=rwC (hpU hR.below HXA.out);refine pSq ?_;go_simp;exact hK _ _ rfl rB
  ·simp at ho;subst ho;have b3:a.tmps.getD 3 undef=.pointer (some ⟨bb,0,none⟩):=hR.b 3;refine pSq ?_;go_simp;exact hK _ _ rfl rB
  ·simp at ho;subst ho;have e12:a.tmps.getD 21 undef=.pointer (some ⟨bb,2,none⟩):=hR.t 12;obtain ⟨⟨cx0,cx1,cx2⟩,-⟩:=rwC (hpU hR.below HXB.out);refine pSq ?_;go_simp;exact hK _ _ rfl rB
  ·simp at ho;subst ho;have e11:a.tmps.getD 20 undef=.string (encS ra.den):=hR.t 11;have e13:a.tmps.getD 22 undef=.string (encS rb.den):=hR.t 13;refine pSq ?_;go_simp;refine (HD.out w).mono ?_;rintro e w' ⟨rfl,hb⟩;exact hK _ _ (rfl) hb
  ·simp at ho;subst ho;have e4:a.tmps.getD 13 undef=.bool (ra.neg != rb.neg):=hR.t 4;have e9:a.tmps.getD 18 undef=.string (encS (ra.num*rb.num)):=hR.t 9;have e14:a.tmps.getD 23 undef=.string (encS (ra.den*rb.den)):=hR.t 14;refine pSq ?_;go_simp;refine (HL.out w).mono ?_;rintro e w' ⟨rfl,hb⟩;exact hK _ _ (rfl) hb
 ·intro s w hS hb;have e15:s 24=.agg #[.bool L.neg,.string (encS L.num),.string (encS L.den)]:=hS 15 (by decide);simp only [over,ovL,Nat.reduceAdd,Nat.reduceLeDiff,Nat.reduceLT];obtain ⟨⟨cz0,cz1,cz2⟩,hfz⟩:=rwC (hpU hb HXZ.out);have fz0:=hfz 0;have fz1:=hfz 1;have fz2:=hfz 2;refine tail_step (n:=0) rfl rfl ?_;go_simp;simp only [wpTail];have hrow:=row_set (hpU hb HXZ.out) (.bool L.neg) (.string (encS L.num)) (.string (encS L.den));have hbw:=below_row (HB5.out.trans (hb.mono HB5.out.size)) (b:=bz) (by omega) (.bool L.neg) (.string (encS L.num)) (.string (encS L.den));have HROW:=hD hrow;have HBW:=hD hbw;clear hrow hbw hS hb cz0 cz1 cz2 hfz fz0 fz1 fz2;go_wp2_with fail;refine bodyPost_ret (rC1 HROW.out) rfl ?_;exact ⟨rfl,HBW.out⟩
end Go.Proofs.YtblgfmjlajhipaaGreatDoor
