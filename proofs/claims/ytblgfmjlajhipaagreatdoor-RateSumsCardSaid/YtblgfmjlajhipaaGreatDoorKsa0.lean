/- RateSums: contracts and the law's walk. Each theorem names its conditions. -/
import Derived.OwnWalk
import Derived.Laws.AppendOwn
import Derived.Deep.QuietTactic
import Derived.BigQuiet
import Derived.Lib.IndexBytes
import Derived.Deep.LoopGhost
import Derived.Test.YtblgfmjlajhipaaGreatDoorProg
import Derived.WalkKit
import Derived.WalkSpells
import Derived.WalkLawsBesides
import Derived.IntWalk
import Derived.Lib.Hide
import Derived.Laws.BitsAllLaws
import Derived.StillTailTactics
import Derived.Deep.OwnRows
import Derived.Lib.ConvBytes
import Derived.Below
import Derived.RangeFuncNested
import Derived.RangeFuncCalls
import Derived.RangeFuncLeaves
import Derived.Shelf.Abstract
import Derived.Lib.LaidIn
import Derived.RegionTactic
import Derived.KernelRfl
import Derived.OrdersIn
import Derived.Shelf.Strings.Trim
import Derived.Shelf.Small.Utf8
import Derived.Shelf.Small.Bits
import Derived.Shelf.Small.Strs
import Derived.Shelf.Strconv.Itoa0
import Derived.Shelf.Strings.Search1
import Derived.Shelf.Strings.Runes
import Derived.Shelf.Strings.AsciiSet
import Derived.Shelf.Unicode.DecodeSlow
import Derived.Shelf.Unicode.DecodeAny
import Derived.Ground.SlgmProg
import Derived.Shelf.SortM.Plain
import Derived.Shelf.SortM.SortNone
import Derived.Laws.AppendOwnNone
import Derived.Test.YtblgfmjlajhipaaGreatDoorRows
import Derived.ProofKit
import Derived.OpenShut
import Derived.ChangeSame
import Derived.Test.YtblgfmjlajhipaaGreatDoorZb1
import Derived.Test.YtblgfmjlajhipaaGreatDoorZa5
import Derived.Test.YtblgfmjlajhipaaGreatDoorZa4
import Derived.Test.YtblgfmjlajhipaaGreatDoorZa3
import Derived.Test.YtblgfmjlajhipaaGreatDoorZa0
import Derived.Test.YtblgfmjlajhipaaGreatDoorZa1
import Derived.Test.YtblgfmjlajhipaaGreatDoorZa2
import Derived.Test.YtblgfmjlajhipaaGreatDoorZb2
import Derived.Test.YtblgfmjlajhipaaGreatDoorZb4
import Derived.Test.YtblgfmjlajhipaaGreatDoorZb0
import Derived.Test.YtblgfmjlajhipaaGreatDoorZa9
import Derived.Test.YtblgfmjlajhipaaGreatDoorZa8
import Derived.Test.YtblgfmjlajhipaaGreatDoorZa7
import Derived.Test.YtblgfmjlajhipaaGreatDoorZa6
import Derived.Test.YtblgfmjlajhipaaGreatDoorZb3
import Derived.Test.YtblgfmjlajhipaaGreatDoorZb5
set_option maxHeartbeats 16000000
set_option linter.unusedVariables false
namespace Go.Proofs.YtblgfmjlajhipaaGreatDoor
open Go.RowKit Go.Shelf
open Dgt
end Go.Proofs.YtblgfmjlajhipaaGreatDoor
namespace Go.Proofs.YtblgfmjlajhipaaGreatDoor
open Go.RowKit Go.Shelf
open Dgt
end Go.Proofs.YtblgfmjlajhipaaGreatDoor
namespace Go.Proofs.YtblgfmjlajhipaaGreatDoor
open Go.RowKit Go.Shelf
open Dgt
end Go.Proofs.YtblgfmjlajhipaaGreatDoor
namespace Go.Proofs.YtblgfmjlajhipaaGreatDoor
open Go.RowKit Go.Shelf
open Dgt
end Go.Proofs.YtblgfmjlajhipaaGreatDoor
namespace Go.Proofs.YtblgfmjlajhipaaGreatDoor
open Go.RowKit Go.Shelf
open Dgt
theorem rminus_any (vu vv:Value) (U V:List Nat) (w:World) (hu:LimR w vu U) (hv:LimR w vv V) (hle:valB 16777216 V≤valB 16777216 U) (hlen:V.length≤U.length) (hl9:U.length≤30000000) :
  Calls Tryz.prog 94 #[vu,vv] w fun e w' =>∃v',e=.returned v' ∧LimR w' v' (digs 16777216 (valB 16777216 U-valB 16777216 V))∧Below w.heap.size w w' :=
 (rminus_ok vu vv U V w hu hv hle hlen hl9).mono fun e w' ⟨v',h1,h2,h3,h4⟩=>⟨v',h1,h2,h4⟩
set_option maxRecDepth 100000 in
theorem rSub_any (a b:ByteArray) (w:World) (ha:a.size≤9000000) (hb:b.size≤9000000) :
  Gv 55 #[.string a,.string b] w (.tuple #[.string (encS (numS a-numS b)),.bool (decide (numS b≤numS a))]):=by
 unfold Gv;have HCM:=Lib.hid (rCmp_any a b · (by omega) (by omega));have OA:=Lib.hid (rof_any a · (by omega));have OB:=Lib.hid (rof_any b · (by omega));have la:(digs 16777216 (numS a)).length≤9000000:=Nat.le_trans (digs_len_le (by decide) (Nat.lt_of_lt_of_le (numS_lt a) (Nat.pow_le_pow_left (by decide) _))) ha;obtain ⟨A,hA⟩:∃A,numS a=A:=⟨_,rfl⟩;obtain ⟨B,hB⟩:∃B,numS b=B:=⟨_,rfl⟩;rw [hA] at OA la HCM;rw [hB] at OB HCM;rw [hA,hB];have LA:=Lib.hid la;clear ha hb la hA hB;rcases Nat.lt_or_ge A B with hlt|hge
 ·rw [cmpI_lt hlt] at HCM;have hE:Hid (encS (A-B)=⟨#[]⟩):=Lib.hid (by rw [show A-B=0 by omega,encS_zero]);have hD:Hid (decide (B≤A)=false):=Lib.hid (by rw [decide_eq_false_iff_not];omega);clear hlt;go_enter Tryz.func55,Tryz.ntmps55;go_wp2_with fail;refine (HCM.out _).mono ?_;rintro e w1 ⟨rfl,rfl⟩;go_wp2_with fail;go_ret2;exact ⟨by rw [hE.out,hD.out];rfl,Below.refl _ _⟩
 ·obtain ⟨c,hc,hc0⟩:=cmp_ge hge;rw [hc] at HCM;have hc0' :¬c<0:=by omega
  have hD:Hid (decide (B≤A)=true):=Lib.hid (by rw [decide_eq_true_eq];omega);have HGE:=Lib.hid hge;have HLN:=Lib.hid (digs_len_mono (B:=16777216) (by decide) hge);clear hge hc hc0;go_enter Tryz.func55,Tryz.ntmps55;go_wp2_with fail;refine (HCM.out _).mono ?_;rintro e w1 ⟨rfl,rfl⟩;go_wp2_with fail;refine (OA.out _).mono ?_;rintro e w1 ⟨vu,rfl,hl,hb⟩;have HU:=Lib.hid hl;have HB:=Lib.hid hb;clear hl hb;go_wp2_with fail;refine (OB.out _).mono ?_;rintro e w2 ⟨vv,rfl,hl,hb⟩;have HU:=Lib.hid (HU.out.up hb);have HV:=Lib.hid hl;have HB:=mH HB hb;clear hl hb;go_wp2_with fail;refine (rminus_any _ _ _ _ _ HU.out HV.out (by rw [valB_digs (by decide),valB_digs (by decide)];exact HGE.out) HLN.out (by have:=LA.out;omega)).mono ?_;rintro e w3 ⟨vm,rfl,hl,hb⟩;rw [valB_digs (by decide),valB_digs (by decide)] at hl;have HM:=Lib.hid hl;have HB:=mH HB hb;clear hl hb;go_wp2_with fail
  refine (rnumber_any _ _ _ HM.out (Nat.le_trans (digs_len_mono (by decide) (Nat.sub_le _ _)) (by have:=LA.out;omega))).mono ?_;rintro e w4 ⟨rfl,hb⟩;rw [valB_digs (by decide)];have HB:=mH HB hb;clear hb;go_wp2_with fail;go_ret2;exact ⟨by rw [hD.out];rfl,HB.out⟩
end Go.Proofs.YtblgfmjlajhipaaGreatDoor
namespace Go.Proofs.YtblgfmjlajhipaaGreatDoor
open Go.RowKit Go.Shelf
open Dgt
def EWC (ba bb:Nat) (ra rb L:Rt) (X Y D:Nat) (xn:Bool):Nat→Value
 | 0=>.pointer (some ⟨ba,0,none⟩)
 | 1=>.bool xn
 | 2=>.string (encS X)
 | 3=>.string (encS Y)
 | 4=>.string (encS (X+Y))
 | 5=>.string (encS D)
 | 6=>.agg #[.bool L.neg,.string (encS L.num),.string (encS L.den)]
 | _=>undef
set_option maxRecDepth 100000 in
theorem rRatAdd_r {va vb:Value} {ra rb:Rt} {k:Nat} (ha:IsR va ra k) (hb:IsR vb rb k) (hk1:1≤k) (hk:k≤4000000) (wq:World) :
  Gv 19 #[va,vb] wq (rtV (addR ra rb)):=by
 unfold Gv;have HVA:=Lib.hid (fun w=>rvalue_r ha (by omega) w);have HVB:=Lib.hid (fun w=>rvalue_r hb (by omega) w);have za:=ha.rz hk1;have zb:=hb.rz hk1;have oka:=ha.ok;have okb:=hb.ok;have HX:=Lib.hid (fun w=>rMul_any (encS ra.num) (encS rb.den) w (Nat.le_trans (encS_size_lt za.1) (by omega)) (Nat.le_trans (encS_size_lt zb.2) (by omega)));simp only [numS_encS] at HX;have HY:=Lib.hid (fun w=>rMul_any (encS rb.num) (encS ra.den) w (Nat.le_trans (encS_size_lt zb.1) (by omega)) (Nat.le_trans (encS_size_lt za.2) (by omega)));simp only [numS_encS] at HY;have HD:=Lib.hid (fun w=>rMul_any (encS ra.den) (encS rb.den) w (Nat.le_trans (encS_size_lt za.2) (by omega)) (Nat.le_trans (encS_size_lt zb.2) (by omega)));simp only [numS_encS] at HD;have zx:=(za.1.mul zb.2).mono (j:=2*k) (by omega);have zy:=(zb.1.mul za.2).mono (j:=2*k) (by omega);have zd:=(za.2.mul zb.2).mono (j:=2*k) (by omega)
 have hdp:=Nat.mul_pos oka.pos okb.pos;have HE1:Hid (ra.neg=rb.neg→addR ra rb=low ra.neg (ra.num*rb.den+rb.num*ra.den) (ra.den*rb.den)):=Lib.hid fun h=>by unfold addR;rw [if_pos h]
 have HE2:Hid (¬ra.neg=rb.neg→rb.num*ra.den≤ra.num*rb.den→addR ra rb=low ra.neg (ra.num*rb.den-rb.num*ra.den) (ra.den*rb.den)):=Lib.hid fun h h2=>by unfold addR;rw [if_neg h,if_pos h2]
 have HE3:Hid (¬ra.neg=rb.neg→¬rb.num*ra.den≤ra.num*rb.den→addR ra rb=low rb.neg (rb.num*ra.den-ra.num*rb.den) (ra.den*rb.den)):=Lib.hid fun h h2=>by unfold addR;rw [if_neg h,if_neg h2]
 obtain ⟨Z,hZ⟩:∃Z,addR ra rb=Z:=⟨_,rfl⟩;obtain ⟨X,hX⟩:∃X,ra.num*rb.den=X:=⟨_,rfl⟩;obtain ⟨Y,hY⟩:∃Y,rb.num*ra.den=Y:=⟨_,rfl⟩;obtain ⟨D,hD⟩:∃D,ra.den*rb.den=D:=⟨_,rfl⟩;obtain ⟨xn,hxn⟩:∃b,ra.neg=b:=⟨_,rfl⟩;obtain ⟨yn,hyn⟩:∃b,rb.neg=b:=⟨_,rfl⟩;rw [hX] at HX zx;rw [hY] at HY zy;rw [hD] at HD zd hdp;simp only [hX,hY,hD,hZ,hxn,hyn] at HE1 HE2 HE3;rw [hxn] at HVA;rw [hyn] at HVB;rw [hZ];have sx:=Nat.le_trans (encS_size_lt zx) (show 2*k≤9000000 by omega);have sy:=Nat.le_trans (encS_size_lt zy) (show 2*k≤9000000 by omega);have HS:=Lib.hid (fun w=>rAdd_any (encS X) (encS Y) w sx sy);have HU:=Lib.hid (fun w=>rSub_any (encS X) (encS Y) w sx sy);have HU2:=Lib.hid (fun w=>rSub_any (encS Y) (encS X) w sy sx);have HC:=Lib.hid (fun w=>rCmp_any (encS X) (encS Y) w (Nat.le_trans sx (by decide)) (Nat.le_trans sy (by decide)));simp only [numS_encS] at HS HU HU2 HC
 have HLQ:=Lib.hid (fun (b:Bool) (N:Nat) (hN:Sz N (2*k+1)) w=>rlowest_n b N D w hdp (hN.mono (by omega)) (zd.mono (by omega)));have ZX:Hid (Sz (X+Y) (2*k+1)∧Sz (X-Y) (2*k+1)∧Sz (Y-X) (2*k+1)):=Lib.hid ⟨zx.add zy,(zx.sub _).mono (by omega),(zy.sub _).mono (by omega)⟩;clear zx zy zd hdp hX hY hD hZ hxn hyn sx sy;obtain ⟨na,sa,da,rfl,-⟩:=ha;obtain ⟨nb,sb,db,rfl,-⟩:=hb;clear za zb hk1 hk oka okb;obtain ⟨W3,hW3,hxa,hxb,hxz,hb3⟩:=boxes3 wq (.cells #[.bool na,.string sa,.string da] 29) (.cells #[.bool nb,.string sb,.string db] 29) (.cells #[.bool false,.string ⟨#[]⟩,.string ⟨#[]⟩] 29);obtain ⟨⟨ca0,ca1,ca2⟩,-⟩:=rwC hxa;go_enter Tryz.func19,Tryz.ntmps19;go_wp2_with fail;obtain ⟨ba,hba⟩:∃b,wq.heap.size=b:=⟨_,rfl⟩;obtain ⟨bb,hbb⟩:∃b,ba+1=b:=⟨_,rfl⟩;obtain ⟨bz,hbz⟩:∃b,bb+1=b:=⟨_,rfl⟩;rw [hba] at hxa hxb hxz ⊢;rw [hbb] at hxb hxz ⊢;rw [hbz] at hxz ⊢
 have HNE:Hid (ba≠bb):=Lib.hid (by omega);have HNZA:Hid (bz≠ba):=Lib.hid (by omega);have HNZB:Hid (bz≠bb):=Lib.hid (by omega);refine (HVA.out _).mono ?_;rintro e w1 ⟨rfl,hb⟩;have hxa1:=hpU hb hxa;have hxb1:=hpU hb hxb;have hxz1:=hpU hb hxz;have hbl1:=hb3.trans (hb.mono hb3.size);clear hb hb3 hxa hxb hxz ca0 ca1 ca2 hW3;obtain ⟨⟨ca0,ca1,ca2⟩,hfa⟩:=rwC hxa1;have fa0:=hfa 0;have fa1:=hfa 1;have fa2:=hfa 2;obtain ⟨W4,hW4⟩:∃W4,((w1.setCell ⟨ba,0,none⟩ (.bool xn)).setCell ⟨ba,1,none⟩ (.string (encS ra.num))).setCell ⟨ba,2,none⟩ (.string (encS ra.den))=W4:=⟨_,rfl⟩;have hxa4:W4.heap[ba]? =some (.cells #[.bool xn,.string (encS ra.num),.string (encS ra.den)] 29 (0,0)):=by rw [←hW4];exact row_set hxa1 _ _ _
 have hxb4:W4.heap[bb]? =some (.cells #[.bool nb,.string sb,.string db] 29 (0,0)):=by rw [←hW4];simpa [World.setCell,Array.getElem?_modify,HNE.out] using hxb1
 have hxz4:W4.heap[bz]? =some (.cells #[.bool false,.string ⟨#[]⟩,.string ⟨#[]⟩] 29 (0,0)):=by rw [←hW4];simpa [World.setCell,Array.getElem?_modify,Ne.symm HNZA.out] using hxz1
 have hbl4:Below wq.heap.size wq W4:=by rw [←hW4];exact below_row hbl1 (by omega) _ _ _
 obtain ⟨⟨cb0,cb1,cb2⟩,-⟩:=rwC hxb4;have HXA:=Lib.hid hxa4;have HXB:=Lib.hid hxb4;have HXZ:=Lib.hid hxz4;have HB4:=Lib.hid hbl4;clear hfa hxa1 hxb1 hxz1 hbl1 hxa4 hxb4 hxz4 hbl4;go_wp2_with fail;refine (HVB.out _).mono ?_;rintro e w2 ⟨rfl,hb⟩;have hxa1:=hpU hb HXA.out;have hxb1:=hpU hb HXB.out;have hxz1:=hpU hb HXZ.out;have hbl1:=HB4.out.trans (hb.mono HB4.out.size);clear hb cb0 cb1 cb2 ca0 ca1 ca2 fa0 fa1 fa2 hW4;obtain ⟨⟨cb0,cb1,cb2⟩,hfb⟩:=rwC hxb1;have fb0:=hfb 0;have fb1:=hfb 1;have fb2:=hfb 2;obtain ⟨W5,hW5⟩:∃W5,((w2.setCell ⟨bb,0,none⟩ (.bool yn)).setCell ⟨bb,1,none⟩ (.string (encS rb.num))).setCell ⟨bb,2,none⟩ (.string (encS rb.den))=W5:=⟨_,rfl⟩;have hxb5:W5.heap[bb]? =some (.cells #[.bool yn,.string (encS rb.num),.string (encS rb.den)] 29 (0,0)):=by rw [←hW5];exact row_set hxb1 _ _ _
 have hxa5:W5.heap[ba]? =some (.cells #[.bool xn,.string (encS ra.num),.string (encS ra.den)] 29 (0,0)):=by rw [←hW5];simpa [World.setCell,Array.getElem?_modify,Ne.symm HNE.out] using hxa1
 have hxz5:W5.heap[bz]? =some (.cells #[.bool false,.string ⟨#[]⟩,.string ⟨#[]⟩] 29 (0,0)):=by rw [←hW5];simpa [World.setCell,Array.getElem?_modify,Ne.symm HNZB.out] using hxz1
 have HB5:Hid (Below wq.heap.size wq W5):=Lib.hid (by rw [←hW5];exact below_row hbl1 (by omega) _ _ _);have HXA:=Lib.hid hxa5;have HXB:=Lib.hid hxb5;have HXZ:=Lib.hid hxz5;clear hfb hxa1 hxb1 hxz1 hbl1 hxa5 hxz5;clear hxb5;obtain ⟨⟨ca0,ca1,ca2⟩,-⟩:=rwC HXA.out;obtain ⟨⟨cd0,cd1,cd2⟩,-⟩:=rwC HXB.out;go_wp2_with fail;refine (HX.out _).mono ?_;rintro e w3 ⟨rfl,hb⟩;have HXA:=uH hb HXA;have HXB:=uH hb HXB;have HXZ:=uH hb HXZ;have HB5:=Lib.hid (HB5.out.trans (hb.mono HB5.out.size));clear hb ca0 ca1 ca2 cd0 cd1 cd2 cb0 cb1 cb2 fb0 fb1 fb2 hW5;obtain ⟨⟨ca0,ca1,ca2⟩,-⟩:=rwC HXA.out;obtain ⟨⟨cd0,cd1,cd2⟩,-⟩:=rwC HXB.out;go_wp2_with fail;refine (HY.out _).mono ?_;rintro e w4 ⟨rfl,hb⟩;have HXA:=uH hb HXA;have HXB:=uH hb HXB;have HXZ:=uH hb HXZ;have HB5:=Lib.hid (HB5.out.trans (hb.mono HB5.out.size));clear hb ca0 ca1 ca2 cd0 cd1 cd2;obtain ⟨⟨ca0,ca1,ca2⟩,-⟩:=rwC HXA.out
 obtain ⟨⟨cd0,cd1,cd2⟩,-⟩:=rwC HXB.out;go_wp2_with fail;refine (HD.out _).mono ?_;rintro e w6 ⟨rfl,hb⟩;have HXA:=uH hb HXA;have HXB:=uH hb HXB;have HXZ:=uH hb HXZ;have HB5:=Lib.hid (HB5.out.trans (hb.mono HB5.out.size));clear hb ca0 ca1 ca2 cd0 cd1 cd2;obtain ⟨⟨ca0,ca1,ca2⟩,-⟩:=rwC HXA.out;obtain ⟨⟨cd0,cd1,cd2⟩,-⟩:=rwC HXB.out
 by_cases hxy:xn=yn
 ·have hq:=HE1.out hxy;obtain ⟨L,hL⟩:∃L,low xn (X+Y) D=L:=⟨_,rfl⟩;have HL1:=Lib.hid (HLQ.out xn (X+Y) ZX.out.1);rw [hL] at hq HL1;obtain rfl:L=Z:=hq.symm;clear hL hq;have HXY:=Lib.hid hxy;have hxy2:(xn==yn)=true:=by rw [hxy];simp
  clear hxy HE1 HE2 HE3;go_wp2_with fail;clear ca0 ca1 ca2 cd0 cd1 cd2;refine wpTl (w:=w6) (by kernel_rfl) (fun ix v _=>v=EWC ba bb ra rb L X Y D xn ix) 7 (fun t=>(decide (36≤t)&&decide (t<43))) (by decide) (by kernel_rfl) (by kernel_rfl) (by kernel_rfl) (by kernel_rfl) (by kernel_rfl) (fun _ _ _ _ _ h=>h) ?_ ?_
  ·intro i hi o listed a w hR K hK;have ho:=hR.at_;have hi:i<7:=hi;have hii:i=0∨i=1∨i=2∨i=3∨i=4∨i=5∨i=6:=by omega
   rcases hii with rfl|rfl|rfl|rfl|rfl|rfl|rfl
   ·simp at ho;subst ho;have b2:a.tmps.getD 2 undef=.pointer (some ⟨ba,0,none⟩):=hR.b 2;refine pSq ?_;go_simp;exact hK _ _ rfl rB
   ·simp at ho;subst ho;have e0:a.tmps.getD 36 undef=.pointer (some ⟨ba,0,none⟩):=hR.t 0;obtain ⟨⟨cx0,cx1,cx2⟩,-⟩:=rwC (hpU hR.below HXA.out);refine pSq ?_;go_simp;exact hK _ _ rfl rB
   ·simp at ho;subst ho;have b5:a.tmps.getD 5 undef=.string (encS X):=hR.b 5;refine pSq ?_;go_simp;exact hK _ _ rfl rB
   ·simp at ho;subst ho;have b6:a.tmps.getD 6 undef=.string (encS Y):=hR.b 6;refine pSq ?_;go_simp;exact hK _ _ rfl rB
   ·simp at ho;subst ho;have e2:a.tmps.getD 38 undef=.string (encS X):=hR.t 2;have e3:a.tmps.getD 39 undef=.string (encS Y):=hR.t 3;refine pSq ?_;go_simp;refine (HS.out w).mono ?_;rintro e w' ⟨rfl,hb⟩;exact hK _ _ (rfl) hb
   ·simp at ho;subst ho;have b7:a.tmps.getD 7 undef=.string (encS D):=hR.b 7;refine pSq ?_;go_simp;exact hK _ _ rfl rB
   ·simp at ho;subst ho;have e1:a.tmps.getD 37 undef=.bool xn:=hR.t 1;have e4:a.tmps.getD 40 undef=.string (encS (X+Y)):=hR.t 4;have e5:a.tmps.getD 41 undef=.string (encS D):=hR.t 5;refine pSq ?_;go_simp;refine (HL1.out w).mono ?_;rintro e w' ⟨rfl,hb⟩;exact hK _ _ (rfl) hb
  ·intro s w hS hb;have e6:s 42=.agg #[.bool L.neg,.string (encS L.num),.string (encS L.den)]:=hS 6 (by decide);simp only [over,ovL,Nat.reduceAdd,Nat.reduceLeDiff,Nat.reduceLT];obtain ⟨⟨cz0,cz1,cz2⟩,hfz⟩:=rwC (hpU hb HXZ.out);have fz0:=hfz 0;have fz1:=hfz 1;have fz2:=hfz 2;refine tail_step (n:=0) rfl rfl ?_;go_simp;simp only [wpTail];have hrow:=row_set (hpU hb HXZ.out) (.bool L.neg) (.string (encS L.num)) (.string (encS L.den));have hbw:=below_row (HB5.out.trans (hb.mono HB5.out.size)) (b:=bz) (by omega) (.bool L.neg) (.string (encS L.num)) (.string (encS L.den));have HROW:=Lib.hid hrow;have HBW:=Lib.hid hbw;clear hrow hbw hS hb cz0 cz1 cz2 hfz fz0 fz1 fz2;go_wp2_with fail;refine bodyPost_ret (rC1 HROW.out) rfl ?_;exact ⟨rfl,HBW.out⟩
 ·have HQ2:=Lib.hid (HE2.out hxy);have HQ3:=Lib.hid (HE3.out hxy);have hxy2:(xn==yn)=false:=by simp [hxy]
  clear HE1 HE2 HE3;go_wp2_with fail;refine (HC.out _).mono ?_;rintro e w7 ⟨rfl,rfl⟩
  by_cases hle:Y≤X
  ·have hq:=HQ2.out hle;obtain ⟨L,hL⟩:∃L,low xn (X-Y) D=L:=⟨_,rfl⟩;have HL1:=Lib.hid (HLQ.out xn (X-Y) ZX.out.2.1);rw [hL] at hq HL1;subst hq;clear hL;obtain ⟨c,hc,hc0⟩:=cmp_ge (m:=X) (n:=Y) hle;rw [hc];rw [decide_eq_true hle] at HU;clear hle hc;go_wp2_with fail;refine (HU.out _).mono ?_;rintro e w8 ⟨rfl,hb⟩;have HXA:=uH hb HXA;have HXB:=uH hb HXB;have HXZ:=uH hb HXZ;have HB5:=Lib.hid (HB5.out.trans (hb.mono HB5.out.size));clear hb ca0 ca1 ca2 cd0 cd1 cd2;obtain ⟨⟨ca0,ca1,ca2⟩,-⟩:=rwC HXA.out;obtain ⟨⟨cd0,cd1,cd2⟩,-⟩:=rwC HXB.out;go_wp2_with fail;refine (HL1.out _).mono ?_;rintro e w5 ⟨rfl,hb⟩;unfold rtV;obtain ⟨⟨cz0,cz1,cz2⟩,hfz⟩:=rwC (hpU hb HXZ.out);have fz0:=hfz 0;have fz1:=hfz 1;have fz2:=hfz 2;have hrow:=row_set (hpU hb HXZ.out) (.bool Z.neg) (.string (encS Z.num)) (.string (encS Z.den))
   have hbw:=below_row (HB5.out.trans (hb.mono HB5.out.size)) (b:=bz) (by omega) (.bool Z.neg) (.string (encS Z.num)) (.string (encS Z.den));have HROW:=Lib.hid hrow;have HBW:=Lib.hid hbw;clear hrow hbw hb hfz ca0 ca1 ca2 cd0 cd1 cd2;go_wp2_with fail;refine bodyPost_ret (rC1 HROW.out) rfl ?_;exact ⟨rfl,HBW.out⟩
  ·have hq:=HQ3.out hle;obtain ⟨L,hL⟩:∃L,low yn (Y-X) D=L:=⟨_,rfl⟩;have HL1:=Lib.hid (HLQ.out yn (Y-X) ZX.out.2.2);rw [hL] at hq HL1;subst hq;clear hL;rw [cmpI_lt (by omega)];rw [decide_eq_true (show X≤Y by omega)] at HU2;clear hle;go_wp2_with fail;refine (HU2.out _).mono ?_;rintro e w8 ⟨rfl,hb⟩;have HXA:=uH hb HXA;have HXB:=uH hb HXB;have HXZ:=uH hb HXZ;have HB5:=Lib.hid (HB5.out.trans (hb.mono HB5.out.size));clear hb ca0 ca1 ca2 cd0 cd1 cd2;obtain ⟨⟨ca0,ca1,ca2⟩,-⟩:=rwC HXA.out;obtain ⟨⟨cd0,cd1,cd2⟩,-⟩:=rwC HXB.out;go_wp2_with fail;refine (HL1.out _).mono ?_;rintro e w5 ⟨rfl,hb⟩;unfold rtV;obtain ⟨⟨cz0,cz1,cz2⟩,hfz⟩:=rwC (hpU hb HXZ.out);have fz0:=hfz 0;have fz1:=hfz 1;have fz2:=hfz 2;have hrow:=row_set (hpU hb HXZ.out) (.bool Z.neg) (.string (encS Z.num)) (.string (encS Z.den))
   have hbw:=below_row (HB5.out.trans (hb.mono HB5.out.size)) (b:=bz) (by omega) (.bool Z.neg) (.string (encS Z.num)) (.string (encS Z.den));have HROW:=Lib.hid hrow;have HBW:=Lib.hid hbw;clear hrow hbw hb hfz ca0 ca1 ca2 cd0 cd1 cd2;go_wp2_with fail;refine bodyPost_ret (rC1 HROW.out) rfl ?_;exact ⟨rfl,HBW.out⟩
theorem tmod_lt0 {a m:Int} (hm:0<m) (h:a.tmod m<0):a.tmod m+m=a%m:=by
 have h1:=Int.tmod_add_mul_tdiv a m;have h2:=Int.emod_add_mul_ediv a m;have h3:=Int.emod_nonneg a (show m≠0 by omega);have h4:=Int.emod_lt_of_pos a hm;have h5:=Int.tmod_lt_of_pos a hm;have h6: -m<a.tmod m:=by
  have:=Int.lt_tmod_of_pos a hm;omega
 have h7:m*(a.tdiv m-a/m)=a%m-a.tmod m:=by rw [Int.mul_sub];omega
 have h8:a.tdiv m-a/m=1:=by
  rcases Int.lt_trichotomy (a.tdiv m-a/m) 1 with h|h|h
  ·have:m*(a.tdiv m-a/m)≤m*0:=Int.mul_le_mul_of_nonneg_left (by omega) (by omega);omega
  ·exact h
  ·have:m*2≤m*(a.tdiv m-a/m):=Int.mul_le_mul_of_nonneg_left (by omega) (by omega);omega
 rw [h8] at h7;omega
theorem tmod_ge0 {a m:Int} (hm:0<m) (h:¬a.tmod m<0):a.tmod m=a%m:=by
 have h1:=Int.tmod_add_mul_tdiv a m;have h2:=Int.emod_add_mul_ediv a m;have h3:=Int.emod_nonneg a (show m≠0 by omega);have h4:=Int.emod_lt_of_pos a hm;have h5:=Int.tmod_lt_of_pos a hm;have h7:m*(a.tdiv m-a/m)=a%m-a.tmod m:=by rw [Int.mul_sub];omega
 have h8:a.tdiv m-a/m=0:=by
  rcases Int.lt_trichotomy (a.tdiv m-a/m) 0 with h|h|h
  ·have:m*(a.tdiv m-a/m)≤m*(-1):=Int.mul_le_mul_of_nonneg_left (by omega) (by omega);omega
  ·exact h
  ·have:m*1≤m*(a.tdiv m-a/m):=Int.mul_le_mul_of_nonneg_left (by omega) (by omega);omega
 rw [h8] at h7;omega
theorem Mod_any (a m:Int) (w:World) (ha: -9223372036854775808≤a) (ha2:a≤9223372036854775807) (hm:0<m) (hm2:m≤4611686018427387904) :
  Calls Tryz.prog 18 #[.int .i64 a,.int .i64 m] w fun e w' =>∃r:Nat,e=.returned (.int .i64 (r:Int))∧(r:Int)=a%m∧(r:Int)<m∧w=w' :=by
 obtain ⟨t,ht⟩:∃t,a.tmod m=t:=⟨_,rfl⟩;have h5:=Int.tmod_lt_of_pos a hm;have h6:=Int.lt_tmod_of_pos a hm;have h4:=Int.emod_lt_of_pos a hm;have h3:=Int.emod_nonneg a (show m≠0 by omega);rw [ht] at h5 h6;obtain ⟨r,hr⟩:∃r:Nat,a%m=(r:Int):=⟨(a%m).toNat,by omega⟩;have q0:¬m=0:=by omega
 have q1:IntKind.i64.wrap t=t:=IntWalk.i64_in _ (by omega)
 by_cases h:t<0
 ·have hq:=tmod_lt0 hm (by rw [ht];exact h);rw [ht,hr] at hq;have q2:IntKind.i64.wrap (t+m)=(r:Int):=by rw [hq];exact IntWalk.i64_in _ (by omega)
  have HR:Hid ((r:Int)=a%m∧(r:Int)<m):=hD ⟨hr.symm,by omega⟩;clear h3 h4 h5 h6 hr ha ha2;go_enter Tryz.func18,Tryz.ntmps18;go_wp2_with fail;go_ret;exact ⟨r,by first|rfl|(simp [hq]),HR.out.1,HR.out.2,rfl⟩
 ·have hq:=tmod_ge0 hm (by rw [ht];exact h);rw [ht,hr] at hq;have HR:Hid ((r:Int)=a%m∧(r:Int)<m):=hD ⟨hr.symm,by omega⟩;clear h3 h4 h5 h6 hr ha ha2;go_enter Tryz.func18,Tryz.ntmps18;go_wp2_with fail;go_ret;exact ⟨r,by first|rfl|(simp [hq]),HR.out.1,HR.out.2,rfl⟩
end Go.Proofs.YtblgfmjlajhipaaGreatDoor
namespace Go.Proofs.YtblgfmjlajhipaaGreatDoor
open Go.ChangeShapes Go.WideShapes Go.ChangeAt Go.RowKit
section
variable {H:Type} {enc:TypeId × Value→H} {P:Program}
theorem post_of_below {f:Func} {s:ChangeSpec} {apart fresh handsOn again:Bool} {W W' :World} {args:Array Value} {v:Value} {ds gs:List (DataW H)} {before pa pv:List MemPlace}
  (hW:DataW.Whole enc P f.params.toList s.vars apart W args.toList ds gs before)
  (hres:∀(b:Nat) (sp:Nat→Bool) (hd:Bool),DataW.TrodAll enc P W' b sp hd f.resultTypes.toList (v.resultList f.resultTypes.size) (s.fn H (ds++gs)).results [])
  (hargs:∀sp:Nat→Bool,(∀p ∈ before,sp p.block=true)→DataW.TrodAll enc P W' 0 sp true f.params.toList args.toList (s.fn H (ds++gs)).args pa)
  (hvars:∀sp:Nat→Bool,(∀p ∈ before,sp p.block=true)→DataW.TrodVars enc P W' sp s.vars (s.fn H (ds++gs)).vars pv)
  (hps:before=pa++pv) (hb:Below W.heap.size W W')
  (hok:∀(j:Nat) (t:TypeId) (r:Value),f.resultTypes[j]? =some t→(v.resultList f.resultTypes.size)[j]? =some r→Value.okWide P W' .any 0 t r) :
  s.post enc P f apart fresh handsOn again W args v W' :=by
 have hlt:∀p ∈ before,p.block<W.heap.size:=fun p hp=>hW.lt p hp
 have hold:∀p ∈ before,(fun b=>decide (b<W.heap.size)) p.block=true:=fun p hp=>by simpa using hlt p hp
 refine ⟨ds,gs,before,[],pa,pv,hW,hres _ _ _,hargs _ hold,hvars _ hold,World.keptBut_mono (fun p hp=>⟨hp,?_⟩) (hb.frame (· ∈ before)),fun _=> ?_⟩
 ·rw [hps,List.mem_append] at hp
  exact Or.inr hp
 ·obtain ⟨_,_,_,_,_,hz,hn⟩:=hW
  refine ⟨hok,_,_,([]++pa)++pv,⟨[]++pa,pv,trodAll_append (hargs _ (fun _ _=>rfl)) (hres _ _ _),hvars _ (fun _ _=>rfl),rfl,?_,?_⟩,?_⟩
  ·intro b off hp
   have hin:MemPlace.cell b off ∈ before:=by rw [hps];simpa using hp
   rw [hb.frozen (hlt _ hin)]
   exact hz b off hin
  ·intro ha
   have:=hn ha
   rw [hps] at this
   simpa using this
  ·intro p hp _
   rw [hps]
   simpa using hp
end
section
variable {H:Type} {enc:TypeId × Value→H} {P:Program} {w:World} {base b0:Nat} {sp:Nat→Bool} {held:Bool} {r:Reach}
theorem mapM_all {α β:Type} (f:α→Option β) (g:α→β):∀(l:List α),(∀i ∈ l,f i=some (g i))→l.mapM f=some (l.map g)
 | [],_=>rfl
 | a::l,h=>by
  rw [List.mapM_cons,h a (by simp),mapM_all f g l (fun i hi=>h i (by simp [hi]))]
  rfl
theorem take_one {α:Type} (l:List α) (i:Nat) (h:i<l.length):(l.drop i).take 1=[l[i]]:=by
 rw [List.drop_eq_getElem_cons h];rfl
theorem list2 {α:Type} (l:List α) (h:l.length=2):∃a b,l=[a,b]:=by
 match l,h with
 | [a,b],_=>exact ⟨a,b,rfl⟩
theorem open_ints {n:Nat} {k:IntKind} {t e:TypeId} {v:Value} {d:DataW H} {p:List MemPlace} (ht:P.underlying t=some (.array n e)) (he:P.underlying e=some (.int k)) (hce:P.cellsOf e=1) (hct:P.cellsOf t=n)
  (hval:Value.okWide P w r b0 t v) (h0:DataW.Trod enc P w base sp held t v d p) :
  ∃xs:List Int,xs.length=n∧v=.agg (xs.map (Value.int k)).toArray∧d=.agg (xs.map fun x=>.lit (.int k x))∧p=[]∧∀x ∈ xs,(Lit.int k x).wf=true:=by
 obtain ⟨cs,rfl,hsz⟩:∃cs,v=.agg cs∧cs.size=P.cellsOf t:=by
  cases v<;>simp [Value.okWide,ht] at hval
  exact ⟨_,rfl,hval.1⟩
 rw [hct] at hsz
 obtain ⟨fuel,hf⟩:=h0
 obtain ⟨ys,m,-,hx,-,hyl,hall⟩:=DataW.trod_array ht hf
 have hlen:(Value.agg cs).cells.toList.length=n:=by simpa [Value.cells] using hsz
 have hone:∀i,i<n→∃z:Int,(∃h:i<cs.toList.length,cs.toList[i]=.int k z)∧ys[i]? =some (.lit (.int k z),[])∧(Lit.int k z).wf=true:=by
  intro i hi
  have h1:=hall i hi
  have hil:i<cs.toList.length:=by simpa using hsz ▸ hi
  rw [hce,Nat.mul_one] at h1
  rw [show (Value.agg cs).cells.toList=cs.toList from rfl,take_one _ _ hil] at h1
  cases hy:ys[i]? with
  | none=>simp [hyl,hi] at hy
  | some y =>
   rw [hy] at h1
   obtain ⟨z,hz,hyz,hw⟩:=DataW.trod_int he h1
   exact ⟨z,⟨hil,by simpa using hz⟩,by rw [hyz],hw⟩
 obtain ⟨f,hfz⟩:∃f:Nat→Int,∀i,i<n→(∃h:i<cs.toList.length,cs.toList[i]=.int k (f i))∧ys[i]? =some (.lit (.int k (f i)),[])∧(Lit.int k (f i)).wf=true :=
  ⟨fun i=>if h:i<n then (hone i h).choose else 0,fun i hi=>by simp only [hi,dif_pos];exact (hone i hi).choose_spec⟩
 have e1:cs.toList=((List.range n).map f).map (Value.int k):=by
  refine List.ext_getElem (by simp [hsz]) fun i h1 h2=> ?_
  have hi:i<n:=by simpa using h2
  simp only [List.getElem_map,List.getElem_range]
  exact (hfz i hi).1.2
 have e2:ys=((List.range n).map f).map fun x=>(.lit (.int k x),[]):=by
  refine List.ext_getElem? fun i=> ?_
  by_cases hi:i<n
  ·rw [(hfz i hi).2.1];simp [hi]
  ·simp [hi,hyl]
 refine ⟨(List.range n).map f,by simp,?_,?_,?_,?_⟩
 ·rw [←e1]
 ·rw [Prod.mk.injEq] at hx
  rw [hx.1,e2];simp [List.map_map,Function.comp_def]
 ·rw [Prod.mk.injEq] at hx
  rw [hx.2,e2];simp
 ·intro x hx
  obtain ⟨i,hi,rfl⟩:=List.mem_map.1 hx
  exact (hfz i (by simpa using hi)).2.2
theorem shut_ints {n:Nat} {k:IntKind} {t e:TypeId} (ht:P.underlying t=some (.array n e)) (he:P.underlying e=some (.int k)) (hce:P.cellsOf e=1) (hct:P.cellsOf t=n) {xs:List Int} (hl:xs.length=n)
  (hw:∀x ∈ xs,(Lit.int k x).wf=true):DataW.Trod enc P w base sp held t (.agg (xs.map (Value.int k)).toArray) (.agg (xs.map fun x=>.lit (.int k x))) []:=by
 refine ⟨2,?_⟩
 have hm:((List.range n).mapM fun i=>DataW.trod enc P w base sp held 1 e (((xs.map (Value.int k)).drop (i*P.cellsOf e)).take (P.cellsOf e)))=some ((List.range n).map fun i=>((.lit (.int k (xs.getD i 0)):DataW H),([]:List MemPlace))):=by
  refine mapM_all _ _ _ fun i hi=> ?_
  have hi' :i<xs.length:=by rw [hl];simpa using hi
  rw [hce,Nat.mul_one,take_one _ _ (by simpa using hi')]
  simp [DataW.trod,he,hi',hw _ (List.getElem_mem hi')]
 have hm2:(List.range n).map (fun i=>((.lit (.int k (xs.getD i 0)):DataW H),([]:List MemPlace)))=xs.map fun x=>(.lit (.int k x),[]):=by
  refine List.ext_getElem (by simp [hl]) fun i h1 h2=> ?_
  have:i<xs.length:=by simpa using h2
  simp [this]
 rw [hm2] at hm
 show DataW.trod enc P w base sp held 2 t (xs.map (Value.int k))=_
 unfold DataW.trod
 rw [ht]
 split<;>simp_all [List.map_map,Function.comp_def]
end
end Go.Proofs.YtblgfmjlajhipaaGreatDoor
namespace Go.Proofs.YtblgfmjlajhipaaGreatDoor
open Go.RowKit Go.Shelf
open Dgt
theorem flat_len {n:Nat}:∀{l:List (List Value)},(∀r ∈ l,r.length=n)→l.flatten.length=l.length*n
 | [],_=>by simp
 | r::t,hn=>by
  rw [List.flatten_cons,List.length_append,hn r (by simp),flat_len (fun r hr=>hn r (by simp [hr])),List.length_cons,Nat.add_mul];omega
theorem LstC.cut {n:Nat} {W:World} {p:Option Addr} {len cap:Nat} {l:List (List Value)} (h:LstC n W (.slice p len cap) l) (m:Nat) (hm:m≤l.length):LstC n W (.slice p m cap) (l.take m):=by
 obtain ⟨p',cap',h1,h2,h3,h4⟩:=h;simp only [Value.slice.injEq] at h1;obtain ⟨rfl,rfl,rfl⟩:=h1;have hl:(l.take m).length=m:=by rw [List.length_take];omega
 refine ⟨p,cap,by rw [hl],by omega,by omega,fun i hi=> ?_⟩;obtain ⟨g,off,k1,k2,k3⟩:=h4 i (by omega);exact ⟨g,off,k1,k2,fun j u hu=>k3 j u (by rw [List.getElem_take] at hu;exact hu)⟩
end Go.Proofs.YtblgfmjlajhipaaGreatDoor
namespace Go.Proofs.YtblgfmjlajhipaaGreatDoor
open Go.RowKit Go.Shelf
def CutC (c m:Nat) (W:World) (v:Value) (n:Nat) (l:List (List Value)):Prop :=
 ∃p cap,v=.slice p n cap∧n≤cap∧n≤9223372036854775807∧l.length=min n m∧∀i (h:i<l.length),∃g off,p=some ⟨g,off,none⟩∧g<W.heap.size∧∀j u,l[i][j]? =some u→W.cell? ⟨g,off+i*c+j,none⟩=some u
theorem CutC.cut {c m:Nat} {W:World} {p:Option Addr} {n cap:Nat} {l:List (List Value)} (h:CutC c m W (.slice p n cap) n l) (hm:m≤1000):LstC c W (.slice p l.length cap) l:=by
 obtain ⟨p',cap',h1,h2,h3,h4,h5⟩:=h;simp only [Value.slice.injEq] at h1;obtain ⟨rfl,-,rfl⟩:=h1;exact ⟨p,cap,rfl,by omega,by omega,h5⟩
theorem CutC.up {c m:Nat} {A W:World} {v:Value} {n:Nat} {l:List (List Value)} (h:CutC c m A v n l) (hb:Below A.heap.size A W):CutC c m W v n l:=by
 obtain ⟨p,cap,h1,h2,h3,h4,h5⟩:=h;refine ⟨p,cap,h1,h2,h3,h4,fun i hi=> ?_⟩;obtain ⟨g,off,k1,k2,k3⟩:=h5 i hi;exact ⟨g,off,k1,Nat.lt_of_lt_of_le k2 hb.size,fun j u hu=>by rw [clU hb k2];exact k3 j u hu⟩
end Go.Proofs.YtblgfmjlajhipaaGreatDoor
namespace Go.Proofs.YtblgfmjlajhipaaGreatDoor
open Go.RowKit Go.Shelf
open Dgt
theorem q_zero:zeroR.q=0:=by decide
theorem q_quo {a b:Rt} (ha:a.Ok) (hb:b.Ok) (h:b.num≠0):(quoR a b).q=a.q/b.q:=by
 have hq:b.q≠0:=fun e=>h ((q_eq_zero hb).1 e)
 have e:(quoR a b).q*b.q=a.q:=by
  unfold quoR;rw [q_low _ (Nat.mul_pos ha.pos (by omega))];unfold Rt.q;rw [Rat.mkRat_mul_mkRat,iv_mul];have:iv (((a.neg != b.neg)) != b.neg) (a.num*b.den*b.num)=iv a.neg a.num*((b.num*b.den:Nat):Int):=by
   unfold iv;cases a.neg<;>cases b.neg<;>simp<;>grind
  rw [this];rw [show a.den*b.num*b.den=a.den*(b.num*b.den) by rw [Nat.mul_assoc]];exact Rat.mkRat_mul_right (by have:=Nat.mul_pos (show 0<b.num by omega) hb.pos;omega)
 rw [←e,Rat.mul_div_cancel hq]
theorem over_empty:∀{n:List DR} {last:Rt} {d fr to:Int},Chg n last d→to≤fr→overF n fr to=0
 | [],_,_,_,_,_,_=>rfl
 | e::t,last,d,fr,to,h,hto=>by
  cases h with
  | cons h1 h2 h3 =>
   unfold overF;rw [over_empty h3 hto,if_neg (by split<;>omega)];exact Rat.add_zero 0
theorem over_late:∀{n:List DR} {last:Rt} {d fr to:Int},Chg n last d→(∀e ∈ n,to≤e.1)→overF n fr to=0
 | [],_,_,_,_,_,_=>rfl
 | e::t,last,d,fr,to,h,hto=>by
  cases h with
  | cons h1 h2 h3 =>
   unfold overF;rw [over_late h3 (fun x hx=>hto x (List.mem_cons_of_mem _ hx)),if_neg (by have:=hto e (by simp);split<;>omega)];exact Rat.add_zero 0
theorem over_step:∀{n:List DR} {last:Rt} {d fr to:Int},Chg n last d→fr≤to→overF n fr (to+1)=overF n fr to+(if n.any (fun e=>decide (e.1≤to)) then (onL n last to).q else 0)
 | [],_,_,_,_,_,_=>by simp [overF];grind
 | e::t,last,d,fr,to,h,hto=>by
  cases h with
  | cons h1 h2 h3 =>
   by_cases he:e.1≤to
   ·unfold overF onL;rw [over_step h3 hto,if_pos he];simp only [List.any_cons,he,decide_true,Bool.true_or,if_true];cases t with
    | nil =>
     simp only [List.any_nil,Bool.false_eq_true,if_false,onL]
     by_cases hlo:max e.1 fr<to
     ·rw [if_pos hlo,if_pos (by omega)];rw [show (to+1-max e.1 fr:Int)=(to-max e.1 fr)+1 by omega];grind
     ·rw [if_neg hlo,if_pos (by omega),show (to+1-max e.1 fr:Int)=1 by omega];grind
    | cons y u =>
     simp only
     by_cases hy:y.1≤to
     ·rw [show min (to+1) y.1=min to y.1 by omega];simp only [List.any_cons,hy,decide_true,Bool.true_or,if_true]
      grind
     ·have hlate:∀x ∈ y::u,to<x.1:=fun x hx=>by
       rcases List.mem_cons.1 hx with rfl|hx
       ·omega
       ·cases h3 with|cons _ _ h5=>have:=h5.lt x hx;omega
      rw [show ((y::u).any fun e=>decide (e.1≤to))=false from by
       rw [Bool.eq_false_iff];intro hc;obtain ⟨x,hx,hx2⟩:=List.any_eq_true.1 hc;have:=hlate x hx;simp at hx2;omega]
      rw [onL_late hlate];simp only [Bool.false_eq_true,if_false];rw [show min (to+1) y.1=to+1 by omega,show min to y.1=to by omega]
      by_cases hlo:max e.1 fr<to
      ·rw [if_pos hlo,if_pos (by omega)];rw [show (to+1-max e.1 fr:Int)=(to-max e.1 fr)+1 by omega];grind
      ·rw [if_neg hlo,if_pos (by omega),show (to+1-max e.1 fr:Int)=1 by omega];grind
   ·have hlate:∀x ∈ e::t,to+1≤x.1:=fun x hx=>by
     rcases List.mem_cons.1 hx with rfl|hx
     ·omega
     ·have:=h3.lt x hx;omega
    have hch:Chg (e::t) last d:=.cons h1 h2 h3;rw [over_late hch hlate,over_late hch (fun x hx=>by have:=hlate x hx;omega)];rw [show ((e::t).any fun e=>decide (e.1≤to))=false from by
     rw [Bool.eq_false_iff];intro hc;obtain ⟨x,hx,hx2⟩:=List.any_eq_true.1 hc;have:=hlate x hx;simp at hx2;omega]
    simp only [Bool.false_eq_true,if_false];grind
theorem over_day {n:List DR} {d fr to:Int} (h:Chg n zeroR d) (hto:fr≤to):overF n fr (to+1)=overF n fr to+(onL n zeroR to).q:=by
 rw [over_step h hto]
 split
 ·rfl
 ·rename_i hn
  rw [onL_late (fun e he=> ?_),q_zero];simp at hn;have:=hn e.1 e.2 he;omega
def sumOn (n:List DR) (fr:Int):Nat→Rat
 | 0=>0
 | k+1=>sumOn n fr k+(onL n zeroR (fr+k)).q
theorem over_sum {n:List DR} {d fr:Int} (h:Chg n zeroR d):∀k:Nat,overF n fr (fr+k)=sumOn n fr k
 | 0=>by rw [over_empty h (by simp)];rfl
 | k+1=>by
  rw [show fr+((k+1:Nat):Int)=(fr+k)+1 by omega,over_day h (by omega),over_sum h k];rfl
theorem over_parts {n:List DR} {d fr:Int} (h:Chg n zeroR d) (j:Nat):∀k:Nat,overF n fr (fr+j+k)=overF n fr (fr+j)+overF n (fr+j) (fr+j+k)
 | 0=>by rw [over_empty (fr:=fr+j) h (by simp)];simp;grind
 | k+1=>by
  rw [show fr+j+((k+1:Nat):Int)=(fr+j+k)+1 by omega,over_day (fr:=fr) h (by omega),over_day (fr:=fr+j) h (by omega),over_parts h j k];grind
section
variable {D E:Nat} {B C x y:Rat}
theorem Gd.bound (h:Gd D B x) (hb:B≤C):Gd D C x:=⟨h.int,by have:=h.lo;grind,by have:=h.hi;grind⟩
theorem q_den {a:Rt} (ha:a.Ok):a.q*a.den=iv a.neg a.num:=by
 have h0:(a.den:Rat)≠0:=by
  intro h;have hp:=ha.pos;have e:(a.den:Rat)=((0:Nat):Rat):=by simpa using h
  rw [Rat.natCast_inj] at e;omega
 unfold Rt.q;rw [Rat.mkRat_eq_div];exact Rat.div_mul_cancel h0
theorem gd_parts {a:Rt} {c:Nat} (ha:a.Ok) (hD:0<D) (h:Gd D (c:Rat) a.q):a.den∣D∧a.num≤c*D:=by
 obtain ⟨z,hz⟩:=h.int;have hq:=q_den ha;have e:((iv a.neg a.num*(D:Int):Int):Rat)=((z*(a.den:Int):Int):Rat):=by
  rw [Rat.intCast_mul,Rat.intCast_mul,Rat.intCast_natCast,Rat.intCast_natCast];grind
 rw [Rat.intCast_inj] at e;have e2:a.num*D=z.natAbs*a.den:=by
  have:=congrArg Int.natAbs e
  rwa [Int.natAbs_mul,Int.natAbs_mul,iv_natAbs,Int.natAbs_natCast,Int.natAbs_natCast] at this
 have hd:a.den∣D:=(Nat.Coprime.dvd_of_dvd_mul_left (show Nat.Coprime a.den a.num from by
  have:=ha.one;unfold Nat.Coprime;rw [Nat.gcd_comm];exact this)) ⟨z.natAbs,by rw [e2,Nat.mul_comm]⟩
 refine ⟨hd,?_⟩;have z1:z≤c*D:=by
  have:((z:Int):Rat)≤((c*D:Int):Rat):=by
   rw [←hz,Rat.intCast_mul,Rat.intCast_natCast,Rat.intCast_natCast];exact Rat.mul_le_mul_of_nonneg_right h.hi (by rw [←Rat.intCast_natCast, ←Rat.intCast_zero,Rat.intCast_le_intCast];omega)
  rwa [Rat.intCast_le_intCast] at this
 have z2: -(c*D:Int)≤z:=by
  have:((-(c*D:Int):Int):Rat)≤(z:Rat):=by
   rw [←hz,Rat.intCast_neg,Rat.intCast_mul,Rat.intCast_natCast,Rat.intCast_natCast, ←Rat.neg_mul];exact Rat.mul_le_mul_of_nonneg_right h.lo (by rw [←Rat.intCast_natCast, ←Rat.intCast_zero,Rat.intCast_le_intCast];omega)
  rwa [Rat.intCast_le_intCast] at this
 have hz3:z.natAbs≤c*D:=by
  have:((c*D:Nat):Int)=(c:Int)*D:=by simp
  omega
 have hle:=Nat.le_of_dvd hD hd;have:a.num*D≤z.natAbs*D:=by rw [e2];exact Nat.mul_le_mul_left _ hle
 exact Nat.le_trans (Nat.le_of_mul_le_mul_right this hD) hz3
end
theorem gd_fit {a:Rt} {D c:Nat} (ha:a.Ok) (hD:0<D) (h:Gd D (c:Rat) a.q) (h1:D<2^400) (h2:c*D<2^400):fitT a=true:=by
 obtain ⟨k1,k2⟩:=gd_parts ha hD h;have:=Nat.le_of_dvd hD k1;unfold fitT;rw [decide_eq_true (bits_lt (Nat.lt_of_le_of_lt k2 h2)),decide_eq_true (bits_lt (Nat.lt_of_le_of_lt this h1))];rfl
section
variable {m:List BT}
end
section
variable {m:List BT} {x:Rt}
end
theorem drs_raw {g:List DR} (h:Gr g):drs (g.map rawD)=g:=by
 unfold drs;rw [List.filter_eq_self.2]
 ·rw [List.map_map]
  conv=>rhs;rw [←List.map_id g]
  refine List.map_congr_left fun e he=> ?_
  show (e.1,(rawR e.2).val)=e;rw [rawR_val (h.ok e he)]
 ·intro d hd;obtain ⟨e,he,rfl⟩:=List.mem_map.1 hd;unfold goodD rawD;have:=h.day e he;simp only [decide_eq_true this.1,decide_eq_true this.2,fitsR_raw (h.ok e he),h.fit e he,Bool.and_self]
theorem onF_ok {g:List DR} (h:Gr g) (day:Int):(onF g day).2.Ok∧fitT (onF g day).2=true:=by
 rcases onF_spec g day h.pos with ⟨h1,-⟩|⟨-,-,h3,-⟩
 ·rw [h1];exact ⟨zeroR_ok,fit_zero⟩
 ·rw [h3];exact rateOf_ok h _
theorem onT_ok {g:List DR} (h:Gr g) (day:Int):(onT g day).Ok∧fitT (onT g day)=true:=by
 unfold onT;split
 ·rw [of_zero];exact ⟨zeroR_ok,fit_zero⟩
 ·exact onF_ok h day
section
variable {n:List DR} {fr to:Int}
end
end Go.Proofs.YtblgfmjlajhipaaGreatDoor
