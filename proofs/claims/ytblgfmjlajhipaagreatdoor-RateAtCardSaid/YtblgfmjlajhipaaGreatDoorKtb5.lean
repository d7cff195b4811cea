/- RateAt: contracts and the law's walk. Each theorem names its conditions. -/
import Derived.Shelf.SortM.Plain
import Derived.Shelf.SortM.SortNone
import Derived.Ground.GgzProg
import Derived.Ground.SlgmProg
import Derived.Maps.Own
import Derived.Maps.OwnOps
import Derived.Maps.OwnSet
import Derived.Maps.Views
import Derived.Shelf.SlIterI.Nil
import Derived.WalkKit
import Derived.Deep.LoopGhost
import Derived.Deep.QuietTactic
import Derived.BigQuiet
import Derived.Test.YtblgfmjlajhipaaGreatDoorProg
import Derived.WalkSpells
import Derived.WalkLawsBesides
import Derived.IntWalk
import Derived.Lib.Hide
import Derived.Laws.BitsAllLaws
import Derived.StillTailTactics
import Derived.Deep.OwnRows
import Derived.Lib.ConvBytes
import Derived.Below
import Derived.Shelf.Strings.Trim
import Derived.Shelf.Small.Utf8
import Derived.Shelf.Small.Bits
import Derived.Shelf.Small.Strs
import Derived.Shelf.Strconv.Itoa0
import Derived.Shelf.Strings.Search1
import Derived.Shelf.Strings.Runes
import Derived.Shelf.Strings.AsciiSet
import Derived.Shelf.Unicode.DecodeSlow
import Derived.Shelf.Unicode.DecodeAny
import Derived.Test.YtblgfmjlajhipaaGreatDoorKtb4
import Derived.Test.YtblgfmjlajhipaaGreatDoorZd3
import Derived.Test.YtblgfmjlajhipaaGreatDoorZd2
import Derived.Test.YtblgfmjlajhipaaGreatDoorKta9
import Derived.Test.YtblgfmjlajhipaaGreatDoorZb4
import Derived.Test.YtblgfmjlajhipaaGreatDoorKta2
import Derived.Test.YtblgfmjlajhipaaGreatDoorZb7
import Derived.Test.YtblgfmjlajhipaaGreatDoorZb5
import Derived.Test.YtblgfmjlajhipaaGreatDoorZa6
import Derived.Test.YtblgfmjlajhipaaGreatDoorZa7
import Derived.Test.YtblgfmjlajhipaaGreatDoorZa5
import Derived.Test.YtblgfmjlajhipaaGreatDoorZa4
import Derived.Test.YtblgfmjlajhipaaGreatDoorZa3
import Derived.Test.YtblgfmjlajhipaaGreatDoorZa0
import Derived.Test.YtblgfmjlajhipaaGreatDoorZa1
import Derived.Test.YtblgfmjlajhipaaGreatDoorKta0
import Derived.Test.YtblgfmjlajhipaaGreatDoorZa2
import Derived.Test.YtblgfmjlajhipaaGreatDoorZb6
import Derived.Test.YtblgfmjlajhipaaGreatDoorZb9
set_option maxHeartbeats 16000000
set_option linter.unusedVariables false
namespace Go.Proofs.YtblgfmjlajhipaaGreatDoor
open Go.RowKit Go.Shelf
open Dgt
def Eat_law_7_1 (fc:Rt) (bx:Rt) (nf:Rt) (tb:Int) (mb:Int) (nb:Int) (m:List BT) (k:Nat) (cgf:Nat) (gf:Nat) (bk5:Nat) (bk11:Nat):Nat→Value
 | 0=>.pointer (some ⟨bk11,3,none⟩)
 | 1=>.slice (some ⟨gf,0,none⟩) m.length cgf
 | 2=>.int .i64 (k:Int)
 | 3=>.pointer (some ⟨bk11,3,none⟩)
 | 4=>.slice (some ⟨gf,0,none⟩) m.length cgf
 | 5=>.int .i64 (k:Int)
 | 6=>.pointer (some ⟨gf,k*6,none⟩)
 | 7=>.pointer (some ⟨gf,k*6,none⟩)
 | 8=>.agg #[.bool bx.neg,.string (encS bx.num),.string (encS bx.den)]
 | 9=>.pointer (some ⟨bk5,1,none⟩)
 | 10=>.int .i64 tb
 | 11=>.int .i64 mb
 | 12=>.int .i64 nb
 | 13=>.agg #[.bool fc.neg,.string (encS fc.num),.string (encS fc.den)]
 | 14=>.agg #[.bool nf.neg,.string (encS nf.num),.string (encS nf.den)]
 | 15=>.pointer (some ⟨gf,k*6,none⟩)
 | 16=>.pointer (some ⟨gf,k*6,none⟩)
 | _=>undef
set_option maxRecDepth 100000 in
theorem at_law (p:Option Addr) (n cap:Nat) (l:List T3) (qa qb qc ta tb:Int) (hi:I3 l) (iq:I64 qa∧I64 qb∧I64 qc) (it:I64 ta∧I64 tb) (wq:World) (hl:Cut3 wq (.slice p n cap) n l) :
  Gv 4 #[.slice p n cap,.agg #[.int .i64 qa,.int .i64 qb,.int .i64 qc],.agg #[.int .i64 ta,.int .i64 tb]] wq (.bool true):=by
 unfold Gv;have HC3:=hD hl;have hmd:=fun w h=>Made_own p n cap l hi w h
 have hm0:=made_mild l;have hlen:madeN l=(madeB l).length:=by unfold madeB;rw [madeK_len]
 have hi0:=made_inv l;obtain ⟨m,e0⟩:∃x,madeB l=x:=⟨_,rfl⟩;rw [hlen] at hmd;rw [e0] at hmd hm0 hi0;have HMD:=hD hmd;have hmm:=hm0;have hs:=hmm.sch;have HMM:=hD hmm;have HS:=hD hs;clear hl hmd hlen e0;have ax:=amt_gd hmm (qa,qb,qc);have fx:=amt_fit hmm (qa,qb,qc);have AMx:=hD (fun v w h=>amount_any ⟨#[98,97,115,105,99]⟩ 1 0 v m qa qb qc hs iq.1 iq.2.1 iq.2.2 w h);obtain ⟨x,hx⟩:∃z,amtT m (qa,qb,qc)=z:=⟨_,rfl⟩;rw [hx] at ax fx AMx;clear hx;have vx:=amt_val hmm ax.1 ax.2;have HOx:=hD (And.intro ax.1 (And.intro fx vx));have hum:=up_mild hmm;have hul:=upB_len m;have hff:=up_falls hmm;have hw2:=fun v w h=>Up_own ⟨#[98,97,115,105,99]⟩ 1 0 v m hs w h
 obtain ⟨mu,hmu⟩:∃z,upB m=z:=⟨_,rfl⟩;rw [hmu] at hum hul hff hw2;have HU2:=hD hw2;have HUL:=hD hul;have HUS:=hD hum.sch;have HFF:=hD hff;have hvu:=amt_val hum ax.1 ax.2;have HXZ:=hD (fit_rz fx);have HYZ:=hD (fit_rz hvu);have HVU:=hD hvu;obtain ⟨y,hy⟩:∃z,valT mu x mu.length=z:=⟨_,rfl⟩;rw [hy] at HYZ;have HYE:=hD hy;have hml:=hs.pos;have hm8:=hs.le;have r1:=mod_in ta (show (0:Int)<(m.length:Int) by omega);have r2:=mod_in tb (show (0:Int)<30 by decide);have cm1:=fun w=>mod2 ta (m.length:Int) w it.1.1 it.1.2 (by omega) (by omega)
 have cm2:=fun w=>mod2 tb 30 w it.2.1 it.2.2 (by decide) (by decide)
 obtain ⟨k,hk⟩:∃k:Nat,ta%(m.length:Int)=(k:Int):=⟨(ta%(m.length:Int)).toNat,by omega⟩;rw [hk] at cm1 r1;obtain ⟨mb,hmb⟩:∃z,tb%30=z:=⟨_,rfl⟩;rw [hmb] at cm2 r2;obtain ⟨nb,hnb⟩:∃z,mb-5=z:=⟨_,rfl⟩;have HKL:Hid (k<m.length):=hD (by omega);have HNB:Hid (IntKind.i64.wrap (mb-5)=nb):=hD (wrap_in (by omega) hnb);have cr:=fun w=>rat_any nb 1 (by omega) (by decide) (by decide) w
 have hfo:(fracT nb 1).Ok:=frac_ok nb (by decide);have hfz:Rz (fracT nb 1) 50:=(quoR_sz (ofR_sz (n:=nb) (by omega) (by omega)) (ofR_sz (n:=1) (by decide) (by decide))).mono (by decide);obtain ⟨fc,hfc⟩:∃z,fracT nb 1=z:=⟨_,rfl⟩;rw [hfc] at cr hfo hfz;have ca:=fun w=>rRatAdd_r (IsR.of (hum.sch.frOk k) (hum.sch.frSz k)) (IsR.of hfo hfz) (by decide) (by decide) w
 have hnz:=addR_sz (hum.sch.frSz k) hfz;obtain ⟨bx,hbx⟩:∃z,frT mu k=z:=⟨_,rfl⟩;rw [hbx] at ca hnz;obtain ⟨bw,hbw⟩:∃z,rtT mu k=z:=⟨_,rfl⟩;have HBX:=hD hbx;have HBW:=hD hbw;obtain ⟨nf,hnf⟩:∃z,addR bx fc=z:=⟨_,rfl⟩;rw [hnf] at ca hnz;have HSZ:Hid (∀b ∈ m,Rz b.1 1000∧Rz b.2 1000):=hD fun b hb=>⟨fit_rz (hs.fit b hb).1,fit_rz (hs.fit b hb).2⟩
 have HSU:Hid (∀b ∈ mu,Rz b.1 1000∧Rz b.2 1000):=hD fun b hb=>⟨fit_rz (hum.sch.fit b hb).1,fit_rz (hum.sch.fit b hb).2⟩
 have HSF:Hid (∀b ∈ mu.set k (nf,rtT mu k),Rz b.1 1000∧Rz b.2 1000):=hD fun b hb=>by
  rcases List.mem_or_eq_of_mem_set hb with h1|rfl
  ·exact HSU.out b h1
  ·exact ⟨hnz.mono (by decide),(hum.sch.rtSz k).mono (by decide)⟩
 clear hmm hs hum hul hff hw2 hmu hvu hy hml hm8 r1 r2 hk hmb hnb hfo hfz hfc hnz hbx hbw hnf ax fx vx hm0 hi0 iq it hi;have C1:Hid (∀w,Gv 18 #[.int .i64 ta,.int .i64 (m.length:Int)] w (.int .i64 (k:Int))):=hD cm1;have C2:Hid (∀w,Gv 18 #[.int .i64 tb,.int .i64 30] w (.int .i64 mb)):=hD cm2;have C3:Hid (∀w,Gv 20 #[.int .i64 nb,.int .i64 1] w (.agg #[.bool fc.neg,.string (encS fc.num),.string (encS fc.den)])):=hD cr;have C4:Hid (∀w,Gv 19 #[rtV bx,rtV fc] w (.agg #[.bool nf.neg,.string (encS nf.num),.string (encS nf.den)])):=hD ca;clear cm1 cm2 cr ca;have C5:Hid (∀w,Gv 12 #[] w (.bool true)):=hD fun w=>sanity_any w
 have HB:=hD (Below.refl wq.heap.size wq);obtain ⟨n0,hn0⟩:∃n,n=wq.heap.size:=⟨_,rfl⟩;rw [←hn0];have HN0:=hD hn0;clear hn0;go_enter Tryz.func4,Tryz.ntmps4;obtain ⟨W1,bk4,hW1,hbk4,HX4_1,HB,HG4_1,hup⟩:=boxn HB HN0 (.cells #[.int .i64 qa,.int .i64 qb,.int .i64 qc] 34);clear hup;obtain ⟨W2,bk5,hW2,hbk5,HX5_2,HB,HG5_2,hup⟩:=boxn HB HN0 (.cells #[.int .i64 ta,.int .i64 tb] 35);have HL5_2:=(hup _ _ HX4_1).2;have HX4_1:=(hup _ _ HX4_1).1;clear hup;go_wp2_with fail;clear hW1 hbk4 hW2 hbk5;refine (C5.out _).mono ?_;rintro e w3 ⟨rfl,hb⟩;have HX4_1:=uH hb HX4_1;have HX5_2:=uH hb HX5_2;have HB:=mH HB hb;clear hb;go_wp2_with fail;refine (HMD.out _ (HC3.out.up HB.out)).mono ?_;rintro e w4 ⟨v9,rfl,hown,hb⟩;have HX4_1:=uH hb HX4_1;have HX5_2:=uH hb HX5_2;have HB:=mH HB hb;have HLM:=hD (own_lstK (l:=m.map rawB) (by rw [List.length_map];exact hown) (by rw [List.length_map];have:=HS.out.le;omega))
 obtain ⟨pm,cm,rfl⟩:=own_slice hown;clear hown hb;have HBr:=hD (Below.refl w4.heap.size w4);obtain ⟨W5,bk8,hW5,hbk8,HX8_3,HB,HG8_3,hup⟩:=boxn HB HN0 (.cells #[.string ⟨#[]⟩,.int .i64 0,.int .i64 0,.slice none 0 0] 26);obtain ⟨HBr,HGb8_3⟩:=allB hW5 hbk8 HBr;have HL8_3:=(hup _ _ HX5_2).2;have HX4_1:=(hup _ _ HX4_1).1;have HX5_2:=(hup _ _ HX5_2).1;clear hup;obtain ⟨W6,hW6,HX8_3,hs,f4a,f4b,f4c,f4d,k4a,k4b,k4c,k4d⟩:=put4_0_4 HX8_3 (.string ⟨#[98,97,115,105,99]⟩) (.int .i64 1) (.int .i64 0) (.slice pm m.length cm);have HB:=hs.bel (gN HN0 HG8_3) HB;have HX4_1:=hs.keep _ _ (en2 HL5_2 HL8_3) HX4_1;have HX5_2:=hs.keep _ _ (en1 HL8_3) HX5_2;have HBr:=hs.bel HGb8_3.out HBr;clear hs
 have C6:Hid (∀w,Below w4.heap.size w4 w→Gv 16 #[.agg #[.string ⟨#[98,97,115,105,99]⟩,.int .i64 1,.int .i64 0,.slice pm m.length cm],.agg #[.int .i64 qa,.int .i64 qb,.int .i64 qc]] w (.agg #[.bool x.neg,.string (encS x.num),.string (encS x.den)])):=hD fun w hp0=>AMx.out _ w (HLM.out.up hp0)
 have k5:=k1_ (i:=0) (u:=.string ⟨#[98,97,115,105,99]⟩) HX8_3 rfl;have k6:=k1_ (i:=1) (u:=.int .i64 1) HX8_3 rfl;have k7:=k1_ (i:=2) (u:=.int .i64 0) HX8_3 rfl;have k8:=k1_ (i:=3) (u:=.slice pm m.length cm) HX8_3 rfl;obtain ⟨k9a,k9b,k9c⟩:=c3 HX4_1;go_wp2_with fail;clear hW5 hbk8 f4a f4b f4c f4d k4a k4b k4c k4d hW6 k5 k6 k7 k8 k9a k9b k9c;refine (C6.out _ HBr.out).mono ?_;rintro e w7 ⟨rfl,hb⟩;have HX4_1:=uH hb HX4_1;have HX5_2:=uH hb HX5_2;have HX8_3:=uH hb HX8_3;have HBr:=mH HBr hb;have HB:=mH HB hb;clear hb;obtain ⟨W8,bk9,hW8,hbk9,HX9_10,HB,HG9_10,hup⟩:=boxZ HB HN0;obtain ⟨HBr,HGb9_10⟩:=allB hW8 hbk9 HBr;have HL9_10:=(hup _ _ HX8_3).2;have HX4_1:=(hup _ _ HX4_1).1;have HX5_2:=(hup _ _ HX5_2).1;have HX8_3:=(hup _ _ HX8_3).1;clear hup;obtain ⟨W9,hW9,HX9_10,hs,f11a,f11b,f11c,k11a,k11b,k11c⟩:=put3_0_3 HX9_10 (.bool x.neg) (.string (encS x.num)) (.string (encS x.den))
 have HB:=hs.bel (gN HN0 HG9_10) HB;have HX4_1:=hs.keep _ _ (en3 HL5_2 HL8_3 HL9_10) HX4_1;have HX5_2:=hs.keep _ _ (en2 HL8_3 HL9_10) HX5_2;have HX8_3:=hs.keep _ _ (en1 HL9_10) HX8_3;have HBr:=hs.bel HGb9_10.out HBr;clear hs;have k12:=k1_ (i:=0) (u:=.string ⟨#[98,97,115,105,99]⟩) HX8_3 rfl;have k13:=k1_ (i:=1) (u:=.int .i64 1) HX8_3 rfl;have k14:=k1_ (i:=2) (u:=.int .i64 0) HX8_3 rfl;have k15:=k1_ (i:=3) (u:=.slice pm m.length cm) HX8_3 rfl;go_wp2_with fail;clear hW8 hbk9 f11a f11b f11c k11a k11b k11c hW9 k12 k13 k14 k15;refine (HU2.out _ _ (HLM.out.up HBr.out)).mono ?_;rintro e w10 ⟨v9,rfl,hown,hb⟩;have HX4_1:=uH hb HX4_1;have HX5_2:=uH hb HX5_2;have HX8_3:=uH hb HX8_3;have HX9_10:=uH hb HX9_10;have HBr:=mH HBr hb;have HB:=mH HB hb;have HLu:=hD (own_lstK (l:=mu.map rawB) (by rw [List.length_map,HUL.out];exact hown) (by rw [List.length_map,HUL.out];have:=HS.out.le;omega))
 obtain ⟨pu,cu,rfl⟩:=own_slice hown;clear hown hb;have HLM:=hD (HLM.out.up HBr.out);have HBr:=hD (Below.refl w10.heap.size w10);obtain ⟨W11,bk10,hW11,hbk10,HX10_16,HB,HG10_16,hup⟩:=boxn HB HN0 (.cells #[.string ⟨#[]⟩,.int .i64 0,.int .i64 0,.slice none 0 0] 26);obtain ⟨HBr,HGb10_16⟩:=allB hW11 hbk10 HBr;have HL10_16:=(hup _ _ HX9_10).2;have HX4_1:=(hup _ _ HX4_1).1;have HX5_2:=(hup _ _ HX5_2).1;have HX8_3:=(hup _ _ HX8_3).1;have HX9_10:=(hup _ _ HX9_10).1;clear hup;obtain ⟨W12,hW12,HX10_16,hs,f17a,f17b,f17c,f17d,k17a,k17b,k17c,k17d⟩:=put4_0_4 HX10_16 (.string ⟨#[98,97,115,105,99]⟩) (.int .i64 1) (.int .i64 0) (.slice pu m.length cu);have HB:=hs.bel (gN HN0 HG10_16) HB;have HX4_1:=hs.keep _ _ (en4 HL5_2 HL8_3 HL9_10 HL10_16) HX4_1;have HX5_2:=hs.keep _ _ (en3 HL8_3 HL9_10 HL10_16) HX5_2;have HX8_3:=hs.keep _ _ (en2 HL9_10 HL10_16) HX8_3;have HX9_10:=hs.keep _ _ (en1 HL10_16) HX9_10
 have HBr:=hs.bel HGb10_16.out HBr;clear hs;have k18:=k1_ (i:=0) (u:=.string ⟨#[98,97,115,105,99]⟩) HX8_3 rfl;have k19:=k1_ (i:=1) (u:=.int .i64 1) HX8_3 rfl;have k20:=k1_ (i:=2) (u:=.int .i64 0) HX8_3 rfl;have k21:=k1_ (i:=3) (u:=.slice pm m.length cm) HX8_3 rfl;go_wp2_with fail;clear hW11 hbk10 f17a f17b f17c f17d k17a k17b k17c k17d hW12 k18 k19 k20 k21;have hlt9:=(Array.getElem?_eq_some_iff.1 HX10_16.out).1;have hge9HBr:=HBr.out.size;have hge9:=HB.out.size;rw [←HN0.out] at hge9;refine (HU2.out _ _ (HLM.out.up HBr.out)).mono ?_;rintro e w13 ⟨v9,rfl,hown,hb⟩;have HX4_1:=uH hb HX4_1;have HX5_2:=uH hb HX5_2;have HX8_3:=uH hb HX8_3;have HX9_10:=uH hb HX9_10;have HX10_16:=uH hb HX10_16;have HBr:=mH HBr hb;have HB:=mH HB hb;obtain ⟨gf,cgf,curgf,rfl,hgg,hNN,hcc,hzz,huu⟩:=own_open hown HS.out.pos
 have HXgf:=hD hNN;have HCgf:Hid (Curs curgf (mu.map rawB)):=hD huu;have HZgf:=hD (And.intro hcc hzz);have HGgf:Hid (n0≤gf):=hD (Nat.le_trans hge9 hgg);have HLgf:=hD (Nat.lt_of_lt_of_le hlt9 hgg);clear hlt9;have HGbgf:=hD (Nat.le_trans hge9HBr hgg);clear hge9HBr;clear hown hb hgg hNN hcc hzz huu hge9;obtain ⟨W14,bk11,hW14,hbk11,HX11_22,HB,HG11_22,hup⟩:=boxn HB HN0 (.cells #[.string ⟨#[]⟩,.int .i64 0,.int .i64 0,.slice none 0 0] 26);obtain ⟨HBr,HGb11_22⟩:=allB hW14 hbk11 HBr;have HL11_22:=(hup _ _ HXgf).2;have HX4_1:=(hup _ _ HX4_1).1;have HX5_2:=(hup _ _ HX5_2).1;have HX8_3:=(hup _ _ HX8_3).1;have HX9_10:=(hup _ _ HX9_10).1;have HX10_16:=(hup _ _ HX10_16).1;have HXgf:=(hup _ _ HXgf).1;clear hup;obtain ⟨W15,hW15,HX11_22,hs,f23a,f23b,f23c,f23d,k23a,k23b,k23c,k23d⟩:=put4_0_4 HX11_22 (.string ⟨#[98,97,115,105,99]⟩) (.int .i64 1) (.int .i64 0) (.slice (some ⟨gf,0,none⟩) m.length cgf)
 have HB:=hs.bel (gN HN0 HG11_22) HB;have HX4_1:=hs.keep _ _ (by have h0:=HL5_2.out;have h1:=HL8_3.out;have h2:=HL9_10.out;have h3:=HL10_16.out;have h4:=HLgf.out;have h5:=HL11_22.out;omega) HX4_1;have HX5_2:=hs.keep _ _ (en5 HL8_3 HL9_10 HL10_16 HLgf HL11_22) HX5_2;have HX8_3:=hs.keep _ _ (en4 HL9_10 HL10_16 HLgf HL11_22) HX8_3;have HX9_10:=hs.keep _ _ (en3 HL10_16 HLgf HL11_22) HX9_10;have HX10_16:=hs.keep _ _ (en2 HLgf HL11_22) HX10_16;have HXgf:=hs.keep _ _ (en1 HL11_22) HXgf;have HBr:=hs.bel HGb11_22.out HBr;clear hs;have k24:=k1_ (i:=0) (u:=.int .i64 ta) HX5_2 rfl;have k25:=k1_ (i:=3) (u:=.slice (some ⟨gf,0,none⟩) m.length cgf) HX11_22 rfl;go_wp2_with fail;clear hW14 hbk11 f23a f23b f23c f23d k23a k23b k23c k23d hW15 k24 k25;refine (C1.out _).mono ?_;rintro e w16 ⟨rfl,hb⟩;have HX4_1:=uH hb HX4_1;have HX5_2:=uH hb HX5_2;have HX8_3:=uH hb HX8_3;have HX9_10:=uH hb HX9_10
 have HX10_16:=uH hb HX10_16;have HXgf:=uH hb HXgf;have HX11_22:=uH hb HX11_22;have HBr:=mH HBr hb;have HB:=mH HB hb;clear hb;go_wp2_with fail;have HEgf:Hid (AtT w16 gf (k*6) bx bw):=hD (by have h:=curs_at HXgf.out HCgf.out (k:=k) (by rw [HUL.out];exact HKL.out);rw [HBX.out,HBW.out] at h;exact h);refine wpTl (w:=w16) (by kernel_rfl) (fun ix v _=>v=Eat_law_7_1 fc bx nf tb mb nb m k cgf gf bk5 bk11 ix) 17 (fun t=>(decide (31≤t)&&decide (t<48))) (by decide) (by kernel_rfl) (by kernel_rfl) (by kernel_rfl) (by kernel_rfl) (by kernel_rfl) (fun _ _ _ _ _ h=>h) ?_ ?_
 ·intro i hi ov_ listed av_ w hR K hK;have ho:=hR.at_;have hi:i<17:=hi;have hii:i=0∨i=1∨i=2∨i=3∨i=4∨i=5∨i=6∨i=7∨i=8∨i=9∨i=10∨i=11∨i=12∨i=13∨i=14∨i=15∨i=16:=by omega
  rcases hii with rfl|rfl|rfl|rfl|rfl|rfl|rfl|rfl|rfl|rfl|rfl|rfl|rfl|rfl|rfl|rfl|rfl<;>(simp at ho;subst ho)
  ·have b11:av_.tmps.getD 11 undef=.pointer (some ⟨bk11,0,none⟩):=hR.b 11;refine pSq ?_;go_simp;exact hK _ _ rfl rB
  ·have e0:av_.tmps.getD 31 undef=.pointer (some ⟨bk11,3,none⟩):=hR.t 0;have cx0:w.cell? ⟨bk11,3,none⟩=some (.slice (some ⟨gf,0,none⟩) m.length cgf):=by rw [Lib.cell_of_heap (hpU hR.below HX11_22.out)];rfl
   refine pSq ?_;go_simp;exact hK _ _ rfl rB
  ·have b12:av_.tmps.getD 12 undef=.int .i64 (k:Int):=hR.b 12;refine pSq ?_;go_simp;exact hK _ _ rfl rB
  ·have b11:av_.tmps.getD 11 undef=.pointer (some ⟨bk11,0,none⟩):=hR.b 11;refine pSq ?_;go_simp;exact hK _ _ rfl rB
  ·have e3:av_.tmps.getD 34 undef=.pointer (some ⟨bk11,3,none⟩):=hR.t 3;have cx0:w.cell? ⟨bk11,3,none⟩=some (.slice (some ⟨gf,0,none⟩) m.length cgf):=by rw [Lib.cell_of_heap (hpU hR.below HX11_22.out)];rfl
   refine pSq ?_;go_simp;exact hK _ _ rfl rB
  ·have b12:av_.tmps.getD 12 undef=.int .i64 (k:Int):=hR.b 12;refine pSq ?_;go_simp;exact hK _ _ rfl rB
  ·have e4:av_.tmps.getD 35 undef=.slice (some ⟨gf,0,none⟩) m.length cgf:=hR.t 4;have e5:av_.tmps.getD 36 undef=.int .i64 (k:Int):=hR.t 5;have hk3:(k:Int)<(m.length:Int):=by have:=HKL.out;omega
   refine pSq ?_;go_simp;exact hK _ _ rfl rB
  ·have e6:av_.tmps.getD 37 undef=.pointer (some ⟨gf,k*6,none⟩):=hR.t 6;refine pSq ?_;go_simp;exact hK _ _ rfl rB
  ·have e7:av_.tmps.getD 38 undef=.pointer (some ⟨gf,k*6,none⟩):=hR.t 7;obtain ⟨cx0,cx1,cx2,cx3,cx4,cx5⟩:=HEgf.out _ hR.below;refine pSq ?_;go_simp;exact hK _ _ rfl rB
  ·have b5:av_.tmps.getD 5 undef=.pointer (some ⟨bk5,0,none⟩):=hR.b 5;refine pSq ?_;go_simp;exact hK _ _ rfl rB
  ·have e9:av_.tmps.getD 40 undef=.pointer (some ⟨bk5,1,none⟩):=hR.t 9;have cx0:w.cell? ⟨bk5,1,none⟩=some (.int .i64 tb):=by rw [Lib.cell_of_heap (hpU hR.below HX5_2.out)];rfl
   refine pSq ?_;go_simp;exact hK _ _ rfl rB
  ·have e10:av_.tmps.getD 41 undef=.int .i64 tb:=hR.t 10;refine pSq ?_;go_simp;refine (C2.out w).mono ?_;rintro e w' ⟨rfl,hb⟩;exact hK _ _ (rfl) hb
  ·have e11:av_.tmps.getD 42 undef=.int .i64 mb:=hR.t 11;have hq:=HNB.out;refine pSq ?_;go_simp;exact hK _ _ rfl rB
  ·have e12:av_.tmps.getD 43 undef=.int .i64 nb:=hR.t 12;refine pSq ?_;go_simp;refine (C3.out w).mono ?_;rintro e w' ⟨rfl,hb⟩;exact hK _ _ (rfl) hb
  ·have e8:av_.tmps.getD 39 undef=.agg #[.bool bx.neg,.string (encS bx.num),.string (encS bx.den)]:=hR.t 8;have e13:av_.tmps.getD 44 undef=.agg #[.bool fc.neg,.string (encS fc.num),.string (encS fc.den)]:=hR.t 13;refine pSq ?_;go_simp;refine (C4.out w).mono ?_;rintro e w' ⟨rfl,hb⟩;exact hK _ _ (rfl) hb
  ·have e1:av_.tmps.getD 32 undef=.slice (some ⟨gf,0,none⟩) m.length cgf:=hR.t 1;have e2:av_.tmps.getD 33 undef=.int .i64 (k:Int):=hR.t 2;have hk3:(k:Int)<(m.length:Int):=by have:=HKL.out;omega
   refine pSq ?_;go_simp;exact hK _ _ rfl rB
  ·have e15:av_.tmps.getD 46 undef=.pointer (some ⟨gf,k*6,none⟩):=hR.t 15;refine pSq ?_;go_simp;exact hK _ _ rfl rB
 ·intro sv_ w hS hb;have e14:sv_ 45=.agg #[.bool nf.neg,.string (encS nf.num),.string (encS nf.den)]:=hS 14 (by decide);have e16:sv_ 47=.pointer (some ⟨gf,k*6,none⟩):=hS 16 (by decide);simp only [over,ovL,Nat.reduceAdd,Nat.reduceLeDiff,Nat.reduceLT];have HX4_1:=uH hb HX4_1;have HX5_2:=uH hb HX5_2;have HX8_3:=uH hb HX8_3;have HX9_10:=uH hb HX9_10;have HX10_16:=uH hb HX10_16;have HXgf:=uH hb HXgf;have HX11_22:=uH hb HX11_22;have HB:=mH HB hb;have HBr:=mH HBr hb;obtain ⟨w17,hw⟩:∃w8,w8=w:=⟨_,rfl⟩;subst hw;rw [e14,e16];clear hS hb e14 e16;have f26:w17.frozen? ⟨gf,k*6,none⟩=false:=frz0 HXgf.out (k*6);have f27:w17.frozen? ⟨gf,k*6+1,none⟩=false:=frz0 HXgf.out (k*6+1);have f28:w17.frozen? ⟨gf,k*6+2,none⟩=false:=frz0 HXgf.out (k*6+2)
  obtain ⟨k29a,k29b,k29c⟩:=cur3 (a:=k*6) (c:=k*6+1) (d:=k*6+2) HXgf.out (by have:=HZgf.out.2;have:=HKL.out;omega) (by have:=HZgf.out.2;have:=HKL.out;omega) (by have:=HZgf.out.2;have:=HKL.out;omega);have hB:=(((HB.out.setCell (p:=⟨gf,k*6,none⟩) (by rw [←HN0.out];exact HGgf.out) (.bool nf.neg)).setCell (p:=⟨gf,k*6+1,none⟩) (by rw [←HN0.out];exact HGgf.out) (.string (encS nf.num))).setCell (p:=⟨gf,k*6+2,none⟩) (by rw [←HN0.out];exact HGgf.out) (.string (encS nf.den)));have hN:(((w17.setCell ⟨gf,k*6,none⟩ (.bool nf.neg)).setCell ⟨gf,k*6+1,none⟩ (.string (encS nf.num))).setCell ⟨gf,k*6+2,none⟩ (.string (encS nf.den))).heap[gf]? =some (.cells ((((curgf.setIfInBounds (k*6) (.bool nf.neg)).setIfInBounds (k*6+1) (.string (encS nf.num))).setIfInBounds (k*6+2) (.string (encS nf.den)))) 42 (0,0)):=set3 HXgf.out _ _ _ _ _ _
  have HBr:=hD (((HBr.out.setCell (p:=⟨gf,k*6,none⟩) HGbgf.out (.bool nf.neg)).setCell (p:=⟨gf,k*6+1,none⟩) HGbgf.out (.string (encS nf.num))).setCell (p:=⟨gf,k*6+2,none⟩) HGbgf.out (.string (encS nf.den)));have hx4_1:(((w17.setCell ⟨gf,k*6,none⟩ (.bool nf.neg)).setCell ⟨gf,k*6+1,none⟩ (.string (encS nf.num))).setCell ⟨gf,k*6+2,none⟩ (.string (encS nf.den))).heap[bk4]? =_:=(row_else (row_else (row_else HX4_1.out (en5 HL5_2 HL8_3 HL9_10 HL10_16 HLgf) _) (en5 HL5_2 HL8_3 HL9_10 HL10_16 HLgf) _) (en5 HL5_2 HL8_3 HL9_10 HL10_16 HLgf) _);have HX4_1:=hD hx4_1;clear hx4_1;have hx5_2:(((w17.setCell ⟨gf,k*6,none⟩ (.bool nf.neg)).setCell ⟨gf,k*6+1,none⟩ (.string (encS nf.num))).setCell ⟨gf,k*6+2,none⟩ (.string (encS nf.den))).heap[bk5]? =_:=(row_else (row_else (row_else HX5_2.out (en4 HL8_3 HL9_10 HL10_16 HLgf) _) (en4 HL8_3 HL9_10 HL10_16 HLgf) _) (en4 HL8_3 HL9_10 HL10_16 HLgf) _)
  have HX5_2:=hD hx5_2;clear hx5_2;have hx8_3:(((w17.setCell ⟨gf,k*6,none⟩ (.bool nf.neg)).setCell ⟨gf,k*6+1,none⟩ (.string (encS nf.num))).setCell ⟨gf,k*6+2,none⟩ (.string (encS nf.den))).heap[bk8]? =_:=(row_else (row_else (row_else HX8_3.out (en3 HL9_10 HL10_16 HLgf) _) (en3 HL9_10 HL10_16 HLgf) _) (en3 HL9_10 HL10_16 HLgf) _);have HX8_3:=hD hx8_3;clear hx8_3;have hx9_10:(((w17.setCell ⟨gf,k*6,none⟩ (.bool nf.neg)).setCell ⟨gf,k*6+1,none⟩ (.string (encS nf.num))).setCell ⟨gf,k*6+2,none⟩ (.string (encS nf.den))).heap[bk9]? =_:=(row_else (row_else (row_else HX9_10.out (en2 HL10_16 HLgf) _) (en2 HL10_16 HLgf) _) (en2 HL10_16 HLgf) _);have HX9_10:=hD hx9_10;clear hx9_10
  have hx10_16:(((w17.setCell ⟨gf,k*6,none⟩ (.bool nf.neg)).setCell ⟨gf,k*6+1,none⟩ (.string (encS nf.num))).setCell ⟨gf,k*6+2,none⟩ (.string (encS nf.den))).heap[bk10]? =_:=(row_else (row_else (row_else HX10_16.out (en1 HLgf) _) (en1 HLgf) _) (en1 HLgf) _);have HX10_16:=hD hx10_16;clear hx10_16;have hx11_22:(((w17.setCell ⟨gf,k*6,none⟩ (.bool nf.neg)).setCell ⟨gf,k*6+1,none⟩ (.string (encS nf.num))).setCell ⟨gf,k*6+2,none⟩ (.string (encS nf.den))).heap[bk11]? =_:=(row_else (row_else (row_else HX11_22.out (ne1 HL11_22) _) (ne1 HL11_22) _) (ne1 HL11_22) _);have HX11_22:=hD hx11_22;clear hx11_22;obtain ⟨W18,hW18⟩:∃W,(((w17.setCell ⟨gf,k*6,none⟩ (.bool nf.neg)).setCell ⟨gf,k*6+1,none⟩ (.string (encS nf.num))).setCell ⟨gf,k*6+2,none⟩ (.string (encS nf.den)))=W:=⟨_,rfl⟩;rw [hW18] at HBr;rw [hW18] at hN hB HX4_1 HX5_2 HX8_3 HX9_10 HX10_16 HX11_22;have HXgf:=hD hN;have HB:=hD hB;clear hN hB
  refine tail_step (n:=0) rfl rfl ?_;go_simp
  try rw [hW18]
  clear f26 f27 f28 k29a k29b k29c hW18;simp only [wpTail];have HLF:Hid (LstK W18 (.slice (some ⟨gf,0,none⟩) m.length cgf) ((mu.set k (nf,rtT mu k)).map rawB)):=hD (by
   have hmu:=HUL.out;have hz:=HZgf.out;exact curs_lst HXgf.out (curs_from (by rw [hmu];exact HKL.out) HCgf.out (by rw [hmu];exact hz.2)) (by rw [List.length_map,List.length_set,hmu]) hz.1 (by have:=HS.out.le;omega))
  have HLM:=hD (HLM.out.up HBr.out);have HLu:=hD (HLu.out.up HBr.out);have HBr:=hD (Below.refl W18.heap.size W18);have C7:Hid (∀w,Below W18.heap.size W18 w→Gv 21 #[.agg #[.string ⟨#[98,97,115,105,99]⟩,.int .i64 1,.int .i64 0,.slice pu m.length cu],rtV x] w (.tuple #[.agg #[.bool y.neg,.string (encS y.num),.string (encS y.den)],.int .i64 0])):=hD fun w hp0=>by
   have h:=At_s ⟨#[98,97,115,105,99]⟩ 1 0 _ mu x HUS.out HOx.out.1 HOx.out.2.1 HVU.out w (HLu.out.up hp0);rw [HYE.out] at h;exact h
  have C8:Hid (∀w,Below W18.heap.size W18 w→Gv 13 #[.agg #[.string ⟨#[98,97,115,105,99]⟩,.int .i64 1,.int .i64 0,.slice pm m.length cm],rtV x] w (.bool true)):=hD fun w hp0=>agrees_s ⟨#[98,97,115,105,99]⟩ 1 0 _ m x HSZ.out HXZ.out w (HLM.out.up hp0)
  have C9:Hid (∀w,Below W18.heap.size W18 w→Gv 13 #[.agg #[.string ⟨#[98,97,115,105,99]⟩,.int .i64 1,.int .i64 0,.slice pu m.length cu],rtV x] w (.bool true)):=hD fun w hp0=>agrees_s ⟨#[98,97,115,105,99]⟩ 1 0 _ mu x HSU.out HXZ.out w (HLu.out.up hp0)
  have C10:Hid (∀w,Below W18.heap.size W18 w→Gv 13 #[.agg #[.string ⟨#[98,97,115,105,99]⟩,.int .i64 1,.int .i64 0,.slice (some ⟨gf,0,none⟩) m.length cgf],rtV x] w (.bool true)):=hD fun w hp0=>agrees_s ⟨#[98,97,115,105,99]⟩ 1 0 _ _ x HSF.out HXZ.out w (HLF.out.up hp0)
  have C11:Hid (∀w,Below W18.heap.size W18 w→Gv 13 #[.agg #[.string ⟨#[98,97,115,105,99]⟩,.int .i64 1,.int .i64 0,.slice pu m.length cu],rtV y] w (.bool true)):=hD fun w hp0=>agrees_s ⟨#[98,97,115,105,99]⟩ 1 0 _ mu y HSU.out HYZ.out w (HLu.out.up hp0)
  have C12:Hid (∀w,Below W18.heap.size W18 w→Gv 22 #[.agg #[.string ⟨#[98,97,115,105,99]⟩,.int .i64 1,.int .i64 0,.slice pm m.length cm]] w (.int .i64 0)):=hD fun w hp0=>Check_s ⟨#[98,97,115,105,99]⟩ 1 0 _ _ HS.out w (HLM.out.up hp0)
  have C13:Hid (∀w,Below W18.heap.size W18 w→Gv 23 #[.agg #[.string ⟨#[98,97,115,105,99]⟩,.int .i64 1,.int .i64 0,.slice pu m.length cu]] w (.bool true)):=hD fun w hp0=>Rise_s ⟨#[98,97,115,105,99]⟩ 1 0 _ _ HUS.out true HFF.out w (HLu.out.up hp0)
  have k30:=k1_ (i:=0) (u:=.string ⟨#[98,97,115,105,99]⟩) HX10_16 rfl;have k31:=k1_ (i:=1) (u:=.int .i64 1) HX10_16 rfl;have k32:=k1_ (i:=2) (u:=.int .i64 0) HX10_16 rfl;have k33:=k1_ (i:=3) (u:=.slice pu m.length cu) HX10_16 rfl;obtain ⟨k34a,k34b,k34c⟩:=c3 HX9_10;go_wp2_with fail;clear k30 k31 k32 k33 k34a k34b k34c;refine (C7.out _ HBr.out).mono ?_;rintro e w19 ⟨rfl,hb⟩;have HX4_1:=uH hb HX4_1;have HX5_2:=uH hb HX5_2;have HX8_3:=uH hb HX8_3;have HX9_10:=uH hb HX9_10;have HX10_16:=uH hb HX10_16;have HXgf:=uH hb HXgf;have HX11_22:=uH hb HX11_22;have HBr:=mH HBr hb;have HB:=mH HB hb;clear hb;obtain ⟨W20,bk13,hW20,hbk13,HX13_35,HB,HG13_35,hup⟩:=boxZ HB HN0;obtain ⟨HBr,HGb13_35⟩:=allB hW20 hbk13 HBr;have HL13_35:=(hup _ _ HX11_22).2;have HX4_1:=(hup _ _ HX4_1).1;have HX5_2:=(hup _ _ HX5_2).1;have HX8_3:=(hup _ _ HX8_3).1;have HX9_10:=(hup _ _ HX9_10).1;have HX10_16:=(hup _ _ HX10_16).1
  have HXgf:=(hup _ _ HXgf).1;have HX11_22:=(hup _ _ HX11_22).1;clear hup;obtain ⟨W21,hW21,HX13_35,hs,f36a,f36b,f36c,k36a,k36b,k36c⟩:=put3_0_3 HX13_35 (.bool y.neg) (.string (encS y.num)) (.string (encS y.den));have HB:=hs.bel (gN HN0 HG13_35) HB;have HX4_1:=hs.keep _ _ (by have h0:=HL5_2.out;have h1:=HL8_3.out;have h2:=HL9_10.out;have h3:=HL10_16.out;have h4:=HLgf.out;have h5:=HL11_22.out;have h6:=HL13_35.out;omega) HX4_1;have HX5_2:=hs.keep _ _ (by have h1:=HL8_3.out;have h2:=HL9_10.out;have h3:=HL10_16.out;have h4:=HLgf.out;have h5:=HL11_22.out;have h6:=HL13_35.out;omega) HX5_2;have HX8_3:=hs.keep _ _ (en5 HL9_10 HL10_16 HLgf HL11_22 HL13_35) HX8_3;have HX9_10:=hs.keep _ _ (en4 HL10_16 HLgf HL11_22 HL13_35) HX9_10;have HX10_16:=hs.keep _ _ (en3 HLgf HL11_22 HL13_35) HX10_16;have HXgf:=hs.keep _ _ (en2 HL11_22 HL13_35) HXgf;have HX11_22:=hs.keep _ _ (en1 HL13_35) HX11_22
  have HBr:=hs.bel HGb13_35.out HBr;clear hs;have k37:=k1_ (i:=0) (u:=.string ⟨#[98,97,115,105,99]⟩) HX8_3 rfl;have k38:=k1_ (i:=1) (u:=.int .i64 1) HX8_3 rfl;have k39:=k1_ (i:=2) (u:=.int .i64 0) HX8_3 rfl;have k40:=k1_ (i:=3) (u:=.slice pm m.length cm) HX8_3 rfl;obtain ⟨k41a,k41b,k41c⟩:=c3 HX9_10;go_wp2_with fail;clear hW20 hbk13 f36a f36b f36c k36a k36b k36c hW21 k37 k38 k39 k40 k41a k41b k41c;refine (C8.out _ HBr.out).mono ?_;rintro e w22 ⟨rfl,hb⟩;have HX4_1:=uH hb HX4_1;have HX5_2:=uH hb HX5_2;have HX8_3:=uH hb HX8_3;have HX9_10:=uH hb HX9_10;have HX10_16:=uH hb HX10_16;have HXgf:=uH hb HXgf;have HX11_22:=uH hb HX11_22;have HX13_35:=uH hb HX13_35;have HBr:=mH HBr hb;have HB:=mH HB hb;clear hb;have k42:=k1_ (i:=0) (u:=.string ⟨#[98,97,115,105,99]⟩) HX10_16 rfl;have k43:=k1_ (i:=1) (u:=.int .i64 1) HX10_16 rfl;have k44:=k1_ (i:=2) (u:=.int .i64 0) HX10_16 rfl
  have k45:=k1_ (i:=3) (u:=.slice pu m.length cu) HX10_16 rfl;obtain ⟨k46a,k46b,k46c⟩:=c3 HX9_10;go_wp2_with fail;clear k42 k43 k44 k45 k46a k46b k46c;refine (C9.out _ HBr.out).mono ?_;rintro e w23 ⟨rfl,hb⟩;have HX4_1:=uH hb HX4_1;have HX5_2:=uH hb HX5_2;have HX8_3:=uH hb HX8_3;have HX9_10:=uH hb HX9_10;have HX10_16:=uH hb HX10_16;have HXgf:=uH hb HXgf;have HX11_22:=uH hb HX11_22;have HX13_35:=uH hb HX13_35;have HBr:=mH HBr hb;have HB:=mH HB hb;clear hb;have k47:=k1_ (i:=0) (u:=.string ⟨#[98,97,115,105,99]⟩) HX11_22 rfl;have k48:=k1_ (i:=1) (u:=.int .i64 1) HX11_22 rfl;have k49:=k1_ (i:=2) (u:=.int .i64 0) HX11_22 rfl;have k50:=k1_ (i:=3) (u:=.slice (some ⟨gf,0,none⟩) m.length cgf) HX11_22 rfl;obtain ⟨k51a,k51b,k51c⟩:=c3 HX9_10;go_wp2_with fail;clear k47 k48 k49 k50 k51a k51b k51c;refine (C10.out _ HBr.out).mono ?_;rintro e w24 ⟨rfl,hb⟩;have HX4_1:=uH hb HX4_1;have HX5_2:=uH hb HX5_2
  have HX8_3:=uH hb HX8_3;have HX9_10:=uH hb HX9_10;have HX10_16:=uH hb HX10_16;have HXgf:=uH hb HXgf;have HX11_22:=uH hb HX11_22;have HX13_35:=uH hb HX13_35;have HBr:=mH HBr hb;have HB:=mH HB hb;clear hb;have k52:=k1_ (i:=0) (u:=.string ⟨#[98,97,115,105,99]⟩) HX10_16 rfl;have k53:=k1_ (i:=1) (u:=.int .i64 1) HX10_16 rfl;have k54:=k1_ (i:=2) (u:=.int .i64 0) HX10_16 rfl;have k55:=k1_ (i:=3) (u:=.slice pu m.length cu) HX10_16 rfl;obtain ⟨k56a,k56b,k56c⟩:=c3 HX13_35;go_wp2_with fail;clear k52 k53 k54 k55 k56a k56b k56c;refine (C11.out _ HBr.out).mono ?_;rintro e w25 ⟨rfl,hb⟩;have HX4_1:=uH hb HX4_1;have HX5_2:=uH hb HX5_2;have HX8_3:=uH hb HX8_3;have HX9_10:=uH hb HX9_10;have HX10_16:=uH hb HX10_16;have HXgf:=uH hb HXgf;have HX11_22:=uH hb HX11_22;have HX13_35:=uH hb HX13_35;have HBr:=mH HBr hb;have HB:=mH HB hb;clear hb;have k57:=k1_ (i:=0) (u:=.string ⟨#[98,97,115,105,99]⟩) HX8_3 rfl
  have k58:=k1_ (i:=1) (u:=.int .i64 1) HX8_3 rfl;have k59:=k1_ (i:=2) (u:=.int .i64 0) HX8_3 rfl;have k60:=k1_ (i:=3) (u:=.slice pm m.length cm) HX8_3 rfl;go_wp2_with fail;clear k57 k58 k59 k60;refine (C12.out _ HBr.out).mono ?_;rintro e w26 ⟨rfl,hb⟩;have HX4_1:=uH hb HX4_1;have HX5_2:=uH hb HX5_2;have HX8_3:=uH hb HX8_3;have HX9_10:=uH hb HX9_10;have HX10_16:=uH hb HX10_16;have HXgf:=uH hb HXgf;have HX11_22:=uH hb HX11_22;have HX13_35:=uH hb HX13_35;have HBr:=mH HBr hb;have HB:=mH HB hb;clear hb;have k61:=k1_ (i:=0) (u:=.string ⟨#[98,97,115,105,99]⟩) HX10_16 rfl;have k62:=k1_ (i:=1) (u:=.int .i64 1) HX10_16 rfl;have k63:=k1_ (i:=2) (u:=.int .i64 0) HX10_16 rfl;have k64:=k1_ (i:=3) (u:=.slice pu m.length cu) HX10_16 rfl;go_wp2_with fail;clear k61 k62 k63 k64;refine (C13.out _ HBr.out).mono ?_;rintro e w27 ⟨rfl,hb⟩;have HX4_1:=uH hb HX4_1;have HX5_2:=uH hb HX5_2;have HX8_3:=uH hb HX8_3
  have HX9_10:=uH hb HX9_10;have HX10_16:=uH hb HX10_16;have HXgf:=uH hb HXgf;have HX11_22:=uH hb HX11_22;have HX13_35:=uH hb HX13_35;have HBr:=mH HBr hb;have HB:=mH HB hb;clear hb;go_wp2_with fail;go_ret;exact ⟨rfl,by rw [HN0.out];exact HB.out⟩
end Go.Proofs.YtblgfmjlajhipaaGreatDoor
