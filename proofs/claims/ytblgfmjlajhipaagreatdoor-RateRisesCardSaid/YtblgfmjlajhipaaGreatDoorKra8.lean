/- RateRises: contracts and the law's walk. Each theorem names its conditions. -/
import Derived.RangeFuncKeeps
import Derived.OwnWalkIn
import Derived.TacticsInMore
import Derived.LoopNIn
import Derived.LoopIn
import Derived.Shelf.SortM.Plain
import Derived.Shelf.SortM.SortNone
import Derived.Ground.GgzProg
import Derived.Ground.SlgmProg
import Derived.Maps.Own
import Derived.Maps.OwnOps
import Derived.Maps.OwnSet
import Derived.Maps.Views
import Derived.Shelf.SlIterI.Nil
import Derived.WalkKit
import Derived.Deep.LoopGhost
import Derived.Deep.QuietTactic
import Derived.BigQuiet
import Derived.Test.YtblgfmjlajhipaaGreatDoorProg
import Derived.WalkSpells
import Derived.WalkLawsBesides
import Derived.IntWalk
import Derived.Lib.Hide
import Derived.Laws.BitsAllLaws
import Derived.StillTailTactics
import Derived.Deep.OwnRows
import Derived.Lib.ConvBytes
import Derived.Below
import Derived.Shelf.Strings.Trim
import Derived.Shelf.Small.Utf8
import Derived.Shelf.Small.Bits
import Derived.Shelf.Small.Strs
import Derived.Shelf.Strconv.Itoa0
import Derived.Shelf.Strings.Search1
import Derived.Shelf.Strings.Runes
import Derived.Shelf.Strings.AsciiSet
import Derived.Shelf.Unicode.DecodeSlow
import Derived.Shelf.Unicode.DecodeAny
import Derived.Deep.DeepCutAuto
import Derived.Laws.AppendOwn
import Derived.Deep.DeepAppendWide
import Derived.Test.YtblgfmjlajhipaaGreatDoorKra7
import Derived.Test.YtblgfmjlajhipaaGreatDoorZd3
import Derived.Test.YtblgfmjlajhipaaGreatDoorZd2
import Derived.Test.YtblgfmjlajhipaaGreatDoorZd1
import Derived.Test.YtblgfmjlajhipaaGreatDoorZd0
import Derived.Test.YtblgfmjlajhipaaGreatDoorZc8
import Derived.Test.YtblgfmjlajhipaaGreatDoorZc7
import Derived.Test.YtblgfmjlajhipaaGreatDoorZc6
import Derived.Test.YtblgfmjlajhipaaGreatDoorZb7
import Derived.Test.YtblgfmjlajhipaaGreatDoorZb5
import Derived.Test.YtblgfmjlajhipaaGreatDoorZa6
import Derived.Test.YtblgfmjlajhipaaGreatDoorKra2
import Derived.Test.YtblgfmjlajhipaaGreatDoorZb4
import Derived.Test.YtblgfmjlajhipaaGreatDoorZa7
import Derived.Test.YtblgfmjlajhipaaGreatDoorZa5
import Derived.Test.YtblgfmjlajhipaaGreatDoorZa4
import Derived.Test.YtblgfmjlajhipaaGreatDoorZa3
import Derived.Test.YtblgfmjlajhipaaGreatDoorZa0
import Derived.Test.YtblgfmjlajhipaaGreatDoorZa1
import Derived.Test.YtblgfmjlajhipaaGreatDoorKra0
import Derived.Test.YtblgfmjlajhipaaGreatDoorZa2
import Derived.Test.YtblgfmjlajhipaaGreatDoorZb6
import Derived.Test.YtblgfmjlajhipaaGreatDoorKra1
import Derived.Test.YtblgfmjlajhipaaGreatDoorZc5
import Derived.Test.YtblgfmjlajhipaaGreatDoorZc4
import Derived.Test.YtblgfmjlajhipaaGreatDoorZc3
import Derived.Test.YtblgfmjlajhipaaGreatDoorZc2
import Derived.Test.YtblgfmjlajhipaaGreatDoorZc1
import Derived.Test.YtblgfmjlajhipaaGreatDoorZc0
import Derived.Test.YtblgfmjlajhipaaGreatDoorZb9
import Derived.Test.YtblgfmjlajhipaaGreatDoorZb8
import Derived.Test.YtblgfmjlajhipaaGreatDoorZc9
set_option maxHeartbeats 16000000
set_option linter.unusedVariables false
namespace Go.Proofs.YtblgfmjlajhipaaGreatDoor
open Go.RowKit Go.Shelf
open Dgt
def Erises_law_3_1 (x:Rt) (y:Rt) (qa:Int) (qb:Int) (qc:Int) (ra:Int) (rb:Int) (rc:Int) (ps:Option Addr) (cs:Nat) (m:List BT) (ws:Nat):Nat→Value
 | 0=>.agg #[.string ⟨#[98,97,115,105,99]⟩,.int .i64 1,.int .i64 0,.slice ps m.length cs]
 | 1=>.agg #[.int .i64 qa,.int .i64 qb,.int .i64 qc]
 | 2=>.agg #[.bool x.neg,.string (encS x.num),.string (encS x.den)]
 | 3=>.agg #[.string ⟨#[98,97,115,105,99]⟩,.int .i64 1,.int .i64 0,.slice ps m.length cs]
 | 4=>.agg #[.int .i64 ra,.int .i64 rb,.int .i64 rc]
 | 5=>.agg #[.bool y.neg,.string (encS y.num),.string (encS y.den)]
 | _=>undef
def Srises_law_3_1 (x:Rt) (y:Rt) (qa:Int) (qb:Int) (qc:Int) (ra:Int) (rb:Int) (rc:Int) (ps:Option Addr) (cs:Nat) (m:List BT) (ws:Nat) (ix:Nat) (v:Value) (w:World):Prop :=
 match ix with
 | 6=>∃g,v=.pointer (some ⟨g,0,none⟩)∧ws≤g∧w.heap[g]? =some (.cells #[.bool false,.string ⟨#[]⟩,.string ⟨#[]⟩] 29 (0,0))
 | 7=>∃g,v=.pointer (some ⟨g,0,none⟩)∧ws≤g∧w.heap[g]? =some (.cells #[.bool false,.string ⟨#[]⟩,.string ⟨#[]⟩] 29 (0,0))
 | ix=>v=Erises_law_3_1 x y qa qb qc ra rb rc ps cs m ws ix
theorem Srises_law_3_1_up (x:Rt) (y:Rt) (qa:Int) (qb:Int) (qc:Int) (ra:Int) (rb:Int) (rc:Int) (ps:Option Addr) (cs:Nat) (m:List BT) (ws:Nat) (ix:Nat) (v:Value) (w w' :World) (hb:Below w.heap.size w w') (h:Srises_law_3_1 x y qa qb qc ra rb rc ps cs m ws ix v w):Srises_law_3_1 x y qa qb qc ra rb rc ps cs m ws ix v w' :=by
 unfold Srises_law_3_1 at h ⊢
 split at h
 ·exact by obtain ⟨g,e1,e2,e3⟩:=h;exact ⟨g,e1,e2,hpU hb e3⟩
 ·exact by obtain ⟨g,e1,e2,e3⟩:=h;exact ⟨g,e1,e2,hpU hb e3⟩
 ·exact h
def Erises_law_6_2 (x:Rt) (y:Rt) (va:Rt) (vb:Rt) (cx:Int) (cv:Int) (pr:Int) (ps:Option Addr) (cs:Nat) (m:List BT):Nat→Value
 | 0=>.int .i64 0
 | 1=>.bool false
 | 2=>.bool false
 | 3=>.int .i64 0
 | 4=>.bool false
 | 5=>.bool false
 | 6=>.bool false
 | 7=>.agg #[.string ⟨#[98,97,115,105,99]⟩,.int .i64 1,.int .i64 0,.slice ps m.length cs]
 | 8=>.bool true
 | 9=>.bool false
 | 10=>.bool false
 | 11=>.bool false
 | 12=>.agg #[.bool x.neg,.string (encS x.num),.string (encS x.den)]
 | 13=>.agg #[.bool y.neg,.string (encS y.num),.string (encS y.den)]
 | 14=>.int .i64 cx
 | 15=>.agg #[.bool va.neg,.string (encS va.num),.string (encS va.den)]
 | 16=>.agg #[.bool vb.neg,.string (encS vb.num),.string (encS vb.den)]
 | 17=>.int .i64 cv
 | 18=>.int .i64 pr
 | 19=>.bool false
 | 20=>.bool false
 | _=>undef
def Erises_law_10_3 (r7:Rt) (m:List BT) (k:Nat) (cgf:Nat) (gf:Nat) (bk15:Nat):Nat→Value
 | 0=>.pointer (some ⟨bk15,3,none⟩)
 | 1=>.slice (some ⟨gf,0,none⟩) m.length cgf
 | 2=>.int .i64 (k:Int)
 | 3=>.agg #[.bool r7.neg,.string (encS r7.num),.string (encS r7.den)]
 | 4=>.pointer (some ⟨gf,k*6,none⟩)
 | 5=>.pointer (some ⟨gf,k*6+3,none⟩)
 | _=>undef
set_option maxRecDepth 100000 in
theorem rises_law (p:Option Addr) (n cap:Nat) (l:List T3) (qa qb qc ra rb rc:Int) (hi:I3 l) (iq:I64 qa∧I64 qb∧I64 qc) (ir:I64 ra∧I64 rb∧I64 rc) (wq:World) (hl:Cut3 wq (.slice p n cap) n l) :
  Gv 6 #[.slice p n cap,.agg #[.int .i64 qa,.int .i64 qb,.int .i64 qc],.agg #[.int .i64 ra,.int .i64 rb,.int .i64 rc]] wq (.bool true):=by
 unfold Gv;have HC3:=hD hl;have hmd:=fun w h=>Made_own p n cap l hi w h
 have hm0:=made_mild l;have hlen:madeN l=(madeB l).length:=by unfold madeB;rw [madeK_len]
 have hi0:=made_inv l;obtain ⟨m0,e0⟩:∃x,madeB l=x:=⟨_,rfl⟩;rw [hlen] at hmd;rw [e0] at hmd hm0 hi0;have HMD:=hD hmd;have hmm:=up_mild hm0;have hii:=up_inv hi0;have hff:=up_falls hm0;have hup:=fun v w h=>Up_own ⟨#[98,97,115,105,99]⟩ 1 0 v m0 hm0.sch w h
 have hul:=upB_len m0;obtain ⟨m,e1⟩:∃x,upB m0=x:=⟨_,rfl⟩;rw [e1] at hmm hii hff hup hul;rw [←hul] at hup;have HUP:=hD hup;have HFF:=hD hff;have hs:=hmm.sch;have HMM:=hD hmm;have HS:=hD hs;have HM0:=hD hm0;clear hl hmd hlen e0 hup hul e1;have ax:=amt_gd hmm (qa,qb,qc);have fx:=amt_fit hmm (qa,qb,qc);have AMx:=hD (fun v w h=>amount_any ⟨#[98,97,115,105,99]⟩ 1 0 v m qa qb qc hs iq.1 iq.2.1 iq.2.2 w h);obtain ⟨x,hx⟩:∃z,amtT m (qa,qb,qc)=z:=⟨_,rfl⟩;rw [hx] at ax fx AMx;clear hx;have vx:=amt_val hmm ax.1 ax.2;have HOx:=hD (And.intro ax.1 (And.intro fx vx));have ay:=amt_gd hmm (ra,rb,rc);have fy:=amt_fit hmm (ra,rb,rc);have AMy:=hD (fun v w h=>amount_any ⟨#[98,97,115,105,99]⟩ 1 0 v m ra rb rc hs ir.1 ir.2.1 ir.2.2 w h);obtain ⟨y,hy⟩:∃z,amtT m (ra,rb,rc)=z:=⟨_,rfl⟩;rw [hy] at ay fy AMy;clear hy;have vy:=amt_val hmm ay.1 ay.2;have HOy:=hD (And.intro ay.1 (And.intro fy vy))
 have hqx:=q_val hs ax.1;have hqy:=q_val hs ay.1;have HMON:Hid (0≤cmpR x y*cmpR (valT m x m.length) (valT m y m.length)):=hD (by
  have ox:=val_ok hs ax.1 m.length;have oy:=val_ok hs ay.1 m.length;have key:∀u v:Rt,u.Ok→v.Ok→u.q≤v.q→(valT m u m.length).q≤(valT m v m.length).q:=fun u v hu hv h=>by
   rw [q_val hs hu,q_val hs hv];exact val_mono hs.inc hs.pos (rate_nn hs hff) h
  have c1:=cmpR_q ax.1 ay.1;have c2:=cmpR_q ox oy;rcases tri (x.q-y.q) with h|h|h
  ·rw [c1,h,sgQ_zero,Int.zero_mul];exact Int.le_refl 0
  ·have h2:=key y x ay.1 ax.1 (by grind);rw [c1,c2,sgQ_pos h,Int.one_mul];exact sgQ_ge0.2 (by grind)
  ·have h2:=key x y ax.1 ay.1 (by grind);rw [c1,c2,sgQ_neg h];have:sgQ ((valT m x m.length).q-(valT m y m.length).q)≤0:=sgQ_le0.2 (by grind);omega)
 have cx1:=fun w=>rRatCmp_r (IsR.of ax.1 (fit_rz fx)) (IsR.of ay.1 (fit_rz fy)) (by decide) (by decide) w
 have cx2:=fun w=>rRatCmp_r (IsR.of (val_ok hs ax.1 m.length) (fit_rz vx)) (IsR.of (val_ok hs ay.1 m.length) (fit_rz vy)) (by decide) (by decide) w
 have h1:=cmp_in x y;have h2:=cmp_in (valT m x m.length) (valT m y m.length);obtain ⟨va,hva⟩:∃z,valT m x m.length=z:=⟨_,rfl⟩;obtain ⟨vb,hvb⟩:∃z,valT m y m.length=z:=⟨_,rfl⟩;have HVA:=hD hva;have HVB:=hD hvb;rw [hva,hvb] at HMON cx2 h2;obtain ⟨cx,hcx⟩:∃z,cmpR x y=z:=⟨_,rfl⟩;rw [hcx] at HMON cx1 h1;obtain ⟨cv,hcv⟩:∃z,cmpR va vb=z:=⟨_,rfl⟩;rw [hcv] at HMON cx2 h2;obtain ⟨pr,hpr⟩:∃z,cx*cv=z:=⟨_,rfl⟩;rw [hpr] at HMON;have HPR:Hid (IntKind.i64.wrap (cx*cv)=pr):=hD (wrap_in (by rcases h1 with rfl|rfl|rfl<;>rcases h2 with rfl|rfl|rfl<;>decide) hpr);have HPN:Hid (decide (pr<0)=false):=hD (decide_eq_false (by have:=HMON.out;omega));have hml:=hs.pos;have hm8:=hs.le;have r1:=mod_in qa (show (0:Int)<(m.length:Int) by omega);have cm1:=fun w=>mod2 qa (m.length:Int) w iq.1.1 iq.1.2 (by omega) (by omega)
 obtain ⟨k,hk⟩:∃k:Nat,qa%(m.length:Int)=(k:Int):=⟨(qa%(m.length:Int)).toNat,by omega⟩;rw [hk] at cm1 r1;have HKL:Hid (k<m.length):=hD (by omega);have cr:=fun w=>rat_any (-1) 7 (by decide) (by decide) (by decide) w
 have h7:(fracT (-1) 7).Ok:=frac_ok _ (by decide);have f7:fitT (fracT (-1) 7)=true:=fit_far (D:=7) (c:=1) h7 (by decide) (frac_gd (by decide) ⟨1,rfl⟩ (by decide) (by decide)) (by decide) (by decide);have s7:sgnR (fracT (-1) 7)<0:=by
  rw [sgnR_q h7,sgQ_lt0,frac_q _ (by decide)];have:=div_pos' (show (0:Rat)<1 by decide) (show (0:Rat)<7 by decide);have e:(((-1:Int):Rat))/((7:Int):Rat)= -(1/7):=by grind
  rw [e];grind
 have hum:=up_mild hmm;have hul:=upB_len m;have hw2:=fun v w h=>Up_own ⟨#[98,97,115,105,99]⟩ 1 0 v m hs w h
 obtain ⟨mu,hmu⟩:∃z,upB m=z:=⟨_,rfl⟩;rw [hmu] at hum hul hw2;have HU2:=hD hw2;have HUL:=hD hul;obtain ⟨r7,hr7⟩:∃z,fracT (-1) 7=z:=⟨_,rfl⟩;rw [hr7] at cr h7 f7 s7;have HFS:Hid (Sch (mu.set k (frT mu k,r7))):=hD (set_sch hum.sch (by rw [hul];exact HKL.out) h7 f7);have HFN:Hid (fallsT (mu.set k (frT mu k,r7))=true):=hD (set_falls (by rw [hul];exact HKL.out) s7);have HZY:=hD (fit_rz fy);clear hmm hs hff hqx hqy h1 h2 hva hvb hcx hcv hpr hml hm8 r1 hk h7 f7 s7 hum hul hw2 hmu hr7 ax ay fx fy vx vy hm0 hi0 hii iq ir hi;have C1:Hid (∀w,Gv 24 #[rtV x,rtV y] w (.int .i64 cx)):=hD cx1;have C2:Hid (∀w,Gv 24 #[rtV va,rtV vb] w (.int .i64 cv)):=hD cx2;have C3:Hid (∀w,Gv 18 #[.int .i64 qa,.int .i64 (m.length:Int)] w (.int .i64 (k:Int))):=hD cm1;have C4:Hid (∀w,Gv 20 #[.int .i64 (-1),.int .i64 7] w (.agg #[.bool r7.neg,.string (encS r7.num),.string (encS r7.den)])):=hD cr;clear cx1 cx2 cm1 cr
 have C5:Hid (∀w,Gv 12 #[] w (.bool true)):=hD fun w=>sanity_any w
 have HB:=hD (Below.refl wq.heap.size wq);obtain ⟨n0,hn0⟩:∃n,n=wq.heap.size:=⟨_,rfl⟩;rw [←hn0];have HN0:=hD hn0;clear hn0;go_enter Tryz.func6,Tryz.ntmps6;obtain ⟨W1,bk4,hW1,hbk4,HX4_1,HB,HG4_1,hup⟩:=boxn HB HN0 (.cells #[.int .i64 qa,.int .i64 qb,.int .i64 qc] 34);clear hup;obtain ⟨W2,bk5,hW2,hbk5,HX5_2,HB,HG5_2,hup⟩:=boxn HB HN0 (.cells #[.int .i64 ra,.int .i64 rb,.int .i64 rc] 34);have HL5_2:=(hup _ _ HX4_1).2;have HX4_1:=(hup _ _ HX4_1).1;clear hup;go_wp2_with fail;clear hW1 hbk4 hW2 hbk5;refine (C5.out _).mono ?_;rintro e w3 ⟨rfl,hb⟩;have HX4_1:=uH hb HX4_1;have HX5_2:=uH hb HX5_2;have HB:=mH HB hb;clear hb;go_wp2_with fail;refine (HMD.out _ (HC3.out.up HB.out)).mono ?_;rintro e w4 ⟨v9,rfl,hown,hb⟩;have HX4_1:=uH hb HX4_1;have HX5_2:=uH hb HX5_2;have HB:=mH HB hb
 have HLM:=hD (own_lstK (l:=m0.map rawB) (by rw [List.length_map];exact hown) (by rw [List.length_map];have:=HM0.out.sch.le;omega));obtain ⟨pm,cm,rfl⟩:=own_slice hown;clear hown hb;go_wp2_with fail;refine (HUP.out _ _ (HLM.out)).mono ?_;rintro e w5 ⟨v9,rfl,hown,hb⟩;have HX4_1:=uH hb HX4_1;have HX5_2:=uH hb HX5_2;have HB:=mH HB hb;have HLs:=hD (own_lstK (l:=m.map rawB) (by rw [List.length_map];exact hown) (by rw [List.length_map];have:=HS.out.le;omega));obtain ⟨ps,cs,rfl⟩:=own_slice hown;clear hown hb;have HBr:=hD (Below.refl w5.heap.size w5);obtain ⟨W6,bk8,hW6,hbk8,HX8_3,HB,HG8_3,hup⟩:=boxn HB HN0 (.cells #[.string ⟨#[]⟩,.int .i64 0,.int .i64 0,.slice none 0 0] 26);obtain ⟨HBr,HGb8_3⟩:=allB hW6 hbk8 HBr;have HL8_3:=(hup _ _ HX5_2).2;have HX4_1:=(hup _ _ HX4_1).1;have HX5_2:=(hup _ _ HX5_2).1;clear hup
 obtain ⟨W7,hW7,HX8_3,hs,f4a,f4b,f4c,f4d,k4a,k4b,k4c,k4d⟩:=put4_0_4 HX8_3 (.string ⟨#[98,97,115,105,99]⟩) (.int .i64 1) (.int .i64 0) (.slice ps m.length cs);have HB:=hs.bel (gN HN0 HG8_3) HB;have HX4_1:=hs.keep _ _ (en2 HL5_2 HL8_3) HX4_1;have HX5_2:=hs.keep _ _ (en1 HL8_3) HX5_2;have HBr:=hs.bel HGb8_3.out HBr;clear hs;have C6:Hid (∀w,Below w5.heap.size w5 w→Gv 16 #[.agg #[.string ⟨#[98,97,115,105,99]⟩,.int .i64 1,.int .i64 0,.slice ps m.length cs],.agg #[.int .i64 qa,.int .i64 qb,.int .i64 qc]] w (.agg #[.bool x.neg,.string (encS x.num),.string (encS x.den)])):=hD fun w hp0=>AMx.out _ w (HLs.out.up hp0)
 have C7:Hid (∀w,Below w5.heap.size w5 w→Gv 16 #[.agg #[.string ⟨#[98,97,115,105,99]⟩,.int .i64 1,.int .i64 0,.slice ps m.length cs],.agg #[.int .i64 ra,.int .i64 rb,.int .i64 rc]] w (.agg #[.bool y.neg,.string (encS y.num),.string (encS y.den)])):=hD fun w hp0=>AMy.out _ w (HLs.out.up hp0)
 have C8:Hid (∀w,Below w5.heap.size w5 w→Gv 21 #[.agg #[.string ⟨#[98,97,115,105,99]⟩,.int .i64 1,.int .i64 0,.slice ps m.length cs],rtV x] w (.tuple #[.agg #[.bool va.neg,.string (encS va.num),.string (encS va.den)],.int .i64 0])):=hD fun w hp0=>by
  have h:=At_s ⟨#[98,97,115,105,99]⟩ 1 0 _ m x HS.out HOx.out.1 HOx.out.2.1 HOx.out.2.2 w (HLs.out.up hp0);rw [HVA.out] at h;exact h
 have C9:Hid (∀w,Below w5.heap.size w5 w→Gv 21 #[.agg #[.string ⟨#[98,97,115,105,99]⟩,.int .i64 1,.int .i64 0,.slice ps m.length cs],rtV y] w (.tuple #[.agg #[.bool vb.neg,.string (encS vb.num),.string (encS vb.den)],.int .i64 0])):=hD fun w hp0=>by
  have h:=At_s ⟨#[98,97,115,105,99]⟩ 1 0 _ m y HS.out HOy.out.1 HOy.out.2.1 HOy.out.2.2 w (HLs.out.up hp0);rw [HVB.out] at h;exact h
 have C10:Hid (∀w,Below w5.heap.size w5 w→Gv 23 #[.agg #[.string ⟨#[98,97,115,105,99]⟩,.int .i64 1,.int .i64 0,.slice ps m.length cs]] w (.bool true)):=hD fun w hp0=>Rise_s ⟨#[98,97,115,105,99]⟩ 1 0 _ m HS.out true HFF.out w (HLs.out.up hp0)
 go_wp2_with fail;clear hW6 hbk8 f4a f4b f4c f4d k4a k4b k4c k4d hW7;refine wp_region_tailW (w:=W7) (by kernel_rfl) (Srises_law_3_1 x y qa qb qc ra rb rc ps cs m W7.heap.size) (fun i=>i==6||i==7) 8 (fun t=>(decide (9≤t)&&decide (t<11))||(decide (23≤t)&&decide (t<29))) (by decide) (by kernel_rfl) (by kernel_rfl) (by kernel_rfl) (by kernel_rfl) (by kernel_rfl) (Srises_law_3_1_up x y qa qb qc ra rb rc ps cs m W7.heap.size) ?_ ?_
 ·intro i hi ov_ listed av_ w hR K hK;have ho:=hR.at_;have hi:i<8:=hi;have hii:i=0∨i=1∨i=2∨i=3∨i=4∨i=5∨i=6∨i=7:=by omega
  rcases hii with rfl|rfl|rfl|rfl|rfl|rfl|rfl|rfl<;>(simp at ho;subst ho)
  ·have b8:av_.tmps.getD 8 undef=.pointer (some ⟨bk8,0,none⟩):=hR.b 8;have cx0:w.cell? ⟨bk8,0,none⟩=some (.string ⟨#[98,97,115,105,99]⟩):=by rw [Lib.cell_of_heap (hpU hR.below HX8_3.out)];rfl
   have cx1:w.cell? ⟨bk8,1,none⟩=some (.int .i64 1):=by rw [Lib.cell_of_heap (hpU hR.below HX8_3.out)];rfl
   have cx2:w.cell? ⟨bk8,2,none⟩=some (.int .i64 0):=by rw [Lib.cell_of_heap (hpU hR.below HX8_3.out)];rfl
   have cx3:w.cell? ⟨bk8,3,none⟩=some (.slice ps m.length cs):=by rw [Lib.cell_of_heap (hpU hR.below HX8_3.out)];rfl
   refine pSq ?_;go_simp;exact hK _ _ rfl rB (fun h=>absurd h (by decide))
  ·have b4:av_.tmps.getD 4 undef=.pointer (some ⟨bk4,0,none⟩):=hR.b 4;obtain ⟨cx0,cx1,cx2⟩:=c3 (uH hR.below HX4_1);refine pSq ?_;go_simp;exact hK _ _ rfl rB (fun h=>absurd h (by decide))
  ·have e0:av_.tmps.getD 23 undef=.agg #[.string ⟨#[98,97,115,105,99]⟩,.int .i64 1,.int .i64 0,.slice ps m.length cs]:=hR.t 0;have e1:av_.tmps.getD 24 undef=.agg #[.int .i64 qa,.int .i64 qb,.int .i64 qc]:=hR.t 1;refine pSq ?_;go_simp;refine (C6.out w (HBr.out.trans (hR.below.mono HBr.out.size))).mono ?_;rintro e w' ⟨rfl,hb⟩;exact hK _ _ (rfl) hb (fun h=>absurd h (by decide))
  ·have b8:av_.tmps.getD 8 undef=.pointer (some ⟨bk8,0,none⟩):=hR.b 8;have cx0:w.cell? ⟨bk8,0,none⟩=some (.string ⟨#[98,97,115,105,99]⟩):=by rw [Lib.cell_of_heap (hpU hR.below HX8_3.out)];rfl
   have cx1:w.cell? ⟨bk8,1,none⟩=some (.int .i64 1):=by rw [Lib.cell_of_heap (hpU hR.below HX8_3.out)];rfl
   have cx2:w.cell? ⟨bk8,2,none⟩=some (.int .i64 0):=by rw [Lib.cell_of_heap (hpU hR.below HX8_3.out)];rfl
   have cx3:w.cell? ⟨bk8,3,none⟩=some (.slice ps m.length cs):=by rw [Lib.cell_of_heap (hpU hR.below HX8_3.out)];rfl
   refine pSq ?_;go_simp;exact hK _ _ rfl rB (fun h=>absurd h (by decide))
  ·have b5:av_.tmps.getD 5 undef=.pointer (some ⟨bk5,0,none⟩):=hR.b 5;obtain ⟨cx0,cx1,cx2⟩:=c3 (uH hR.below HX5_2);refine pSq ?_;go_simp;exact hK _ _ rfl rB (fun h=>absurd h (by decide))
  ·have e3:av_.tmps.getD 26 undef=.agg #[.string ⟨#[98,97,115,105,99]⟩,.int .i64 1,.int .i64 0,.slice ps m.length cs]:=hR.t 3;have e4:av_.tmps.getD 27 undef=.agg #[.int .i64 ra,.int .i64 rb,.int .i64 rc]:=hR.t 4;refine pSq ?_;go_simp;refine (C7.out w (HBr.out.trans (hR.below.mono HBr.out.size))).mono ?_;rintro e w' ⟨rfl,hb⟩;exact hK _ _ (rfl) hb (fun h=>absurd h (by decide))
  ·refine pSq ?_;go_simp;exact hK _ _ (⟨_,rfl,hR.below.size,heap_alloc_new _ _⟩) (rB.alloc (Nat.le_refl _) _) (fun _=>⟨_,rfl,Nat.le_refl _,alloc_lt _ _⟩)
  ·refine pSq ?_;go_simp;exact hK _ _ (⟨_,rfl,hR.below.size,heap_alloc_new _ _⟩) (rB.alloc (Nat.le_refl _) _) (fun _=>⟨_,rfl,Nat.le_refl _,alloc_lt _ _⟩)
 ·intro sv_ w hS hb hne;have e2:sv_ 25=.agg #[.bool x.neg,.string (encS x.num),.string (encS x.den)]:=hS 2 (by decide);have e5:sv_ 28=.agg #[.bool y.neg,.string (encS y.num),.string (encS y.den)]:=hS 5 (by decide);have e6:=hS 6 (by decide);have e7:=hS 7 (by decide);simp only [over,ovL,Nat.reduceAdd,Nat.reduceLeDiff,Nat.reduceLT];obtain ⟨bk9,e6b,hg,hN⟩:∃g,sv_ 9=.pointer (some ⟨g,0,none⟩)∧W7.heap.size≤g∧w.heap[g]? =some (.cells #[.bool false,.string ⟨#[]⟩,.string ⟨#[]⟩] 29 (0,0)):=e6;have HG9_5:Hid (n0≤bk9):=hD (by rw [HN0.out];exact Nat.le_trans HB.out.size hg);have HL9_5:=hD (Nat.lt_of_lt_of_le (Array.getElem?_eq_some_iff.1 HX8_3.out).1 hg);have HS9_5:=hD hg;have HGb9_5:=hD (Nat.le_trans HBr.out.size hg);have HX9_5:=hD hN;clear hN hg
  try clear e6
  have e6:=e6b;clear e6b;obtain ⟨bk10,e7b,hg,hN⟩:∃g,sv_ 10=.pointer (some ⟨g,0,none⟩)∧W7.heap.size≤g∧w.heap[g]? =some (.cells #[.bool false,.string ⟨#[]⟩,.string ⟨#[]⟩] 29 (0,0)):=e7;have HG10_6:Hid (n0≤bk10):=hD (by rw [HN0.out];exact Nat.le_trans HB.out.size hg);have HL10_6:=hD (Nat.lt_of_lt_of_le (Array.getElem?_eq_some_iff.1 HX8_3.out).1 hg);have HS10_6:=hD hg;have HGb10_6:=hD (Nat.le_trans HBr.out.size hg);have HX10_6:=hD hN;clear hN hg
  try clear e7
  have e7:=e7b;clear e7b;have HM9_5_bk4:Hid (bk4≠bk9):=hD (by have:=(Array.getElem?_eq_some_iff.1 HX4_1.out).1;have:=HS9_5.out;omega);have HM9_5_bk5:Hid (bk5≠bk9):=hD (by have:=(Array.getElem?_eq_some_iff.1 HX5_2.out).1;have:=HS9_5.out;omega);have HM9_5_bk8:Hid (bk8≠bk9):=hD (by have:=(Array.getElem?_eq_some_iff.1 HX8_3.out).1;have:=HS9_5.out;omega);have hq:=hne 6 7 rfl rfl (by decide) (by decide) (by decide);have hq:sv_ 9≠sv_ 10:=hq;rw [e6,e7] at hq;have HQ9_5_10_6:Hid (bk9≠bk10):=hD (fun h=>hq (by rw [h]));clear hq;clear hne;have HX4_1:=uH hb HX4_1;have HX5_2:=uH hb HX5_2;have HX8_3:=uH hb HX8_3;have HB:=mH HB hb;have HBr:=mH HBr hb;obtain ⟨w8,hw⟩:∃w8,w8=w:=⟨_,rfl⟩;subst hw;rw [e2,e5,e6,e7];clear hS hb e2 e5 e6 e7;obtain ⟨W9,hW9,HX9_5,hs,f7a,f7b,f7c,k7a,k7b,k7c⟩:=put3_0_3 HX9_5 (.bool x.neg) (.string (encS x.num)) (.string (encS x.den));have HB:=hs.bel (gN HN0 HG9_5) HB
  have HX4_1:=hs.keep _ _ (fun hc=>HM9_5_bk4.out hc.symm) HX4_1;have HX5_2:=hs.keep _ _ (fun hc=>HM9_5_bk5.out hc.symm) HX5_2;have HX8_3:=hs.keep _ _ (fun hc=>HM9_5_bk8.out hc.symm) HX8_3;have HX10_6:=hs.keep _ _ HQ9_5_10_6.out HX10_6;have HBr:=hs.bel HGb9_5.out HBr;clear hs;refine tail_step (n:=1) rfl rfl ?_;go_simp
  try rw [hW9]
  clear f7a f7b f7c k7a k7b k7c hW9;obtain ⟨W10,hW10,HX10_6,hs,f8a,f8b,f8c,k8a,k8b,k8c⟩:=put3_0_3 HX10_6 (.bool y.neg) (.string (encS y.num)) (.string (encS y.den));have HB:=hs.bel (gN HN0 HG10_6) HB;have HX4_1:=hs.keep _ _ (en3 HL5_2 HL8_3 HL10_6) HX4_1;have HX5_2:=hs.keep _ _ (en2 HL8_3 HL10_6) HX5_2;have HX8_3:=hs.keep _ _ (en1 HL10_6) HX8_3;have HX9_5:=hs.keep _ _ (fun hc=>HQ9_5_10_6.out hc.symm) HX9_5;have HBr:=hs.bel HGb10_6.out HBr;clear hs;refine tail_step (n:=0) rfl rfl ?_;go_simp
  try rw [hW10]
  clear f8a f8b f8c k8a k8b k8c hW10;simp only [wpTail];have k9:=k1_ (i:=0) (u:=.string ⟨#[98,97,115,105,99]⟩) HX8_3 rfl;have k10:=k1_ (i:=1) (u:=.int .i64 1) HX8_3 rfl;have k11:=k1_ (i:=2) (u:=.int .i64 0) HX8_3 rfl;have k12:=k1_ (i:=3) (u:=.slice ps m.length cs) HX8_3 rfl;obtain ⟨k13a,k13b,k13c⟩:=c3 HX9_5;go_wp2_with fail;clear k9 k10 k11 k12 k13a k13b k13c;refine (C8.out _ HBr.out).mono ?_;rintro e w11 ⟨rfl,hb⟩;have HX4_1:=uH hb HX4_1;have HX5_2:=uH hb HX5_2;have HX8_3:=uH hb HX8_3;have HX9_5:=uH hb HX9_5;have HX10_6:=uH hb HX10_6;have HBr:=mH HBr hb;have HB:=mH HB hb;clear hb;obtain ⟨W12,bk11,hW12,hbk11,HX11_14,HB,HG11_14,hup⟩:=boxZ HB HN0;obtain ⟨HBr,HGb11_14⟩:=allB hW12 hbk11 HBr;have HL11_14:=(hup _ _ HX10_6).2;have HM11_14_bk9:=hD (Nat.ne_of_lt (hup _ _ HX9_5).2.out);have HX4_1:=(hup _ _ HX4_1).1;have HX5_2:=(hup _ _ HX5_2).1;have HX8_3:=(hup _ _ HX8_3).1
  have HX9_5:=(hup _ _ HX9_5).1;have HX10_6:=(hup _ _ HX10_6).1;clear hup;obtain ⟨W13,hW13,HX11_14,hs,f15a,f15b,f15c,k15a,k15b,k15c⟩:=put3_0_3 HX11_14 (.bool va.neg) (.string (encS va.num)) (.string (encS va.den));have HB:=hs.bel (gN HN0 HG11_14) HB;have HX4_1:=hs.keep _ _ (en4 HL5_2 HL8_3 HL10_6 HL11_14) HX4_1;have HX5_2:=hs.keep _ _ (en3 HL8_3 HL10_6 HL11_14) HX5_2;have HX8_3:=hs.keep _ _ (en2 HL10_6 HL11_14) HX8_3;have HX9_5:=hs.keep _ _ (fun hc=>HM11_14_bk9.out hc.symm) HX9_5;have HX10_6:=hs.keep _ _ (en1 HL11_14) HX10_6;have HBr:=hs.bel HGb11_14.out HBr;clear hs;have k16:=k1_ (i:=0) (u:=.string ⟨#[98,97,115,105,99]⟩) HX8_3 rfl;have k17:=k1_ (i:=1) (u:=.int .i64 1) HX8_3 rfl;have k18:=k1_ (i:=2) (u:=.int .i64 0) HX8_3 rfl;have k19:=k1_ (i:=3) (u:=.slice ps m.length cs) HX8_3 rfl;obtain ⟨k20a,k20b,k20c⟩:=c3 HX10_6;go_wp2_with fail
  clear hW12 hbk11 f15a f15b f15c k15a k15b k15c hW13 k16 k17 k18 k19 k20a k20b k20c;refine (C9.out _ HBr.out).mono ?_;rintro e w14 ⟨rfl,hb⟩;have HX4_1:=uH hb HX4_1;have HX5_2:=uH hb HX5_2;have HX8_3:=uH hb HX8_3;have HX9_5:=uH hb HX9_5;have HX10_6:=uH hb HX10_6;have HX11_14:=uH hb HX11_14;have HBr:=mH HBr hb;have HB:=mH HB hb;clear hb;obtain ⟨W15,bk13,hW15,hbk13,HX13_21,HB,HG13_21,hup⟩:=boxZ HB HN0;obtain ⟨HBr,HGb13_21⟩:=allB hW15 hbk13 HBr;have HL13_21:=(hup _ _ HX11_14).2;have HM13_21_bk9:=hD (Nat.ne_of_lt (hup _ _ HX9_5).2.out);have HX4_1:=(hup _ _ HX4_1).1;have HX5_2:=(hup _ _ HX5_2).1;have HX8_3:=(hup _ _ HX8_3).1;have HX9_5:=(hup _ _ HX9_5).1;have HX10_6:=(hup _ _ HX10_6).1;have HX11_14:=(hup _ _ HX11_14).1;clear hup;obtain ⟨W16,hW16,HX13_21,hs,f22a,f22b,f22c,k22a,k22b,k22c⟩:=put3_0_3 HX13_21 (.bool vb.neg) (.string (encS vb.num)) (.string (encS vb.den))
  have HB:=hs.bel (gN HN0 HG13_21) HB;have HX4_1:=hs.keep _ _ (en5 HL5_2 HL8_3 HL10_6 HL11_14 HL13_21) HX4_1;have HX5_2:=hs.keep _ _ (en4 HL8_3 HL10_6 HL11_14 HL13_21) HX5_2;have HX8_3:=hs.keep _ _ (en3 HL10_6 HL11_14 HL13_21) HX8_3;have HX9_5:=hs.keep _ _ (fun hc=>HM13_21_bk9.out hc.symm) HX9_5;have HX10_6:=hs.keep _ _ (en2 HL11_14 HL13_21) HX10_6;have HX11_14:=hs.keep _ _ (en1 HL13_21) HX11_14;have HBr:=hs.bel HGb13_21.out HBr;clear hs;go_wp2_with fail;clear hW15 hbk13 f22a f22b f22c k22a k22b k22c hW16;refine wpVl (w:=W16) (by kernel_rfl) (fun ix v _=>v=Erises_law_6_2 x y va vb cx cv pr ps cs m ix) (fun t=>(decide (41≤t)&&decide (t<62))) (by kernel_rfl) (by kernel_rfl) (by kernel_rfl) (fun _ _ _ _ _ h=>h) ?_ ?_
  ·intro i hi ov_ listed av_ w hR K hK;have ho:=hR.at_;have hi:i<21:=hi;have hii:i=0∨i=1∨i=2∨i=3∨i=4∨i=5∨i=6∨i=7∨i=8∨i=9∨i=10∨i=11∨i=12∨i=13∨i=14∨i=15∨i=16∨i=17∨i=18∨i=19∨i=20:=by omega
   rcases hii with rfl|rfl|rfl|rfl|rfl|rfl|rfl|rfl|rfl|rfl|rfl|rfl|rfl|rfl|rfl|rfl|rfl|rfl|rfl|rfl|rfl<;>(simp at ho;subst ho)
   ·have b12:av_.tmps.getD 12 undef=.int .i64 0:=hR.b 12;refine pSq ?_;go_simp;exact hK _ _ rfl rB
   ·have e0:av_.tmps.getD 41 undef=.int .i64 0:=hR.d 0;refine pSq ?_;go_simp;exact hK _ _ rfl rB
   ·have e1:av_.tmps.getD 42 undef=.bool false:=hR.d 1;refine pSq ?_;go_simp;exact hK _ _ rfl rB
   ·have e2:av_.tmps.getD 43 undef=.bool false:=hR.g 2;have b14:av_.tmps.getD 14 undef=.int .i64 0:=hR.b 14;refine gSq (b:=false) e2 ?_;go_simp;exact hK _ _ rfl rB
   ·have e3:av_.tmps.getD 44 undef=.int .i64 0:=hR.d 3;have e2:av_.tmps.getD 43 undef=.bool false:=hR.g 2;refine gSq (b:=false) e2 ?_;go_simp;exact hK _ _ rfl rB
   ·have e2:av_.tmps.getD 43 undef=.bool false:=hR.d 2;have e4:av_.tmps.getD 45 undef=.bool false:=hR.d 4;refine pSq ?_;go_simp;exact hK _ _ rfl rB
   ·have e5:av_.tmps.getD 46 undef=.bool false:=hR.d 5;refine pSq ?_;go_simp;exact hK _ _ rfl rB
   ·have e6:av_.tmps.getD 47 undef=.bool false:=hR.g 6;have b8:av_.tmps.getD 8 undef=.pointer (some ⟨bk8,0,none⟩):=hR.b 8;have cx0:w.cell? ⟨bk8,0,none⟩=some (.string ⟨#[98,97,115,105,99]⟩):=by rw [Lib.cell_of_heap (hpU hR.below HX8_3.out)];rfl
    have cx1:w.cell? ⟨bk8,1,none⟩=some (.int .i64 1):=by rw [Lib.cell_of_heap (hpU hR.below HX8_3.out)];rfl
    have cx2:w.cell? ⟨bk8,2,none⟩=some (.int .i64 0):=by rw [Lib.cell_of_heap (hpU hR.below HX8_3.out)];rfl
    have cx3:w.cell? ⟨bk8,3,none⟩=some (.slice ps m.length cs):=by rw [Lib.cell_of_heap (hpU hR.below HX8_3.out)];rfl
    refine gSq (b:=false) e6 ?_;go_simp;exact hK _ _ rfl rB
   ·have e7:av_.tmps.getD 48 undef=.agg #[.string ⟨#[98,97,115,105,99]⟩,.int .i64 1,.int .i64 0,.slice ps m.length cs]:=hR.d 7;have e6:av_.tmps.getD 47 undef=.bool false:=hR.g 6;refine gSq (b:=false) e6 ?_;go_simp;refine (C10.out w (HBr.out.trans (hR.below.mono HBr.out.size))).mono ?_;rintro e w' ⟨rfl,hb⟩;exact hK _ _ (rfl) hb
   ·have e8:av_.tmps.getD 49 undef=.bool true:=hR.d 8;have e6:av_.tmps.getD 47 undef=.bool false:=hR.g 6;refine gSq (b:=false) e6 ?_;go_simp;exact hK _ _ rfl rB
   ·have e6:av_.tmps.getD 47 undef=.bool false:=hR.d 6;have e9:av_.tmps.getD 50 undef=.bool false:=hR.d 9;refine pSq ?_;go_simp;exact hK _ _ rfl rB
   ·have e10:av_.tmps.getD 51 undef=.bool false:=hR.d 10;refine pSq ?_;go_simp;exact hK _ _ rfl rB
   ·have e11:av_.tmps.getD 52 undef=.bool false:=hR.g 11;have b9:av_.tmps.getD 9 undef=.pointer (some ⟨bk9,0,none⟩):=hR.b 9;obtain ⟨cx0,cx1,cx2⟩:=c3 (uH hR.below HX9_5);refine gSq (b:=false) e11 ?_;go_simp;exact hK _ _ rfl rB
   ·have e11:av_.tmps.getD 52 undef=.bool false:=hR.g 11;have b10:av_.tmps.getD 10 undef=.pointer (some ⟨bk10,0,none⟩):=hR.b 10;obtain ⟨cx0,cx1,cx2⟩:=c3 (uH hR.below HX10_6);refine gSq (b:=false) e11 ?_;go_simp;exact hK _ _ rfl rB
   ·have e12:av_.tmps.getD 53 undef=.agg #[.bool x.neg,.string (encS x.num),.string (encS x.den)]:=hR.d 12;have e13:av_.tmps.getD 54 undef=.agg #[.bool y.neg,.string (encS y.num),.string (encS y.den)]:=hR.d 13;have e11:av_.tmps.getD 52 undef=.bool false:=hR.g 11;refine gSq (b:=false) e11 ?_;go_simp;refine (C1.out w).mono ?_;rintro e w' ⟨rfl,hb⟩;exact hK _ _ (rfl) hb
   ·have e11:av_.tmps.getD 52 undef=.bool false:=hR.g 11;have b11:av_.tmps.getD 11 undef=.pointer (some ⟨bk11,0,none⟩):=hR.b 11;obtain ⟨cx0,cx1,cx2⟩:=c3 (uH hR.below HX11_14);refine gSq (b:=false) e11 ?_;go_simp;exact hK _ _ rfl rB
   ·have e11:av_.tmps.getD 52 undef=.bool false:=hR.g 11;have b13:av_.tmps.getD 13 undef=.pointer (some ⟨bk13,0,none⟩):=hR.b 13;obtain ⟨cx0,cx1,cx2⟩:=c3 (uH hR.below HX13_21);refine gSq (b:=false) e11 ?_;go_simp;exact hK _ _ rfl rB
   ·have e15:av_.tmps.getD 56 undef=.agg #[.bool va.neg,.string (encS va.num),.string (encS va.den)]:=hR.d 15;have e16:av_.tmps.getD 57 undef=.agg #[.bool vb.neg,.string (encS vb.num),.string (encS vb.den)]:=hR.d 16;have e11:av_.tmps.getD 52 undef=.bool false:=hR.g 11;refine gSq (b:=false) e11 ?_;go_simp;refine (C2.out w).mono ?_;rintro e w' ⟨rfl,hb⟩;exact hK _ _ (rfl) hb
   ·have e14:av_.tmps.getD 55 undef=.int .i64 cx:=hR.d 14;have e17:av_.tmps.getD 58 undef=.int .i64 cv:=hR.d 17;have e11:av_.tmps.getD 52 undef=.bool false:=hR.g 11;have hq:=HPR.out;refine gSq (b:=false) e11 ?_;go_simp;exact hK _ _ rfl rB
   ·have e18:av_.tmps.getD 59 undef=.int .i64 pr:=hR.d 18;have e11:av_.tmps.getD 52 undef=.bool false:=hR.g 11;have hq:=HPN.out;refine gSq (b:=false) e11 ?_;go_simp;exact hK _ _ rfl rB
   ·have e11:av_.tmps.getD 52 undef=.bool false:=hR.d 11;have e19:av_.tmps.getD 60 undef=.bool false:=hR.d 19;refine pSq ?_;go_simp;exact hK _ _ rfl rB
  ·intro sv_ w hS hb;have e20:sv_ 61=.bool false:=hS 20 (by decide);simp only [over,ovL,Nat.reduceAdd,Nat.reduceLeDiff,Nat.reduceLT];have HB:=mH HB hb;have HBr:=mH HBr hb;have HX4_1:=uH hb HX4_1;have HX5_2:=uH hb HX5_2;have HX8_3:=uH hb HX8_3;have HX9_5:=uH hb HX9_5;have HX10_6:=uH hb HX10_6;have HX11_14:=uH hb HX11_14;have HX13_21:=uH hb HX13_21;obtain ⟨w17,hw⟩:∃w8,w8=w:=⟨_,rfl⟩;subst hw;rw [e20];clear hS hb e20;have k23:=k1_ (i:=0) (u:=.string ⟨#[98,97,115,105,99]⟩) HX8_3 rfl;have k24:=k1_ (i:=1) (u:=.int .i64 1) HX8_3 rfl;have k25:=k1_ (i:=2) (u:=.int .i64 0) HX8_3 rfl;have k26:=k1_ (i:=3) (u:=.slice ps m.length cs) HX8_3 rfl;go_wp2_with fail;clear k23 k24 k25 k26;have hlt9:=(Array.getElem?_eq_some_iff.1 HX13_21.out).1;have hlt9bk9:=(Array.getElem?_eq_some_iff.1 HX9_5.out).1;have hge9HBr:=HBr.out.size;have hge9:=HB.out.size;rw [←HN0.out] at hge9
   refine (HU2.out _ _ (HLs.out.up HBr.out)).mono ?_;rintro e w18 ⟨v9,rfl,hown,hb⟩;have HX4_1:=uH hb HX4_1;have HX5_2:=uH hb HX5_2;have HX8_3:=uH hb HX8_3;have HX9_5:=uH hb HX9_5;have HX10_6:=uH hb HX10_6;have HX11_14:=uH hb HX11_14;have HX13_21:=uH hb HX13_21;have HBr:=mH HBr hb;have HB:=mH HB hb;obtain ⟨gf,cgf,curgf,rfl,hgg,hNN,hcc,hzz,huu⟩:=own_open hown HS.out.pos;have HXgf:=hD hNN;have HCgf:Hid (Curs curgf (mu.map rawB)):=hD huu;have HZgf:=hD (And.intro hcc hzz);have HGgf:Hid (n0≤gf):=hD (Nat.le_trans hge9 hgg);have HLgf:=hD (Nat.lt_of_lt_of_le hlt9 hgg);clear hlt9;have HMgf_bk9:=hD (Nat.ne_of_lt (Nat.lt_of_lt_of_le hlt9bk9 hgg));clear hlt9bk9;have HGbgf:=hD (Nat.le_trans hge9HBr hgg);clear hge9HBr;clear hown hb hgg hNN hcc hzz huu hge9;obtain ⟨W19,bk15,hW19,hbk15,HX15_27,HB,HG15_27,hup⟩:=boxn HB HN0 (.cells #[.string ⟨#[]⟩,.int .i64 0,.int .i64 0,.slice none 0 0] 26)
   obtain ⟨HBr,HGb15_27⟩:=allB hW19 hbk15 HBr;have HL15_27:=(hup _ _ HXgf).2;have HM15_27_bk9:=hD (Nat.ne_of_lt (hup _ _ HX9_5).2.out);have HX4_1:=(hup _ _ HX4_1).1;have HX5_2:=(hup _ _ HX5_2).1;have HX8_3:=(hup _ _ HX8_3).1;have HX9_5:=(hup _ _ HX9_5).1;have HX10_6:=(hup _ _ HX10_6).1;have HX11_14:=(hup _ _ HX11_14).1;have HX13_21:=(hup _ _ HX13_21).1;have HXgf:=(hup _ _ HXgf).1;clear hup;obtain ⟨W20,hW20,HX15_27,hs,f28a,f28b,f28c,f28d,k28a,k28b,k28c,k28d⟩:=put4_0_4 HX15_27 (.string ⟨#[98,97,115,105,99]⟩) (.int .i64 1) (.int .i64 0) (.slice (some ⟨gf,0,none⟩) m.length cgf);have HB:=hs.bel (gN HN0 HG15_27) HB;have HX4_1:=hs.keep _ _ (by have h0:=HL5_2.out;have h1:=HL8_3.out;have h2:=HL10_6.out;have h3:=HL11_14.out;have h4:=HL13_21.out;have h5:=HLgf.out;have h6:=HL15_27.out;omega) HX4_1
   have HX5_2:=hs.keep _ _ (by have h1:=HL8_3.out;have h2:=HL10_6.out;have h3:=HL11_14.out;have h4:=HL13_21.out;have h5:=HLgf.out;have h6:=HL15_27.out;omega) HX5_2;have HX8_3:=hs.keep _ _ (en5 HL10_6 HL11_14 HL13_21 HLgf HL15_27) HX8_3;have HX9_5:=hs.keep _ _ (fun hc=>HM15_27_bk9.out hc.symm) HX9_5;have HX10_6:=hs.keep _ _ (en4 HL11_14 HL13_21 HLgf HL15_27) HX10_6;have HX11_14:=hs.keep _ _ (en3 HL13_21 HLgf HL15_27) HX11_14;have HX13_21:=hs.keep _ _ (en2 HLgf HL15_27) HX13_21;have HXgf:=hs.keep _ _ (en1 HL15_27) HXgf;have HBr:=hs.bel HGb15_27.out HBr;clear hs;have k29:=k1_ (i:=0) (u:=.int .i64 qa) HX4_1 rfl;have k30:=k1_ (i:=3) (u:=.slice (some ⟨gf,0,none⟩) m.length cgf) HX15_27 rfl;go_wp2_with fail;clear hW19 hbk15 f28a f28b f28c f28d k28a k28b k28c k28d hW20 k29 k30;refine (C3.out _).mono ?_;rintro e w21 ⟨rfl,hb⟩;have HX4_1:=uH hb HX4_1;have HX5_2:=uH hb HX5_2;have HX8_3:=uH hb HX8_3
   have HX9_5:=uH hb HX9_5;have HX10_6:=uH hb HX10_6;have HX11_14:=uH hb HX11_14;have HX13_21:=uH hb HX13_21;have HXgf:=uH hb HXgf;have HX15_27:=uH hb HX15_27;have HBr:=mH HBr hb;have HB:=mH HB hb;clear hb;go_wp2_with fail;refine wpTl (w:=w21) (by kernel_rfl) (fun ix v _=>v=Erises_law_10_3 r7 m k cgf gf bk15 ix) 6 (fun t=>(decide (70≤t)&&decide (t<76))) (by decide) (by kernel_rfl) (by kernel_rfl) (by kernel_rfl) (by kernel_rfl) (by kernel_rfl) (fun _ _ _ _ _ h=>h) ?_ ?_
   ·intro i hi ov_ listed av_ w hR K hK;have ho:=hR.at_;have hi:i<6:=hi;have hii:i=0∨i=1∨i=2∨i=3∨i=4∨i=5:=by omega
    rcases hii with rfl|rfl|rfl|rfl|rfl|rfl<;>(simp at ho;subst ho)
    ·have b15:av_.tmps.getD 15 undef=.pointer (some ⟨bk15,0,none⟩):=hR.b 15;refine pSq ?_;go_simp;exact hK _ _ rfl rB
    ·have e0:av_.tmps.getD 70 undef=.pointer (some ⟨bk15,3,none⟩):=hR.t 0;have cx0:w.cell? ⟨bk15,3,none⟩=some (.slice (some ⟨gf,0,none⟩) m.length cgf):=by rw [Lib.cell_of_heap (hpU hR.below HX15_27.out)];rfl
     refine pSq ?_;go_simp;exact hK _ _ rfl rB
    ·have b16:av_.tmps.getD 16 undef=.int .i64 (k:Int):=hR.b 16;refine pSq ?_;go_simp;exact hK _ _ rfl rB
    ·refine pSq ?_;go_simp;refine (C4.out w).mono ?_;rintro e w' ⟨rfl,hb⟩;exact hK _ _ (rfl) hb
    ·have e1:av_.tmps.getD 71 undef=.slice (some ⟨gf,0,none⟩) m.length cgf:=hR.t 1;have e2:av_.tmps.getD 72 undef=.int .i64 (k:Int):=hR.t 2;have hk3:(k:Int)<(m.length:Int):=by have:=HKL.out;omega
     refine pSq ?_;go_simp;exact hK _ _ rfl rB
    ·have e4:av_.tmps.getD 74 undef=.pointer (some ⟨gf,k*6,none⟩):=hR.t 4;refine pSq ?_;go_simp;exact hK _ _ rfl rB
   ·intro sv_ w hS hb;have e3:sv_ 73=.agg #[.bool r7.neg,.string (encS r7.num),.string (encS r7.den)]:=hS 3 (by decide);have e5:sv_ 75=.pointer (some ⟨gf,k*6+3,none⟩):=hS 5 (by decide);simp only [over,ovL,Nat.reduceAdd,Nat.reduceLeDiff,Nat.reduceLT];have HX4_1:=uH hb HX4_1;have HX5_2:=uH hb HX5_2;have HX8_3:=uH hb HX8_3;have HX9_5:=uH hb HX9_5;have HX10_6:=uH hb HX10_6;have HX11_14:=uH hb HX11_14;have HX13_21:=uH hb HX13_21;have HXgf:=uH hb HXgf;have HX15_27:=uH hb HX15_27;have HB:=mH HB hb;have HBr:=mH HBr hb;obtain ⟨w22,hw⟩:∃w8,w8=w:=⟨_,rfl⟩;subst hw;rw [e3,e5];clear hS hb e3 e5;have f31:w22.frozen? ⟨gf,k*6+3,none⟩=false:=frz0 HXgf.out (k*6+3);have f32:w22.frozen? ⟨gf,k*6+4,none⟩=false:=frz0 HXgf.out (k*6+4);have f33:w22.frozen? ⟨gf,k*6+5,none⟩=false:=frz0 HXgf.out (k*6+5)
    obtain ⟨k34a,k34b,k34c⟩:=cur3 (a:=k*6+3) (c:=k*6+4) (d:=k*6+5) HXgf.out (by have:=HZgf.out.2;have:=HKL.out;omega) (by have:=HZgf.out.2;have:=HKL.out;omega) (by have:=HZgf.out.2;have:=HKL.out;omega);have hB:=(((HB.out.setCell (p:=⟨gf,k*6+3,none⟩) (by rw [←HN0.out];exact HGgf.out) (.bool r7.neg)).setCell (p:=⟨gf,k*6+4,none⟩) (by rw [←HN0.out];exact HGgf.out) (.string (encS r7.num))).setCell (p:=⟨gf,k*6+5,none⟩) (by rw [←HN0.out];exact HGgf.out) (.string (encS r7.den)));have hN:(((w22.setCell ⟨gf,k*6+3,none⟩ (.bool r7.neg)).setCell ⟨gf,k*6+4,none⟩ (.string (encS r7.num))).setCell ⟨gf,k*6+5,none⟩ (.string (encS r7.den))).heap[gf]? =some (.cells ((((curgf.setIfInBounds (k*6+3) (.bool r7.neg)).setIfInBounds (k*6+4) (.string (encS r7.num))).setIfInBounds (k*6+5) (.string (encS r7.den)))) 42 (0,0)):=set3 HXgf.out _ _ _ _ _ _
    have HBr:=hD (((HBr.out.setCell (p:=⟨gf,k*6+3,none⟩) HGbgf.out (.bool r7.neg)).setCell (p:=⟨gf,k*6+4,none⟩) HGbgf.out (.string (encS r7.num))).setCell (p:=⟨gf,k*6+5,none⟩) HGbgf.out (.string (encS r7.den)));have hx4_1:(((w22.setCell ⟨gf,k*6+3,none⟩ (.bool r7.neg)).setCell ⟨gf,k*6+4,none⟩ (.string (encS r7.num))).setCell ⟨gf,k*6+5,none⟩ (.string (encS r7.den))).heap[bk4]? =_:=(row_else (row_else (row_else HX4_1.out (by have h0:=HL5_2.out;have h1:=HL8_3.out;have h2:=HL10_6.out;have h3:=HL11_14.out;have h4:=HL13_21.out;have h5:=HLgf.out;omega) _) (by have h0:=HL5_2.out;have h1:=HL8_3.out;have h2:=HL10_6.out;have h3:=HL11_14.out;have h4:=HL13_21.out;have h5:=HLgf.out;omega) _) (by have h0:=HL5_2.out;have h1:=HL8_3.out;have h2:=HL10_6.out;have h3:=HL11_14.out;have h4:=HL13_21.out;have h5:=HLgf.out;omega) _);have HX4_1:=hD hx4_1;clear hx4_1
    have hx5_2:(((w22.setCell ⟨gf,k*6+3,none⟩ (.bool r7.neg)).setCell ⟨gf,k*6+4,none⟩ (.string (encS r7.num))).setCell ⟨gf,k*6+5,none⟩ (.string (encS r7.den))).heap[bk5]? =_:=(row_else (row_else (row_else HX5_2.out (en5 HL8_3 HL10_6 HL11_14 HL13_21 HLgf) _) (en5 HL8_3 HL10_6 HL11_14 HL13_21 HLgf) _) (en5 HL8_3 HL10_6 HL11_14 HL13_21 HLgf) _);have HX5_2:=hD hx5_2;clear hx5_2;have hx8_3:(((w22.setCell ⟨gf,k*6+3,none⟩ (.bool r7.neg)).setCell ⟨gf,k*6+4,none⟩ (.string (encS r7.num))).setCell ⟨gf,k*6+5,none⟩ (.string (encS r7.den))).heap[bk8]? =_:=(row_else (row_else (row_else HX8_3.out (en4 HL10_6 HL11_14 HL13_21 HLgf) _) (en4 HL10_6 HL11_14 HL13_21 HLgf) _) (en4 HL10_6 HL11_14 HL13_21 HLgf) _);have HX8_3:=hD hx8_3;clear hx8_3
    have hx9_5:(((w22.setCell ⟨gf,k*6+3,none⟩ (.bool r7.neg)).setCell ⟨gf,k*6+4,none⟩ (.string (encS r7.num))).setCell ⟨gf,k*6+5,none⟩ (.string (encS r7.den))).heap[bk9]? =_:=(row_else (row_else (row_else HX9_5.out (fun hc=>HMgf_bk9.out hc.symm) _) (fun hc=>HMgf_bk9.out hc.symm) _) (fun hc=>HMgf_bk9.out hc.symm) _);have HX9_5:=hD hx9_5;clear hx9_5;have hx10_6:(((w22.setCell ⟨gf,k*6+3,none⟩ (.bool r7.neg)).setCell ⟨gf,k*6+4,none⟩ (.string (encS r7.num))).setCell ⟨gf,k*6+5,none⟩ (.string (encS r7.den))).heap[bk10]? =_:=(row_else (row_else (row_else HX10_6.out (en3 HL11_14 HL13_21 HLgf) _) (en3 HL11_14 HL13_21 HLgf) _) (en3 HL11_14 HL13_21 HLgf) _);have HX10_6:=hD hx10_6;clear hx10_6
    have hx11_14:(((w22.setCell ⟨gf,k*6+3,none⟩ (.bool r7.neg)).setCell ⟨gf,k*6+4,none⟩ (.string (encS r7.num))).setCell ⟨gf,k*6+5,none⟩ (.string (encS r7.den))).heap[bk11]? =_:=(row_else (row_else (row_else HX11_14.out (en2 HL13_21 HLgf) _) (en2 HL13_21 HLgf) _) (en2 HL13_21 HLgf) _);have HX11_14:=hD hx11_14;clear hx11_14;have hx13_21:(((w22.setCell ⟨gf,k*6+3,none⟩ (.bool r7.neg)).setCell ⟨gf,k*6+4,none⟩ (.string (encS r7.num))).setCell ⟨gf,k*6+5,none⟩ (.string (encS r7.den))).heap[bk13]? =_:=(row_else (row_else (row_else HX13_21.out (en1 HLgf) _) (en1 HLgf) _) (en1 HLgf) _);have HX13_21:=hD hx13_21;clear hx13_21;have hx15_27:(((w22.setCell ⟨gf,k*6+3,none⟩ (.bool r7.neg)).setCell ⟨gf,k*6+4,none⟩ (.string (encS r7.num))).setCell ⟨gf,k*6+5,none⟩ (.string (encS r7.den))).heap[bk15]? =_:=(row_else (row_else (row_else HX15_27.out (ne1 HL15_27) _) (ne1 HL15_27) _) (ne1 HL15_27) _)
    have HX15_27:=hD hx15_27;clear hx15_27;obtain ⟨W23,hW23⟩:∃W,(((w22.setCell ⟨gf,k*6+3,none⟩ (.bool r7.neg)).setCell ⟨gf,k*6+4,none⟩ (.string (encS r7.num))).setCell ⟨gf,k*6+5,none⟩ (.string (encS r7.den)))=W:=⟨_,rfl⟩;rw [hW23] at HBr;rw [hW23] at hN hB HX4_1 HX5_2 HX8_3 HX9_5 HX10_6 HX11_14 HX13_21 HX15_27;have HXgf:=hD hN;have HB:=hD hB;clear hN hB;refine tail_step (n:=0) rfl rfl ?_;go_simp
    try rw [hW23]
    clear f31 f32 f33 k34a k34b k34c hW23;simp only [wpTail];have HLF:Hid (LstK W23 (.slice (some ⟨gf,0,none⟩) m.length cgf) ((mu.set k (frT mu k,r7)).map rawB)):=hD (by
     have hmu:=HUL.out;have hz:=HZgf.out;exact curs_lst HXgf.out (curs_rate (by rw [hmu];exact HKL.out) HCgf.out (by rw [hmu];exact hz.2)) (by rw [List.length_map,List.length_set,hmu]) hz.1 (by have:=HS.out.le;omega))
    have HBf:=hD (Below.refl W23.heap.size W23);have C11:Hid (∀w,Below W23.heap.size W23 w→Gv 29 #[.agg #[.string ⟨#[98,97,115,105,99]⟩,.int .i64 1,.int .i64 0,.slice (some ⟨gf,0,none⟩) m.length cgf],rtV y] w (.tuple #[.agg #[.bool false,.string ⟨#[]⟩,.string ⟨#[]⟩],.int .i64 1])):=hD fun w hp0=>Inv_s ⟨#[98,97,115,105,99]⟩ 1 0 _ _ y zrow 1 HFS.out HZY.out (invV_falls HFS.out HFN.out) w (HLF.out.up hp0)
    have C12:Hid (∀w,Below W23.heap.size W23 w→Gv 23 #[.agg #[.string ⟨#[98,97,115,105,99]⟩,.int .i64 1,.int .i64 0,.slice (some ⟨gf,0,none⟩) m.length cgf]] w (.bool false)):=hD fun w hp0=>Rise_s ⟨#[98,97,115,105,99]⟩ 1 0 _ _ HFS.out false HFN.out w (HLF.out.up hp0)
    have C13:Hid (∀w,Below W23.heap.size W23 w→Gv 22 #[.agg #[.string ⟨#[98,97,115,105,99]⟩,.int .i64 1,.int .i64 0,.slice (some ⟨gf,0,none⟩) m.length cgf]] w (.int .i64 0)):=hD fun w hp0=>Check_s ⟨#[98,97,115,105,99]⟩ 1 0 _ _ HFS.out w (HLF.out.up hp0)
    have k35:=k1_ (i:=0) (u:=.string ⟨#[98,97,115,105,99]⟩) HX15_27 rfl;have k36:=k1_ (i:=1) (u:=.int .i64 1) HX15_27 rfl;have k37:=k1_ (i:=2) (u:=.int .i64 0) HX15_27 rfl;have k38:=k1_ (i:=3) (u:=.slice (some ⟨gf,0,none⟩) m.length cgf) HX15_27 rfl;obtain ⟨k39a,k39b,k39c⟩:=c3 HX10_6;go_wp2_with fail;clear k35 k36 k37 k38 k39a k39b k39c;refine (C11.out _ HBf.out).mono ?_;rintro e w24 ⟨rfl,hb⟩;have HX4_1:=uH hb HX4_1;have HX5_2:=uH hb HX5_2;have HX8_3:=uH hb HX8_3;have HX9_5:=uH hb HX9_5;have HX10_6:=uH hb HX10_6;have HX11_14:=uH hb HX11_14;have HX13_21:=uH hb HX13_21;have HXgf:=uH hb HXgf;have HX15_27:=uH hb HX15_27;have HBf:=mH HBf hb;have HB:=mH HB hb;clear hb;obtain ⟨W25,bk17,hW25,hbk17,HX17_40,HB,HG17_40,hup⟩:=boxZ HB HN0;obtain ⟨HBf,HGb17_40⟩:=allB hW25 hbk17 HBf;have HL17_40:=(hup _ _ HX15_27).2;have HM17_40_bk9:=hD (Nat.ne_of_lt (hup _ _ HX9_5).2.out);have HX4_1:=(hup _ _ HX4_1).1
    have HX5_2:=(hup _ _ HX5_2).1;have HX8_3:=(hup _ _ HX8_3).1;have HX9_5:=(hup _ _ HX9_5).1;have HX10_6:=(hup _ _ HX10_6).1;have HX11_14:=(hup _ _ HX11_14).1;have HX13_21:=(hup _ _ HX13_21).1;have HXgf:=(hup _ _ HXgf).1;have HX15_27:=(hup _ _ HX15_27).1;clear hup;obtain ⟨W26,hW26,HX17_40,hs,f41a,f41b,f41c,k41a,k41b,k41c⟩:=put3_0_3 HX17_40 (.bool false) (.string ⟨#[]⟩) (.string ⟨#[]⟩);have HB:=hs.bel (gN HN0 HG17_40) HB;have HX4_1:=hs.keep _ _ (by have h0:=HL5_2.out;have h1:=HL8_3.out;have h2:=HL10_6.out;have h3:=HL11_14.out;have h4:=HL13_21.out;have h5:=HLgf.out;have h6:=HL15_27.out;have h7:=HL17_40.out;omega) HX4_1;have HX5_2:=hs.keep _ _ (by have h1:=HL8_3.out;have h2:=HL10_6.out;have h3:=HL11_14.out;have h4:=HL13_21.out;have h5:=HLgf.out;have h6:=HL15_27.out;have h7:=HL17_40.out;omega) HX5_2
    have HX8_3:=hs.keep _ _ (by have h2:=HL10_6.out;have h3:=HL11_14.out;have h4:=HL13_21.out;have h5:=HLgf.out;have h6:=HL15_27.out;have h7:=HL17_40.out;omega) HX8_3;have HX9_5:=hs.keep _ _ (fun hc=>HM17_40_bk9.out hc.symm) HX9_5;have HX10_6:=hs.keep _ _ (en5 HL11_14 HL13_21 HLgf HL15_27 HL17_40) HX10_6;have HX11_14:=hs.keep _ _ (en4 HL13_21 HLgf HL15_27 HL17_40) HX11_14;have HX13_21:=hs.keep _ _ (en3 HLgf HL15_27 HL17_40) HX13_21;have HXgf:=hs.keep _ _ (en2 HL15_27 HL17_40) HXgf;have HX15_27:=hs.keep _ _ (en1 HL17_40) HX15_27;have HBf:=hs.bel HGb17_40.out HBf;clear hs;have k42:=k1_ (i:=0) (u:=.string ⟨#[98,97,115,105,99]⟩) HX15_27 rfl;have k43:=k1_ (i:=1) (u:=.int .i64 1) HX15_27 rfl;have k44:=k1_ (i:=2) (u:=.int .i64 0) HX15_27 rfl;have k45:=k1_ (i:=3) (u:=.slice (some ⟨gf,0,none⟩) m.length cgf) HX15_27 rfl;go_wp2_with fail
    clear hW25 hbk17 f41a f41b f41c k41a k41b k41c hW26 k42 k43 k44 k45;refine (C12.out _ HBf.out).mono ?_;rintro e w27 ⟨rfl,hb⟩;have HX4_1:=uH hb HX4_1;have HX5_2:=uH hb HX5_2;have HX8_3:=uH hb HX8_3;have HX9_5:=uH hb HX9_5;have HX10_6:=uH hb HX10_6;have HX11_14:=uH hb HX11_14;have HX13_21:=uH hb HX13_21;have HXgf:=uH hb HXgf;have HX15_27:=uH hb HX15_27;have HX17_40:=uH hb HX17_40;have HBf:=mH HBf hb;have HB:=mH HB hb;clear hb;have k46:=k1_ (i:=0) (u:=.string ⟨#[98,97,115,105,99]⟩) HX15_27 rfl;have k47:=k1_ (i:=1) (u:=.int .i64 1) HX15_27 rfl;have k48:=k1_ (i:=2) (u:=.int .i64 0) HX15_27 rfl;have k49:=k1_ (i:=3) (u:=.slice (some ⟨gf,0,none⟩) m.length cgf) HX15_27 rfl;go_wp2_with fail;clear k46 k47 k48 k49;refine (C13.out _ HBf.out).mono ?_;rintro e w28 ⟨rfl,hb⟩;have HX4_1:=uH hb HX4_1;have HX5_2:=uH hb HX5_2;have HX8_3:=uH hb HX8_3;have HX9_5:=uH hb HX9_5;have HX10_6:=uH hb HX10_6
    have HX11_14:=uH hb HX11_14;have HX13_21:=uH hb HX13_21;have HXgf:=uH hb HXgf;have HX15_27:=uH hb HX15_27;have HX17_40:=uH hb HX17_40;have HBf:=mH HBf hb;have HB:=mH HB hb;clear hb;go_wp2_with fail;go_ret;exact ⟨rfl,by rw [HN0.out];exact HB.out⟩
end Go.Proofs.YtblgfmjlajhipaaGreatDoor
