/- RateBack: contracts and the law's walk. Each theorem names its conditions. -/
import Derived.RangeFuncKeeps
import Derived.OwnWalkIn
import Derived.TacticsInMore
import Derived.LoopNIn
import Derived.LoopIn
import Derived.Shelf.SortM.Plain
import Derived.Shelf.SortM.SortNone
import Derived.Ground.GgzProg
import Derived.Ground.SlgmProg
import Derived.Maps.Own
import Derived.Maps.OwnOps
import Derived.Maps.OwnSet
import Derived.Maps.Views
import Derived.Shelf.SlIterI.Nil
import Derived.WalkKit
import Derived.Deep.LoopGhost
import Derived.Deep.QuietTactic
import Derived.BigQuiet
import Derived.Test.YtblgfmjlajhipaaGreatDoorProg
import Derived.WalkSpells
import Derived.WalkLawsBesides
import Derived.IntWalk
import Derived.Lib.Hide
import Derived.Laws.BitsAllLaws
import Derived.StillTailTactics
import Derived.Deep.OwnRows
import Derived.Lib.ConvBytes
import Derived.Below
import Derived.Shelf.Strings.Trim
import Derived.Shelf.Small.Utf8
import Derived.Shelf.Small.Bits
import Derived.Shelf.Small.Strs
import Derived.Shelf.Strconv.Itoa0
import Derived.Shelf.Strings.Search1
import Derived.Shelf.Strings.Runes
import Derived.Shelf.Strings.AsciiSet
import Derived.Shelf.Unicode.DecodeSlow
import Derived.Shelf.Unicode.DecodeAny
import Derived.Deep.DeepCutAuto
import Derived.Laws.AppendOwn
import Derived.Deep.DeepAppendWide
import Derived.Test.YtblgfmjlajhipaaGreatDoorKba7
import Derived.Test.YtblgfmjlajhipaaGreatDoorZd3
import Derived.Test.YtblgfmjlajhipaaGreatDoorZd2
import Derived.Test.YtblgfmjlajhipaaGreatDoorZd1
import Derived.Test.YtblgfmjlajhipaaGreatDoorZd0
import Derived.Test.YtblgfmjlajhipaaGreatDoorZc8
import Derived.Test.YtblgfmjlajhipaaGreatDoorZc7
import Derived.Test.YtblgfmjlajhipaaGreatDoorZc6
import Derived.Test.YtblgfmjlajhipaaGreatDoorZb7
import Derived.Test.YtblgfmjlajhipaaGreatDoorZb5
import Derived.Test.YtblgfmjlajhipaaGreatDoorZa6
import Derived.Test.YtblgfmjlajhipaaGreatDoorKba2
import Derived.Test.YtblgfmjlajhipaaGreatDoorZb4
import Derived.Test.YtblgfmjlajhipaaGreatDoorZa7
import Derived.Test.YtblgfmjlajhipaaGreatDoorZa5
import Derived.Test.YtblgfmjlajhipaaGreatDoorZa4
import Derived.Test.YtblgfmjlajhipaaGreatDoorZa3
import Derived.Test.YtblgfmjlajhipaaGreatDoorZa0
import Derived.Test.YtblgfmjlajhipaaGreatDoorZa1
import Derived.Test.YtblgfmjlajhipaaGreatDoorKba0
import Derived.Test.YtblgfmjlajhipaaGreatDoorZa2
import Derived.Test.YtblgfmjlajhipaaGreatDoorZb6
import Derived.Test.YtblgfmjlajhipaaGreatDoorKba1
import Derived.Test.YtblgfmjlajhipaaGreatDoorZc5
import Derived.Test.YtblgfmjlajhipaaGreatDoorZc4
import Derived.Test.YtblgfmjlajhipaaGreatDoorZc3
import Derived.Test.YtblgfmjlajhipaaGreatDoorZc2
import Derived.Test.YtblgfmjlajhipaaGreatDoorZc1
import Derived.Test.YtblgfmjlajhipaaGreatDoorZc0
import Derived.Test.YtblgfmjlajhipaaGreatDoorZb9
import Derived.Test.YtblgfmjlajhipaaGreatDoorZb8
import Derived.Test.YtblgfmjlajhipaaGreatDoorZc9
set_option maxHeartbeats 16000000
set_option linter.unusedVariables false
namespace Go.Proofs.YtblgfmjlajhipaaGreatDoor
open Go.RowKit Go.Shelf
open Dgt
def Eback_law_8_1 (z:Rt) (hf2:Rt) (ju:Rt) (u0:Rt) (u1:Rt) (ni:Int) (mn:Int) (nj:Int) (ws:Nat):Nat→Value
 | 0=>.agg #[.bool z.neg,.string (encS z.num),.string (encS z.den)]
 | 1=>.agg #[.bool hf2.neg,.string (encS hf2.num),.string (encS hf2.den)]
 | 2=>.agg #[.bool u0.neg,.string (encS u0.num),.string (encS u0.den)]
 | 3=>.agg #[.bool z.neg,.string (encS z.num),.string (encS z.den)]
 | 4=>.int .i64 ni
 | 5=>.int .i64 mn
 | 6=>.int .i64 nj
 | 7=>.agg #[.bool ju.neg,.string (encS ju.num),.string (encS ju.den)]
 | 8=>.agg #[.bool u1.neg,.string (encS u1.num),.string (encS u1.den)]
 | 10=>.int .i64 2
 | 11=>.int .i64 0
 | _=>undef
def Sback_law_8_1 (z:Rt) (hf2:Rt) (ju:Rt) (u0:Rt) (u1:Rt) (ni:Int) (mn:Int) (nj:Int) (ws:Nat) (ix:Nat) (v:Value) (w:World):Prop :=
 match ix with
 | 9=>∃g,v=.slice (some ⟨g,0,none⟩) 2 2∧ws≤g∧w.heap[g]? =some (.cells #[.bool u0.neg,.string (encS u0.num),.string (encS u0.den),.bool u1.neg,.string (encS u1.num),.string (encS u1.den)] 29 (0,0))
 | ix=>v=Eback_law_8_1 z hf2 ju u0 u1 ni mn nj ws ix
theorem Sback_law_8_1_up (z:Rt) (hf2:Rt) (ju:Rt) (u0:Rt) (u1:Rt) (ni:Int) (mn:Int) (nj:Int) (ws:Nat) (ix:Nat) (v:Value) (w w' :World) (hb:Below w.heap.size w w') (h:Sback_law_8_1 z hf2 ju u0 u1 ni mn nj ws ix v w):Sback_law_8_1 z hf2 ju u0 u1 ni mn nj ws ix v w' :=by
 unfold Sback_law_8_1 at h ⊢
 split at h
 ·exact by obtain ⟨g,e1,e2,e3⟩:=h;exact ⟨g,e1,e2,hpU hb e3⟩
 ·exact h
def Eback_law_17_2 (zr:Rt) (m:List BT) (kz:Nat) (cgf:Nat) (gf:Nat) (bk18:Nat):Nat→Value
 | 0=>.pointer (some ⟨bk18,3,none⟩)
 | 1=>.slice (some ⟨gf,0,none⟩) m.length cgf
 | 2=>.pointer (some ⟨bk18,3,none⟩)
 | 3=>.slice (some ⟨gf,0,none⟩) m.length cgf
 | 4=>.int .i64 (m.length:Int)
 | 5=>.int .i64 (kz:Int)
 | 6=>.agg #[.bool zr.neg,.string (encS zr.num),.string (encS zr.den)]
 | 7=>.pointer (some ⟨gf,kz*6,none⟩)
 | 8=>.pointer (some ⟨gf,kz*6+3,none⟩)
 | _=>undef
def Eback_law_19_3 (ju:Rt) (jm:Rt) (tp:Rt) (ty:Rt) (ni:Int) (mn:Int) (nj:Int) (ps:Option Addr) (cs:Nat) (m:List BT) (cgf:Nat) (gf:Nat):Nat→Value
 | 0=>.bool true
 | 1=>.bool true
 | 2=>.int .i64 0
 | 3=>.bool true
 | 4=>.bool true
 | 5=>.bool true
 | 6=>.agg #[.string ⟨#[98,97,115,105,99]⟩,.int .i64 1,.int .i64 0,.slice (some ⟨gf,0,none⟩) m.length cgf]
 | 7=>.agg #[.bool tp.neg,.string (encS tp.num),.string (encS tp.den)]
 | 8=>.int .i64 ni
 | 9=>.int .i64 mn
 | 10=>.int .i64 nj
 | 11=>.agg #[.bool ju.neg,.string (encS ju.num),.string (encS ju.den)]
 | 12=>.agg #[.bool ty.neg,.string (encS ty.num),.string (encS ty.den)]
 | 13=>.agg #[.bool false,.string ⟨#[]⟩,.string ⟨#[]⟩]
 | 14=>.bool true
 | 15=>.bool true
 | 16=>.bool true
 | 17=>.agg #[.string ⟨#[98,97,115,105,99]⟩,.int .i64 1,.int .i64 0,.slice ps m.length cs]
 | 18=>.int .i64 ni
 | 19=>.int .i64 mn
 | 20=>.int .i64 nj
 | 21=>.agg #[.bool jm.neg,.string (encS jm.num),.string (encS jm.den)]
 | 22=>.agg #[.bool false,.string ⟨#[]⟩,.string ⟨#[]⟩]
 | 23=>.bool true
 | 24=>.bool true
 | 25=>.bool true
 | _=>undef
set_option maxRecDepth 100000 in
theorem back_law (p:Option Addr) (n cap:Nat) (l:List T3) (qa qb qc ni:Int) (hi:I3 l) (iq:I64 qa∧I64 qb∧I64 qc) (ini:I64 ni) (wq:World) (hl:Cut3 wq (.slice p n cap) n l) :
  Gv 7 #[.slice p n cap,.agg #[.int .i64 qa,.int .i64 qb,.int .i64 qc],.int .i64 ni] wq (.bool true):=by
 unfold Gv;have HC3:=hD hl;have hmd:=fun w h=>Made_own p n cap l hi w h
 have hm0:=made_mild l;have hlen:madeN l=(madeB l).length:=by unfold madeB;rw [madeK_len]
 have hi0:=made_inv l;obtain ⟨m0,e0⟩:∃x,madeB l=x:=⟨_,rfl⟩;rw [hlen] at hmd;rw [e0] at hmd hm0 hi0;have HMD:=hD hmd;have hmm:=up_mild hm0;have hii:=up_inv hi0;have hff:=up_falls hm0;have hup:=fun v w h=>Up_own ⟨#[98,97,115,105,99]⟩ 1 0 v m0 hm0.sch w h
 have hul:=upB_len m0;obtain ⟨m,e1⟩:∃x,upB m0=x:=⟨_,rfl⟩;rw [e1] at hmm hii hff hup hul;rw [←hul] at hup;have HUP:=hD hup;have HFF:=hD hff;have hs:=hmm.sch;have HMM:=hD hmm;have HS:=hD hs;have HM0:=hD hm0;clear hl hmd hlen e0 hup hul e1;have ax:=amt_gd hmm (qa,qb,qc);have fx:=amt_fit hmm (qa,qb,qc);have AMx:=hD (fun v w h=>amount_any ⟨#[98,97,115,105,99]⟩ 1 0 v m qa qb qc hs iq.1 iq.2.1 iq.2.2 w h);obtain ⟨x,hx⟩:∃z,amtT m (qa,qb,qc)=z:=⟨_,rfl⟩;rw [hx] at ax fx AMx;clear hx;have vx:=amt_val hmm ax.1 ax.2;have HOx:=hD (And.intro ax.1 (And.intro fx vx));obtain ⟨z,hB⟩:=back_sched hmm hii hff ax.1 ax.2;have ok1:=half_back hmm hB;have ok2:=below_back hmm hB ni;have hum:=up_mild hmm;have hul:=upB_len m;have huf:=up_falls hmm;have hw2:=fun v w h=>Up_own ⟨#[98,97,115,105,99]⟩ 1 0 v m hs w h
 obtain ⟨mu,hmu⟩:∃z,upB m=z:=⟨_,rfl⟩;rw [hmu] at hum hul huf hw2;have HU2:=hD hw2;have HUL:=hD hul;have HUS:=hD hum.sch;obtain ⟨t1,t2,t3,t4,t5,t6⟩:=flat_top hum huf ni;have hfs:Sch (flatB mu):=(set_mild hum (k:=mu.length-1) (by have:=hum.sch.pos;omega)).sch;obtain ⟨y,hy⟩:∃w,valT m x m.length=w:=⟨_,rfl⟩;have yo:y.Ok:=by rw [←hy];exact val_ok hs ax.1 _
 rw [hy] at hB vx;have HY:=hD hy;have r1:=mod_in ni (show (0:Int)<1000 by decide);have pu:=part_unit ni;have uf:=unit_fit ni;have hin:=invV_neg hs hff uf.2.1 uf.1 uf.2.2;have hbt:belowT z ni=subR z (fracT 1 (ni%1000+1)):=rfl;obtain ⟨mn,h1⟩:∃w,ni%1000=w:=⟨_,rfl⟩;have cm:=fun w=>mod2 ni 1000 w ini.1 ini.2 (by decide) (by decide)
 rw [h1] at cm r1 pu uf hin hbt t6;obtain ⟨nj,h2⟩:∃w,mn+1=w:=⟨_,rfl⟩;rw [h2] at pu uf hin hbt t6;have HNJ:Hid (IntKind.i64.wrap (mn+1)=nj):=hD (wrap_in (by omega) h2);have cr1:=fun w=>rat_any 1 2 (by decide) (by decide) (by decide) w
 have cr2:=fun w=>rat_any 1 nj (by decide) (by omega) (by omega) w
 have cr3:=fun w=>rat_any (-1) nj (by decide) (by omega) (by omega) w
 have cr0:=fun w=>rat_any 0 1 (by decide) (by decide) (by decide) w
 have hz0:fracT 0 1=zeroR:=q_inj (frac_ok 0 (by decide)) zeroR_ok (by rw [frac_q 0 (by decide),q_zero,show ((0:Int):Rat)=0 from rfl];grind);rw [hz0] at cr0;have z2:Rz (fracT 1 2) 1000:=(quoR_sz (ofR_sz (n:=1) (by decide) (by decide)) (ofR_sz (n:=2) (by decide) (by decide))).mono (by decide);have z3:Rz (fracT 1 nj) 1000:=(quoR_sz (ofR_sz (n:=1) (by decide) (by decide)) (ofR_sz (n:=nj) (by omega) (by omega))).mono (by decide);have c1:=fun w=>rRatMul_r (IsR.of hB.ok (fit_rz hB.fit)) (IsR.of (frac_ok 1 (show (2:Int)≠0 by decide)) z2) (by decide) (by decide) w
 have c2:=fun w=>rRatSub_r (IsR.of hB.ok (fit_rz hB.fit)) (IsR.of pu.1 z3) (by decide) (by decide) w
 have c3:=fun w=>rRatSign_r (IsR.of hB.ok (fit_rz hB.fit)) (by decide) w
 have c4:=fun w=>rRatSign_r (IsR.of ax.1 (fit_rz fx)) (by decide) w
 have c5:=fun w=>rRatCmp_r (IsR.of hB.ok (fit_rz hB.fit)) (IsR.of ax.1 (fit_rz fx)) (by decide) (by decide) w
 have c6:=fun w=>rRatAdd_r (IsR.of t5 (t4.mono (show 50≤1000 by decide))) (IsR.of pu.1 z3) (by decide) (by decide) w
 rw [←hbt] at c2;have g1:0≤sgnR z:=by rw [sgnR_q hB.ok,sgQ_ge0];exact hB.nn
 have g2:0≤sgnR x→cmpR z x≤0:=fun h=>by
  rw [sgnR_q ax.1,sgQ_ge0] at h;have:=hB.le h;rw [cmpR_q hB.ok ax.1,sgQ_le0];grind
 have HLESS:Hid (∀u:Rt,u.Ok→0≤sgnR u→u.q≤z.q→eqR u z=false→cmpR (valT m u m.length) y<0):=hD fun u hu h0 hle hne=>by
  rw [sgnR_q hu,sgQ_ge0] at h0;have hlt:u.q<z.q:=by
   rcases Classical.em (u.q=z.q) with e|e
   ·exact absurd (q_inj hu hB.ok e) (eqR_false.1 hne)
   ·grind
  have:=hB.less u hu h0 hlt;rw [cmpR_q (val_ok hs hu _) yo,sgQ_lt0];grind
 obtain ⟨u0,k1⟩:∃w,halfT z=w:=⟨_,rfl⟩;obtain ⟨u1,k2⟩:∃w,belowT z ni=w:=⟨_,rfl⟩;have HH1:Hid (mulR z (fracT 1 2)=u0):=hD k1;rw [k1] at ok1;rw [k2] at ok2 c2;rw [HH1.out] at c1;have HU0:=hD ok1;have HU1:=hD ok2;obtain ⟨hf2,k3⟩:∃w,fracT 1 2=w:=⟨_,rfl⟩;rw [k3] at c1 cr1;obtain ⟨ju,k4⟩:∃w,fracT 1 nj=w:=⟨_,rfl⟩;rw [k4] at c2 c6 cr2 t6;obtain ⟨jm,k5⟩:∃w,fracT (-1) nj=w:=⟨_,rfl⟩;rw [k5] at cr3 uf hin;obtain ⟨sz,k6⟩:∃w,sgnR z=w:=⟨_,rfl⟩;rw [k6] at c3 g1;obtain ⟨sx,k7⟩:∃w,sgnR x=w:=⟨_,rfl⟩;rw [k7] at c4 g2;obtain ⟨cz,k8⟩:∃w,cmpR z x=w:=⟨_,rfl⟩;rw [k8] at c5 g2;have HSZ:Hid (decide (sz<0)=false):=hD (decide_eq_false (by omega));have HCZ:Hid (0≤sx→decide (0<cz)=false):=hD fun h=>decide_eq_false (by have:=g2 h;omega)
 obtain ⟨kz,hkz⟩:∃kz:Nat,m.length-1=kz:=⟨_,rfl⟩;have hml:=hs.pos;have hm8:=hs.le;have HKL:Hid (kz<m.length):=hD (by omega);have HKW:Hid (IntKind.i64.wrap ((m.length:Int)-1)=(kz:Int)):=hD (wrap_in (by omega) (by omega));have hfd:flatB mu=mu.set kz (frT mu kz,zeroR):=by unfold flatB;rw [hul,hkz]
 have hku:mu.length-1=kz:=by omega
 rw [hku] at t1 t2 t3 t4 t5 t6 c6;obtain ⟨lf,k9⟩:∃w,frT mu kz=w:=⟨_,rfl⟩;obtain ⟨lr,k10⟩:∃w,rtT mu kz=w:=⟨_,rfl⟩;have HLF:=hD k9;have HLR:=hD k10;rw [k9] at t1 t2 t3 t4 t5 t6 c6 hfd;obtain ⟨mf,k11⟩:∃w,flatB mu=w:=⟨_,rfl⟩;rw [k11] at t3 t4 t5 t6 c6 hfd hfs;obtain ⟨zr,k12⟩:∃w,zeroR=w:=⟨_,rfl⟩;rw [k12] at cr0 hfd;obtain ⟨tp,k13⟩:∃w,valT mf lf mf.length=w:=⟨_,rfl⟩;rw [k13] at t4 t5 t6 c6;obtain ⟨ty,k14⟩:∃w,addR tp ju=w:=⟨_,rfl⟩;rw [k14] at c6 t6;have z3b:Rz ju 50:=by rw [←k4];exact (quoR_sz (ofR_sz (n:=1) (by decide) (by decide)) (ofR_sz (n:=nj) (by omega) (by omega))).mono (by decide)
 have HTZ:Hid (Rz ty 1000):=hD (by rw [←k14];exact (addR_sz t4 z3b).mono (by decide));have HTP:=hD k13;have HFD:=hD hfd;have HFS:=hD hfs;have HTF:=hD (And.intro t1 (And.intro t2 t3));have HTI:=hD t6;have HJM:=hD (And.intro hin (fit_rz uf.1));have HBK:=hD hB;have HVX:=hD vx;have HYZ:=hD (fit_rz vx);have HYO:=hD yo;clear hmm hs hff hii hum hul huf hw2 hmu t1 t2 t3 t4 t5 t6 hfs hy yo r1 pu uf hin hbt h1 h2 hz0 z2 z3 z3b g1 g2 k1 k2 k3 k4 k5 k6 k7 k8 k9 k10 k11 k12 k13 k14 hkz hml hm8 hfd hku ok1 ok2 hB vx ax fx hm0 hi0 iq ini hi;have C1:Hid (∀w,Gv 18 #[.int .i64 ni,.int .i64 1000] w (.int .i64 mn)):=hD cm;have C2:Hid (∀w,Gv 20 #[.int .i64 1,.int .i64 2] w (.agg #[.bool hf2.neg,.string (encS hf2.num),.string (encS hf2.den)])):=hD cr1;have C3:Hid (∀w,Gv 20 #[.int .i64 1,.int .i64 nj] w (.agg #[.bool ju.neg,.string (encS ju.num),.string (encS ju.den)])):=hD cr2
 have C4:Hid (∀w,Gv 20 #[.int .i64 (-1),.int .i64 nj] w (.agg #[.bool jm.neg,.string (encS jm.num),.string (encS jm.den)])):=hD cr3;have C5:Hid (∀w,Gv 20 #[.int .i64 0,.int .i64 1] w (.agg #[.bool zr.neg,.string (encS zr.num),.string (encS zr.den)])):=hD cr0;have C6:Hid (∀w,Gv 28 #[rtV z,rtV hf2] w (.agg #[.bool u0.neg,.string (encS u0.num),.string (encS u0.den)])):=hD c1;have C7:Hid (∀w,Gv 27 #[rtV z,rtV ju] w (.agg #[.bool u1.neg,.string (encS u1.num),.string (encS u1.den)])):=hD c2;have C8:Hid (∀w,Gv 26 #[rtV z] w (.int .i64 sz)):=hD c3;have C9:Hid (∀w,Gv 26 #[rtV x] w (.int .i64 sx)):=hD c4;have C10:Hid (∀w,Gv 24 #[rtV z,rtV x] w (.int .i64 cz)):=hD c5;have C11:Hid (∀w,Gv 19 #[rtV tp,rtV ju] w (.agg #[.bool ty.neg,.string (encS ty.num),.string (encS ty.den)])):=hD c6;clear cm cr1 cr2 cr3 cr0 c1 c2 c3 c4 c5 c6;have C12:Hid (∀w,Gv 12 #[] w (.bool true)):=hD fun w=>sanity_any w
 have HB:=hD (Below.refl wq.heap.size wq);obtain ⟨n0,hn0⟩:∃n,n=wq.heap.size:=⟨_,rfl⟩;rw [←hn0];have HN0:=hD hn0;clear hn0;go_enter Tryz.func7,Tryz.ntmps7;obtain ⟨W1,bk4,hW1,hbk4,HX4_1,HB,HG4_1,hup⟩:=boxn HB HN0 (.cells #[.int .i64 qa,.int .i64 qb,.int .i64 qc] 34);clear hup;go_wp2_with fail;clear hW1 hbk4;refine (C12.out _).mono ?_;rintro e w2 ⟨rfl,hb⟩;have HX4_1:=uH hb HX4_1;have HB:=mH HB hb;clear hb;go_wp2_with fail;refine (HMD.out _ (HC3.out.up HB.out)).mono ?_;rintro e w3 ⟨v9,rfl,hown,hb⟩;have HX4_1:=uH hb HX4_1;have HB:=mH HB hb;have HLM:=hD (own_lstK (l:=m0.map rawB) (by rw [List.length_map];exact hown) (by rw [List.length_map];have:=HM0.out.sch.le;omega));obtain ⟨pm,cm,rfl⟩:=own_slice hown;clear hown hb;go_wp2_with fail;refine (HUP.out _ _ (HLM.out)).mono ?_;rintro e w4 ⟨v9,rfl,hown,hb⟩;have HX4_1:=uH hb HX4_1;have HB:=mH HB hb
 have HLs:=hD (own_lstK (l:=m.map rawB) (by rw [List.length_map];exact hown) (by rw [List.length_map];have:=HS.out.le;omega));obtain ⟨ps,cs,rfl⟩:=own_slice hown;clear hown hb;have HBr:=hD (Below.refl w4.heap.size w4);obtain ⟨W5,bk8,hW5,hbk8,HX8_2,HB,HG8_2,hup⟩:=boxn HB HN0 (.cells #[.string ⟨#[]⟩,.int .i64 0,.int .i64 0,.slice none 0 0] 26);obtain ⟨HBr,HGb8_2⟩:=allB hW5 hbk8 HBr;have HL8_2:=(hup _ _ HX4_1).2;have HX4_1:=(hup _ _ HX4_1).1;clear hup;obtain ⟨W6,hW6,HX8_2,hs,f3a,f3b,f3c,f3d,k3a,k3b,k3c,k3d⟩:=put4_0_4 HX8_2 (.string ⟨#[98,97,115,105,99]⟩) (.int .i64 1) (.int .i64 0) (.slice ps m.length cs);have HB:=hs.bel (gN HN0 HG8_2) HB;have HX4_1:=hs.keep _ _ (en1 HL8_2) HX4_1;have HBr:=hs.bel HGb8_2.out HBr;clear hs
 have C13:Hid (∀w,Below w4.heap.size w4 w→Gv 16 #[.agg #[.string ⟨#[98,97,115,105,99]⟩,.int .i64 1,.int .i64 0,.slice ps m.length cs],.agg #[.int .i64 qa,.int .i64 qb,.int .i64 qc]] w (.agg #[.bool x.neg,.string (encS x.num),.string (encS x.den)])):=hD fun w hp0=>AMx.out _ w (HLs.out.up hp0)
 have C14:Hid (∀w,Below w4.heap.size w4 w→Gv 21 #[.agg #[.string ⟨#[98,97,115,105,99]⟩,.int .i64 1,.int .i64 0,.slice ps m.length cs],rtV x] w (.tuple #[.agg #[.bool y.neg,.string (encS y.num),.string (encS y.den)],.int .i64 0])):=hD fun w hp0=>by
  have h:=At_s ⟨#[98,97,115,105,99]⟩ 1 0 _ m x HS.out HOx.out.1 HOx.out.2.1 HOx.out.2.2 w (HLs.out.up hp0);rw [HY.out] at h;exact h
 have C15:Hid (∀w,Below w4.heap.size w4 w→Gv 29 #[.agg #[.string ⟨#[98,97,115,105,99]⟩,.int .i64 1,.int .i64 0,.slice ps m.length cs],rtV y] w (.tuple #[.agg #[.bool z.neg,.string (encS z.num),.string (encS z.den)],.int .i64 0])):=hD fun w hp0=>Inv_s ⟨#[98,97,115,105,99]⟩ 1 0 _ m y (rawR z) 0 HS.out HYZ.out HBK.out.inv w (HLs.out.up hp0)
 have C16:Hid (∀w,Below w4.heap.size w4 w→Gv 30 #[.agg #[.string ⟨#[98,97,115,105,99]⟩,.int .i64 1,.int .i64 0,.slice ps m.length cs],rtV z,rtV y,.int .i64 0] w (.bool true)):=hD fun w hp0=>lat_s ⟨#[98,97,115,105,99]⟩ 1 0 _ m z y HS.out HBK.out.ok HBK.out.fit HBK.out.val HVX.out w (HLs.out.up hp0)
 have C17:Hid (∀w,Below w4.heap.size w4 w→Gv 31 #[.agg #[.string ⟨#[98,97,115,105,99]⟩,.int .i64 1,.int .i64 0,.slice ps m.length cs],rtV jm,.agg #[.bool false,.string ⟨#[]⟩,.string ⟨#[]⟩],.int .i64 15] w (.bool true)):=hD fun w hp0=>linv_s ⟨#[98,97,115,105,99]⟩ 1 0 _ m jm zrow 15 HS.out HJM.out.2 HJM.out.1 w (HLs.out.up hp0)
 have k4:=k1_ (i:=0) (u:=.string ⟨#[98,97,115,105,99]⟩) HX8_2 rfl;have k5:=k1_ (i:=1) (u:=.int .i64 1) HX8_2 rfl;have k6:=k1_ (i:=2) (u:=.int .i64 0) HX8_2 rfl;have k7:=k1_ (i:=3) (u:=.slice ps m.length cs) HX8_2 rfl;obtain ⟨k8a,k8b,k8c⟩:=c3 HX4_1;go_wp2_with fail;clear hW5 hbk8 f3a f3b f3c f3d k3a k3b k3c k3d hW6 k4 k5 k6 k7 k8a k8b k8c;refine (C13.out _ HBr.out).mono ?_;rintro e w7 ⟨rfl,hb⟩;have HX4_1:=uH hb HX4_1;have HX8_2:=uH hb HX8_2;have HBr:=mH HBr hb;have HB:=mH HB hb;clear hb;obtain ⟨W8,bk9,hW8,hbk9,HX9_9,HB,HG9_9,hup⟩:=boxZ HB HN0;obtain ⟨HBr,HGb9_9⟩:=allB hW8 hbk9 HBr;have HL9_9:=(hup _ _ HX8_2).2;have HX4_1:=(hup _ _ HX4_1).1;have HX8_2:=(hup _ _ HX8_2).1;clear hup;obtain ⟨W9,hW9,HX9_9,hs,f10a,f10b,f10c,k10a,k10b,k10c⟩:=put3_0_3 HX9_9 (.bool x.neg) (.string (encS x.num)) (.string (encS x.den));have HB:=hs.bel (gN HN0 HG9_9) HB;have HX4_1:=hs.keep _ _ (en2 HL8_2 HL9_9) HX4_1
 have HX8_2:=hs.keep _ _ (en1 HL9_9) HX8_2;have HBr:=hs.bel HGb9_9.out HBr;clear hs;have k11:=k1_ (i:=0) (u:=.string ⟨#[98,97,115,105,99]⟩) HX8_2 rfl;have k12:=k1_ (i:=1) (u:=.int .i64 1) HX8_2 rfl;have k13:=k1_ (i:=2) (u:=.int .i64 0) HX8_2 rfl;have k14:=k1_ (i:=3) (u:=.slice ps m.length cs) HX8_2 rfl;obtain ⟨k15a,k15b,k15c⟩:=c3 HX9_9;go_wp2_with fail;clear hW8 hbk9 f10a f10b f10c k10a k10b k10c hW9 k11 k12 k13 k14 k15a k15b k15c;refine (C14.out _ HBr.out).mono ?_;rintro e w10 ⟨rfl,hb⟩;have HX4_1:=uH hb HX4_1;have HX8_2:=uH hb HX8_2;have HX9_9:=uH hb HX9_9;have HBr:=mH HBr hb;have HB:=mH HB hb;clear hb;obtain ⟨W11,bk10,hW11,hbk10,HX10_16,HB,HG10_16,hup⟩:=boxZ HB HN0;obtain ⟨HBr,HGb10_16⟩:=allB hW11 hbk10 HBr;have HL10_16:=(hup _ _ HX9_9).2;have HX4_1:=(hup _ _ HX4_1).1;have HX8_2:=(hup _ _ HX8_2).1;have HX9_9:=(hup _ _ HX9_9).1;clear hup
 obtain ⟨W12,hW12,HX10_16,hs,f17a,f17b,f17c,k17a,k17b,k17c⟩:=put3_0_3 HX10_16 (.bool y.neg) (.string (encS y.num)) (.string (encS y.den));have HB:=hs.bel (gN HN0 HG10_16) HB;have HX4_1:=hs.keep _ _ (en3 HL8_2 HL9_9 HL10_16) HX4_1;have HX8_2:=hs.keep _ _ (en2 HL9_9 HL10_16) HX8_2;have HX9_9:=hs.keep _ _ (en1 HL10_16) HX9_9;have HBr:=hs.bel HGb10_16.out HBr;clear hs;have k18:=k1_ (i:=0) (u:=.string ⟨#[98,97,115,105,99]⟩) HX8_2 rfl;have k19:=k1_ (i:=1) (u:=.int .i64 1) HX8_2 rfl;have k20:=k1_ (i:=2) (u:=.int .i64 0) HX8_2 rfl;have k21:=k1_ (i:=3) (u:=.slice ps m.length cs) HX8_2 rfl;obtain ⟨k22a,k22b,k22c⟩:=c3 HX10_16;go_wp2_with fail;clear hW11 hbk10 f17a f17b f17c k17a k17b k17c hW12 k18 k19 k20 k21 k22a k22b k22c;refine (C15.out _ HBr.out).mono ?_;rintro e w13 ⟨rfl,hb⟩;have HX4_1:=uH hb HX4_1;have HX8_2:=uH hb HX8_2;have HX9_9:=uH hb HX9_9;have HX10_16:=uH hb HX10_16;have HBr:=mH HBr hb
 have HB:=mH HB hb;clear hb;obtain ⟨W14,bk12,hW14,hbk12,HX12_23,HB,HG12_23,hup⟩:=boxZ HB HN0;obtain ⟨HBr,HGb12_23⟩:=allB hW14 hbk12 HBr;have HL12_23:=(hup _ _ HX10_16).2;have HX4_1:=(hup _ _ HX4_1).1;have HX8_2:=(hup _ _ HX8_2).1;have HX9_9:=(hup _ _ HX9_9).1;have HX10_16:=(hup _ _ HX10_16).1;clear hup;obtain ⟨W15,hW15,HX12_23,hs,f24a,f24b,f24c,k24a,k24b,k24c⟩:=put3_0_3 HX12_23 (.bool z.neg) (.string (encS z.num)) (.string (encS z.den));have HB:=hs.bel (gN HN0 HG12_23) HB;have HX4_1:=hs.keep _ _ (en4 HL8_2 HL9_9 HL10_16 HL12_23) HX4_1;have HX8_2:=hs.keep _ _ (en3 HL9_9 HL10_16 HL12_23) HX8_2;have HX9_9:=hs.keep _ _ (en2 HL10_16 HL12_23) HX9_9;have HX10_16:=hs.keep _ _ (en1 HL12_23) HX10_16;have HBr:=hs.bel HGb12_23.out HBr;clear hs
 go_upto_region 6 with fail
 clear hW14 hbk12 f24a f24b f24c k24a k24b k24c hW15
 go_cut [69] (fun s69 wx=>s69=.bool false∧Hid (wx.heap[bk4]? =some (.cells #[.int .i64 qa,.int .i64 qb,.int .i64 qc] 34 (0,0)))∧Hid (wx.heap[bk8]? =some (.cells #[.string ⟨#[98,97,115,105,99]⟩,.int .i64 1,.int .i64 0,.slice ps m.length cs] 26 (0,0)))∧Hid (wx.heap[bk9]? =some (.cells #[.bool x.neg,.string (encS x.num),.string (encS x.den)] 29 (0,0)))∧Hid (wx.heap[bk10]? =some (.cells #[.bool y.neg,.string (encS y.num),.string (encS y.den)] 29 (0,0)))∧Hid (wx.heap[bk12]? =some (.cells #[.bool z.neg,.string (encS z.num),.string (encS z.den)] 29 (0,0)))∧Hid (Below w4.heap.size w4 wx)∧Hid (Below wq.heap.size wq wx))
 case first =>
  by_cases hx0:0≤sx
  ·have hq2:decide (0≤sx)=true:=decide_eq_true hx0;have hq3:=HCZ.out hx0;have hq1:=HSZ.out;clear hx0;obtain ⟨k25a,k25b,k25c⟩:=c3 HX12_23;go_wp2_with fail;clear k25a k25b k25c;refine (C8.out _).mono ?_;rintro e w16 ⟨rfl,hb⟩;have HX4_1:=uH hb HX4_1;have HX8_2:=uH hb HX8_2;have HX9_9:=uH hb HX9_9;have HX10_16:=uH hb HX10_16;have HX12_23:=uH hb HX12_23;have HBr:=mH HBr hb;have HB:=mH HB hb;clear hb;obtain ⟨k26a,k26b,k26c⟩:=c3 HX9_9;go_wp2_with fail;clear k26a k26b k26c;refine (C9.out _).mono ?_;rintro e w17 ⟨rfl,hb⟩;have HX4_1:=uH hb HX4_1;have HX8_2:=uH hb HX8_2;have HX9_9:=uH hb HX9_9;have HX10_16:=uH hb HX10_16;have HX12_23:=uH hb HX12_23;have HBr:=mH HBr hb;have HB:=mH HB hb;clear hb;obtain ⟨k27a,k27b,k27c⟩:=c3 HX12_23;obtain ⟨k28a,k28b,k28c⟩:=c3 HX9_9;go_wp2_with fail;clear k27a k27b k27c k28a k28b k28c;refine (C10.out _).mono ?_;rintro e w18 ⟨rfl,hb⟩;have HX4_1:=uH hb HX4_1
   have HX8_2:=uH hb HX8_2;have HX9_9:=uH hb HX9_9;have HX10_16:=uH hb HX10_16;have HX12_23:=uH hb HX12_23;have HBr:=mH HBr hb;have HB:=mH HB hb;clear hb;have k29:=k1_ (i:=0) (u:=.string ⟨#[98,97,115,105,99]⟩) HX8_2 rfl;have k30:=k1_ (i:=1) (u:=.int .i64 1) HX8_2 rfl;have k31:=k1_ (i:=2) (u:=.int .i64 0) HX8_2 rfl;have k32:=k1_ (i:=3) (u:=.slice ps m.length cs) HX8_2 rfl;obtain ⟨k33a,k33b,k33c⟩:=c3 HX12_23;obtain ⟨k34a,k34b,k34c⟩:=c3 HX10_16;go_wp2_with fail;clear k29 k30 k31 k32 k33a k33b k33c k34a k34b k34c;refine (C16.out _ HBr.out).mono ?_;rintro e w19 ⟨rfl,hb⟩;have HX4_1:=uH hb HX4_1;have HX8_2:=uH hb HX8_2;have HX9_9:=uH hb HX9_9;have HX10_16:=uH hb HX10_16;have HX12_23:=uH hb HX12_23;have HBr:=mH HBr hb;have HB:=mH HB hb;clear hb;go_wp2_with fail;clear hq1 hq2 hq3
   go_meet
   exact ⟨rfl,HX4_1,HX8_2,HX9_9,HX10_16,HX12_23,HBr,HB⟩
  ·have hq2:decide (0≤sx)=false:=decide_eq_false hx0;have hq1:=HSZ.out;clear hx0;obtain ⟨k35a,k35b,k35c⟩:=c3 HX12_23;go_wp2_with fail;clear k35a k35b k35c;refine (C8.out _).mono ?_;rintro e w20 ⟨rfl,hb⟩;have HX4_1:=uH hb HX4_1;have HX8_2:=uH hb HX8_2;have HX9_9:=uH hb HX9_9;have HX10_16:=uH hb HX10_16;have HX12_23:=uH hb HX12_23;have HBr:=mH HBr hb;have HB:=mH HB hb;clear hb;obtain ⟨k36a,k36b,k36c⟩:=c3 HX9_9;go_wp2_with fail;clear k36a k36b k36c;refine (C9.out _).mono ?_;rintro e w21 ⟨rfl,hb⟩;have HX4_1:=uH hb HX4_1;have HX8_2:=uH hb HX8_2;have HX9_9:=uH hb HX9_9;have HX10_16:=uH hb HX10_16;have HX12_23:=uH hb HX12_23;have HBr:=mH HBr hb;have HB:=mH HB hb;clear hb;have k37:=k1_ (i:=0) (u:=.string ⟨#[98,97,115,105,99]⟩) HX8_2 rfl;have k38:=k1_ (i:=1) (u:=.int .i64 1) HX8_2 rfl;have k39:=k1_ (i:=2) (u:=.int .i64 0) HX8_2 rfl;have k40:=k1_ (i:=3) (u:=.slice ps m.length cs) HX8_2 rfl
   obtain ⟨k41a,k41b,k41c⟩:=c3 HX12_23;obtain ⟨k42a,k42b,k42c⟩:=c3 HX10_16;go_wp2_with fail;clear k37 k38 k39 k40 k41a k41b k41c k42a k42b k42c;refine (C16.out _ HBr.out).mono ?_;rintro e w22 ⟨rfl,hb⟩;have HX4_1:=uH hb HX4_1;have HX8_2:=uH hb HX8_2;have HX9_9:=uH hb HX9_9;have HX10_16:=uH hb HX10_16;have HX12_23:=uH hb HX12_23;have HBr:=mH HBr hb;have HB:=mH HB hb;clear hb;go_wp2_with fail;clear hq1 hq2
   go_meet
   exact ⟨rfl,HX4_1,HX8_2,HX9_9,HX10_16,HX12_23,HBr,HB⟩
 case rest =>
  obtain ⟨rfl,HX4_1,HX8_2,HX9_9,HX10_16,HX12_23,HBr,HB⟩:=hcut;go_wp2_with fail;refine wpVl (w:=wc) (by kernel_rfl) (Sback_law_8_1 z hf2 ju u0 u1 ni mn nj wc.heap.size) (fun t=>(decide (70≤t)&&decide (t<82))) (by kernel_rfl) (by kernel_rfl) (by kernel_rfl) (Sback_law_8_1_up z hf2 ju u0 u1 ni mn nj wc.heap.size) ?_ ?_
  ·intro i hi ov_ listed av_ w hR K hK;have ho:=hR.at_;have hi:i<12:=hi;have hii:i=0∨i=1∨i=2∨i=3∨i=4∨i=5∨i=6∨i=7∨i=8∨i=9∨i=10∨i=11:=by omega
   rcases hii with rfl|rfl|rfl|rfl|rfl|rfl|rfl|rfl|rfl|rfl|rfl|rfl<;>(simp at ho;subst ho)
   ·have b12:av_.tmps.getD 12 undef=.pointer (some ⟨bk12,0,none⟩):=hR.b 12;obtain ⟨cx0,cx1,cx2⟩:=c3 (uH hR.below HX12_23);refine pSq ?_;go_simp;exact hK _ _ rfl rB
   ·refine pSq ?_;go_simp;refine (C2.out w).mono ?_;rintro e w' ⟨rfl,hb⟩;exact hK _ _ (rfl) hb
   ·have e0:av_.tmps.getD 70 undef=.agg #[.bool z.neg,.string (encS z.num),.string (encS z.den)]:=hR.d 0;have e1:av_.tmps.getD 71 undef=.agg #[.bool hf2.neg,.string (encS hf2.num),.string (encS hf2.den)]:=hR.d 1;refine pSq ?_;go_simp;refine (C6.out w).mono ?_;rintro e w' ⟨rfl,hb⟩;exact hK _ _ (rfl) hb
   ·have b12:av_.tmps.getD 12 undef=.pointer (some ⟨bk12,0,none⟩):=hR.b 12;obtain ⟨cx0,cx1,cx2⟩:=c3 (uH hR.below HX12_23);refine pSq ?_;go_simp;exact hK _ _ rfl rB
   ·have b2:av_.tmps.getD 2 undef=.int .i64 ni:=hR.b 2;refine pSq ?_;go_simp;exact hK _ _ rfl rB
   ·have e4:av_.tmps.getD 74 undef=.int .i64 ni:=hR.d 4;refine pSq ?_;go_simp;refine (C1.out w).mono ?_;rintro e w' ⟨rfl,hb⟩;exact hK _ _ (rfl) hb
   ·have e5:av_.tmps.getD 75 undef=.int .i64 mn:=hR.d 5;have hq:=HNJ.out;refine pSq ?_;go_simp;exact hK _ _ rfl rB
   ·have e6:av_.tmps.getD 76 undef=.int .i64 nj:=hR.d 6;refine pSq ?_;go_simp;refine (C3.out w).mono ?_;rintro e w' ⟨rfl,hb⟩;exact hK _ _ (rfl) hb
   ·have e3:av_.tmps.getD 73 undef=.agg #[.bool z.neg,.string (encS z.num),.string (encS z.den)]:=hR.d 3;have e7:av_.tmps.getD 77 undef=.agg #[.bool ju.neg,.string (encS ju.num),.string (encS ju.den)]:=hR.d 7;refine pSq ?_;go_simp;refine (C7.out w).mono ?_;rintro e w' ⟨rfl,hb⟩;exact hK _ _ (rfl) hb
   ·have e2:av_.tmps.getD 72 undef=.agg #[.bool u0.neg,.string (encS u0.num),.string (encS u0.den)]:=hR.d 2;have e8:av_.tmps.getD 78 undef=.agg #[.bool u1.neg,.string (encS u1.num),.string (encS u1.den)]:=hR.d 8;have g2:=e2;rw [Array.getD_eq_getD_getElem?] at g2;have g8:=e8;rw [Array.getD_eq_getD_getElem?] at g8;refine pSq ?_;go_simp;exact hK _ _ (⟨_,rfl,hR.below.size,heap_alloc_new _ _⟩) (rB.alloc (Nat.le_refl _) _)
   ·have e9:=hR.d 9;obtain ⟨g9,e9b,-⟩:∃g,av_.tmps.getD 79 undef=.slice (some ⟨g,0,none⟩) 2 2∧_:=e9;refine pSq ?_;go_simp;exact hK _ _ rfl rB
   ·refine pSq ?_;go_simp;exact hK _ _ rfl rB
  ·intro sv_ w hS hb;have e9:=hS 9 (by decide);have e10:sv_ 80=.int .i64 2:=hS 10 (by decide);have e11:sv_ 81=.int .i64 0:=hS 11 (by decide);simp only [over,ovL,Nat.reduceAdd,Nat.reduceLeDiff,Nat.reduceLT];obtain ⟨bk79,e9b,hge,hN⟩:=(show ∃g,sv_ 79=.slice (some ⟨g,0,none⟩) 2 2∧wc.heap.size≤g∧w.heap[g]? =some (.cells #[.bool u0.neg,.string (encS u0.num),.string (encS u0.den),.bool u1.neg,.string (encS u1.num),.string (encS u1.den)] 29 (0,0)) from e9);clear e9;have e9:=e9b;clear e9b;have HG79_43:Hid (n0≤bk79):=hD (by rw [HN0.out];exact Nat.le_trans HB.out.size hge);have HL79_43:=hD (Nat.lt_of_lt_of_le (Array.getElem?_eq_some_iff.1 HX12_23.out).1 hge);have HGb79_43:=hD (Nat.le_trans HBr.out.size hge);have HX79_43:=hD hN;clear hN hge;have HB:=mH HB hb;have HBr:=mH HBr hb;have HX4_1:=uH hb HX4_1;have HX8_2:=uH hb HX8_2;have HX9_9:=uH hb HX9_9;have HX10_16:=uH hb HX10_16
   have HX12_23:=uH hb HX12_23;obtain ⟨w23,hw⟩:∃w8,w8=w:=⟨_,rfl⟩;subst hw;rw [e9,e10,e11];clear hS hb e9 e10 e11;go_wp2_with fail
   go_loopw [81] (fun u81 wr=>∃(k:Nat),k≤2∧u81=.int .i64 (k:Int)∧Hid (Below w4.heap.size w4 wr)∧Hid (wr.heap[bk4]? =some (.cells #[.int .i64 qa,.int .i64 qb,.int .i64 qc] 34 (0,0)))∧Hid (wr.heap[bk8]? =some (.cells #[.string ⟨#[98,97,115,105,99]⟩,.int .i64 1,.int .i64 0,.slice ps m.length cs] 26 (0,0)))∧Hid (wr.heap[bk9]? =some (.cells #[.bool x.neg,.string (encS x.num),.string (encS x.den)] 29 (0,0)))∧Hid (wr.heap[bk10]? =some (.cells #[.bool y.neg,.string (encS y.num),.string (encS y.den)] 29 (0,0)))∧Hid (wr.heap[bk12]? =some (.cells #[.bool z.neg,.string (encS z.num),.string (encS z.den)] 29 (0,0)))∧Hid (wr.heap[bk79]? =some (.cells #[.bool u0.neg,.string (encS u0.num),.string (encS u0.den),.bool u1.neg,.string (encS u1.num),.string (encS u1.den)] 29 (0,0)))∧Hid (Below wq.heap.size wq wr)) (fun u81 _=>2-(intOf u81).toNat)
   case atStart=>exact ⟨0,by omega,by first|rfl|go_num,HBr,HX4_1,HX8_2,HX9_9,HX10_16,HX12_23,HX79_43,HB⟩
   case round =>
    obtain ⟨k,hk,rfl,HBr,HX4_1,HX8_2,HX9_9,HX10_16,HX12_23,HX79_43,HB⟩:=hrel
    by_cases hlt:k<2
    ·have hlt' :(k:Int)<(2:Int):=by omega
     have HUU:Hid (∃u:Rt,(∀W,Below wr.heap.size wr W→W.cell? ⟨bk79,k*3,none⟩=some (.bool u.neg)∧W.cell? ⟨bk79,k*3+1,none⟩=some (.string (encS u.num))∧W.cell? ⟨bk79,k*3+2,none⟩=some (.string (encS u.den)))∧u.Ok∧u.q≤z.q∧fitT u=true∧fitT (valT m u m.length)=true):=hD (by
      rcases (show k=0∨k=1 by omega) with rfl|rfl
      ·exact ⟨u0,fun W hb=>⟨by rw [Lib.cell_of_heap (hpU hb HX79_43.out)];rfl,by rw [Lib.cell_of_heap (hpU hb HX79_43.out)];rfl,by rw [Lib.cell_of_heap (hpU hb HX79_43.out)];rfl⟩,HU0.out⟩
      ·exact ⟨u1,fun W hb=>⟨by rw [Lib.cell_of_heap (hpU hb HX79_43.out)];rfl,by rw [Lib.cell_of_heap (hpU hb HX79_43.out)];rfl,by rw [Lib.cell_of_heap (hpU hb HX79_43.out)];rfl⟩,HU1.out⟩)
     obtain ⟨u,hcu,huo,hul,huf,huv⟩:=HUU.out;have HEu:=hD hcu;have hless:=HLESS.out u huo;have c1:=fun w=>rRatSign_r (IsR.of huo (fit_rz huf)) (by decide) w
     have c2:=fun w=>rRatCmp_r (IsR.of (val_ok HS.out huo m.length) (fit_rz huv)) (IsR.of HYO.out HYZ.out) (by decide) (by decide) w
     have HUF:=hD (And.intro huo (And.intro huf huv));obtain ⟨v,hv⟩:∃w,valT m u m.length=w:=⟨_,rfl⟩;rw [hv] at hless c2;have HV:=hD hv;obtain ⟨su,hsu⟩:∃w,sgnR u=w:=⟨_,rfl⟩;rw [hsu] at c1 hless;obtain ⟨cv,hcv⟩:∃w,cmpR v y=w:=⟨_,rfl⟩;rw [hcv] at c2 hless;have HLS:=hD (fun h1 h2=>hless h1 hul h2);have HLT:=hD hlt;have HWI:Hid (IntKind.i64.wrap ((k:Int)+1)=((k+1:Nat):Int)):=hD (wrap_in (by omega) (by omega));clear HUU hcu huo hul huf huv hless hv hsu hcv hlt hk;have C18:Hid (∀w,Below w4.heap.size w4 w→Gv 21 #[.agg #[.string ⟨#[98,97,115,105,99]⟩,.int .i64 1,.int .i64 0,.slice ps m.length cs],rtV u] w (.tuple #[.agg #[.bool v.neg,.string (encS v.num),.string (encS v.den)],.int .i64 0])):=hD fun w hp0=>by
      have h:=At_s ⟨#[98,97,115,105,99]⟩ 1 0 _ m u HS.out HUF.out.1 HUF.out.2.1 HUF.out.2.2 w (HLs.out.up hp0);rw [HV.out] at h;exact h
     have C19:Hid (∀w,Gv 26 #[rtV u] w (.int .i64 su)):=hD c1;have C20:Hid (∀w,Gv 24 #[rtV v,rtV y] w (.int .i64 cv)):=hD c2;clear c1 c2;obtain ⟨k44e0,k44e1,k44e2⟩:=HEu.out _ rB;obtain ⟨W24,bk15,hW24,hbk15,HX15_45,HB,HG15_45,hup⟩:=boxZ HB HN0;obtain ⟨HBr,HGb15_45⟩:=allB hW24 hbk15 HBr;have HL15_45:=(hup _ _ HX79_43).2;have HX4_1:=(hup _ _ HX4_1).1;have HX8_2:=(hup _ _ HX8_2).1;have HX9_9:=(hup _ _ HX9_9).1;have HX10_16:=(hup _ _ HX10_16).1;have HX12_23:=(hup _ _ HX12_23).1;have HX79_43:=(hup _ _ HX79_43).1;clear hup;obtain ⟨W25,hW25,HX15_45,hs,f46a,f46b,f46c,k46a,k46b,k46c⟩:=put3_0_3 HX15_45 (.bool u.neg) (.string (encS u.num)) (.string (encS u.den));have HB:=hs.bel (gN HN0 HG15_45) HB;have HX4_1:=hs.keep _ _ (by have h0:=HL8_2.out;have h1:=HL9_9.out;have h2:=HL10_16.out;have h3:=HL12_23.out;have h4:=HL79_43.out;have h5:=HL15_45.out;omega) HX4_1
     have HX8_2:=hs.keep _ _ (en5 HL9_9 HL10_16 HL12_23 HL79_43 HL15_45) HX8_2;have HX9_9:=hs.keep _ _ (en4 HL10_16 HL12_23 HL79_43 HL15_45) HX9_9;have HX10_16:=hs.keep _ _ (en3 HL12_23 HL79_43 HL15_45) HX10_16;have HX12_23:=hs.keep _ _ (en2 HL79_43 HL15_45) HX12_23;have HX79_43:=hs.keep _ _ (en1 HL15_45) HX79_43;have HBr:=hs.bel HGb15_45.out HBr;clear hs;have k47:=k1_ (i:=0) (u:=.string ⟨#[98,97,115,105,99]⟩) HX8_2 rfl;have k48:=k1_ (i:=1) (u:=.int .i64 1) HX8_2 rfl;have k49:=k1_ (i:=2) (u:=.int .i64 0) HX8_2 rfl;have k50:=k1_ (i:=3) (u:=.slice ps m.length cs) HX8_2 rfl;obtain ⟨k51a,k51b,k51c⟩:=c3 HX15_45;go_wp2_with fail;clear hlt' k44e0 k44e1 k44e2 hW24 hbk15 f46a f46b f46c k46a k46b k46c hW25 k47 k48 k49 k50 k51a k51b k51c;refine (C18.out _ HBr.out).mono ?_;rintro e w26 ⟨rfl,hb⟩;have HX4_1:=uH hb HX4_1;have HX8_2:=uH hb HX8_2;have HX9_9:=uH hb HX9_9;have HX10_16:=uH hb HX10_16
     have HX12_23:=uH hb HX12_23;have HX79_43:=uH hb HX79_43;have HX15_45:=uH hb HX15_45;have HBr:=mH HBr hb;have HB:=mH HB hb;clear hb;obtain ⟨W27,bk16,hW27,hbk16,HX16_52,HB,HG16_52,hup⟩:=boxZ HB HN0;obtain ⟨HBr,HGb16_52⟩:=allB hW27 hbk16 HBr;have HL16_52:=(hup _ _ HX15_45).2;have HX4_1:=(hup _ _ HX4_1).1;have HX8_2:=(hup _ _ HX8_2).1;have HX9_9:=(hup _ _ HX9_9).1;have HX10_16:=(hup _ _ HX10_16).1;have HX12_23:=(hup _ _ HX12_23).1;have HX79_43:=(hup _ _ HX79_43).1;have HX15_45:=(hup _ _ HX15_45).1;clear hup;obtain ⟨W28,hW28,HX16_52,hs,f53a,f53b,f53c,k53a,k53b,k53c⟩:=put3_0_3 HX16_52 (.bool v.neg) (.string (encS v.num)) (.string (encS v.den));have HB:=hs.bel (gN HN0 HG16_52) HB;have HX4_1:=hs.keep _ _ (by have h0:=HL8_2.out;have h1:=HL9_9.out;have h2:=HL10_16.out;have h3:=HL12_23.out;have h4:=HL79_43.out;have h5:=HL15_45.out;have h6:=HL16_52.out;omega) HX4_1
     have HX8_2:=hs.keep _ _ (by have h1:=HL9_9.out;have h2:=HL10_16.out;have h3:=HL12_23.out;have h4:=HL79_43.out;have h5:=HL15_45.out;have h6:=HL16_52.out;omega) HX8_2;have HX9_9:=hs.keep _ _ (en5 HL10_16 HL12_23 HL79_43 HL15_45 HL16_52) HX9_9;have HX10_16:=hs.keep _ _ (en4 HL12_23 HL79_43 HL15_45 HL16_52) HX10_16;have HX12_23:=hs.keep _ _ (en3 HL79_43 HL15_45 HL16_52) HX12_23;have HX79_43:=hs.keep _ _ (en2 HL15_45 HL16_52) HX79_43;have HX15_45:=hs.keep _ _ (en1 HL16_52) HX15_45;have HBr:=hs.bel HGb16_52.out HBr;clear hs;obtain ⟨k54a,k54b,k54c⟩:=c3 HX15_45;go_wp2_with fail;clear hW27 hbk16 f53a f53b f53c k53a k53b k53c hW28 k54a k54b k54c;refine (C19.out _).mono ?_;rintro e w29 ⟨rfl,hb⟩;have HX4_1:=uH hb HX4_1;have HX8_2:=uH hb HX8_2;have HX9_9:=uH hb HX9_9;have HX10_16:=uH hb HX10_16;have HX12_23:=uH hb HX12_23;have HX79_43:=uH hb HX79_43;have HX15_45:=uH hb HX15_45
     have HX16_52:=uH hb HX16_52;have HBr:=mH HBr hb;have HB:=mH HB hb;clear hb
     by_cases hu0:0≤su
     ·have hq2:decide (0≤su)=true:=decide_eq_true hu0
      by_cases heq:eqR u z=true
      ·clear hu0;have q55:=(run_neqR heq);clear heq;obtain ⟨k56a,k56b,k56c⟩:=c3 HX15_45;obtain ⟨k57a,k57b,k57c⟩:=c3 HX12_23;have hwi:=HWI.out;go_wp2_with fail;clear hq2 q55 k56a k56b k56c k57a k57b k57c hwi
       go_roundw
       case rel=>exact ⟨k+1,by have:=HLT.out;omega,by first|rfl|go_num,HBr,HX4_1,HX8_2,HX9_9,HX10_16,HX12_23,HX79_43,HB⟩
       case measure=>have:=HLT.out;simp [intOf];omega
      ·have heq:=Bool.eq_false_iff.2 heq;have HCV:=hD (HLS.out hu0 heq);clear hu0;have q58:=(run_neqR heq);clear heq;obtain ⟨k59a,k59b,k59c⟩:=c3 HX15_45;obtain ⟨k60a,k60b,k60c⟩:=c3 HX12_23;obtain ⟨k61a,k61b,k61c⟩:=c3 HX16_52;obtain ⟨k62a,k62b,k62c⟩:=c3 HX10_16;go_wp2_with fail;clear hq2 q58 k59a k59b k59c k60a k60b k60c k61a k61b k61c k62a k62b k62c;refine (C20.out _).mono ?_;rintro e w30 ⟨rfl,hb⟩;have HX4_1:=uH hb HX4_1;have HX8_2:=uH hb HX8_2;have HX9_9:=uH hb HX9_9;have HX10_16:=uH hb HX10_16;have HX12_23:=uH hb HX12_23;have HX79_43:=uH hb HX79_43;have HX15_45:=uH hb HX15_45;have HX16_52:=uH hb HX16_52;have HBr:=mH HBr hb;have HB:=mH HB hb;clear hb;have hq3:decide (0≤cv)=false:=decide_eq_false (by have:=HCV.out;omega);have hwi:=HWI.out;go_wp2_with fail;clear hq3 hwi
       go_roundw
       case rel=>exact ⟨k+1,by have:=HLT.out;omega,by first|rfl|go_num,HBr,HX4_1,HX8_2,HX9_9,HX10_16,HX12_23,HX79_43,HB⟩
       case measure=>have:=HLT.out;simp [intOf];omega
     ·have hq2:decide (0≤su)=false:=decide_eq_false hu0;clear hu0;have hwi:=HWI.out;go_wp2_with fail;clear hq2 hwi
      go_roundw
      case rel=>exact ⟨k+1,by have:=HLT.out;omega,by first|rfl|go_num,HBr,HX4_1,HX8_2,HX9_9,HX10_16,HX12_23,HX79_43,HB⟩
      case measure=>have:=HLT.out;simp [intOf];omega
    ·have hge:¬(k:Int)<(2:Int):=by omega
     have k63:=k1_ (i:=0) (u:=.string ⟨#[98,97,115,105,99]⟩) HX8_2 rfl;have k64:=k1_ (i:=1) (u:=.int .i64 1) HX8_2 rfl;have k65:=k1_ (i:=2) (u:=.int .i64 0) HX8_2 rfl;have k66:=k1_ (i:=3) (u:=.slice ps m.length cs) HX8_2 rfl;go_wp2_with fail;clear hge k63 k64 k65 k66;have hlt9:=(Array.getElem?_eq_some_iff.1 HX12_23.out).1;have hge9HBr:=HBr.out.size;have hge9:=HB.out.size;rw [←HN0.out] at hge9;refine (HU2.out _ _ (HLs.out.up HBr.out)).mono ?_;rintro e w31 ⟨v9,rfl,hown,hb⟩;have HX4_1:=uH hb HX4_1;have HX8_2:=uH hb HX8_2;have HX9_9:=uH hb HX9_9;have HX10_16:=uH hb HX10_16;have HX12_23:=uH hb HX12_23;have HBr:=mH HBr hb;have HB:=mH HB hb;obtain ⟨gf,cgf,curgf,rfl,hgg,hNN,hcc,hzz,huu⟩:=own_open hown HS.out.pos;have HXgf:=hD hNN;have HCgf:Hid (Curs curgf (mu.map rawB)):=hD huu;have HZgf:=hD (And.intro hcc hzz);have HGgf:Hid (n0≤gf):=hD (Nat.le_trans hge9 hgg)
     have HLgf:=hD (Nat.lt_of_lt_of_le hlt9 hgg);clear hlt9;have HGbgf:=hD (Nat.le_trans hge9HBr hgg);clear hge9HBr;clear hown hb hgg hNN hcc hzz huu hge9;obtain ⟨W32,bk18,hW32,hbk18,HX18_67,HB,HG18_67,hup⟩:=boxn HB HN0 (.cells #[.string ⟨#[]⟩,.int .i64 0,.int .i64 0,.slice none 0 0] 26);obtain ⟨HBr,HGb18_67⟩:=allB hW32 hbk18 HBr;have HL18_67:=(hup _ _ HXgf).2;have HX4_1:=(hup _ _ HX4_1).1;have HX8_2:=(hup _ _ HX8_2).1;have HX9_9:=(hup _ _ HX9_9).1;have HX10_16:=(hup _ _ HX10_16).1;have HX12_23:=(hup _ _ HX12_23).1;have HXgf:=(hup _ _ HXgf).1;clear hup;obtain ⟨W33,hW33,HX18_67,hs,f68a,f68b,f68c,f68d,k68a,k68b,k68c,k68d⟩:=put4_0_4 HX18_67 (.string ⟨#[98,97,115,105,99]⟩) (.int .i64 1) (.int .i64 0) (.slice (some ⟨gf,0,none⟩) m.length cgf);have HB:=hs.bel (gN HN0 HG18_67) HB
     have HX4_1:=hs.keep _ _ (by have h0:=HL8_2.out;have h1:=HL9_9.out;have h2:=HL10_16.out;have h3:=HL12_23.out;have h4:=HLgf.out;have h5:=HL18_67.out;omega) HX4_1;have HX8_2:=hs.keep _ _ (en5 HL9_9 HL10_16 HL12_23 HLgf HL18_67) HX8_2;have HX9_9:=hs.keep _ _ (en4 HL10_16 HL12_23 HLgf HL18_67) HX9_9;have HX10_16:=hs.keep _ _ (en3 HL12_23 HLgf HL18_67) HX10_16;have HX12_23:=hs.keep _ _ (en2 HLgf HL18_67) HX12_23;have HXgf:=hs.keep _ _ (en1 HL18_67) HXgf;have HBr:=hs.bel HGb18_67.out HBr;clear hs;have HEgf:Hid (AtT W33 gf (kz*6) lf lr):=hD (by have h:=curs_at HXgf.out HCgf.out (k:=kz) (by rw [HUL.out];exact HKL.out);rw [HLF.out,HLR.out] at h;exact h);have hkw:=HKW.out;have hk3:(kz:Int)<(m.length:Int):=by have:=HKL.out;omega
     have k69:=k1_ (i:=3) (u:=.slice (some ⟨gf,0,none⟩) m.length cgf) HX18_67 rfl;have k70:=k1_ (i:=3) (u:=.slice (some ⟨gf,0,none⟩) m.length cgf) HX18_67 rfl;obtain ⟨k71e0,k71e1,k71e2,k71e3,k71e4,k71e5⟩:=HEgf.out _ rB;obtain ⟨W34,bk19,hW34,hbk19,HX19_72,HB,HG19_72,hup⟩:=boxZ HB HN0;obtain ⟨HBr,HGb19_72⟩:=allB hW34 hbk19 HBr;have HL19_72:=(hup _ _ HX18_67).2;have HX4_1:=(hup _ _ HX4_1).1;have HX8_2:=(hup _ _ HX8_2).1;have HX9_9:=(hup _ _ HX9_9).1;have HX10_16:=(hup _ _ HX10_16).1;have HX12_23:=(hup _ _ HX12_23).1;have HXgf:=(hup _ _ HXgf).1;have HX18_67:=(hup _ _ HX18_67).1;clear hup;obtain ⟨W35,hW35,HX19_72,hs,f73a,f73b,f73c,k73a,k73b,k73c⟩:=put3_0_3 HX19_72 (.bool lf.neg) (.string (encS lf.num)) (.string (encS lf.den));have HB:=hs.bel (gN HN0 HG19_72) HB
     have HX4_1:=hs.keep _ _ (by have h0:=HL8_2.out;have h1:=HL9_9.out;have h2:=HL10_16.out;have h3:=HL12_23.out;have h4:=HLgf.out;have h5:=HL18_67.out;have h6:=HL19_72.out;omega) HX4_1;have HX8_2:=hs.keep _ _ (by have h1:=HL9_9.out;have h2:=HL10_16.out;have h3:=HL12_23.out;have h4:=HLgf.out;have h5:=HL18_67.out;have h6:=HL19_72.out;omega) HX8_2;have HX9_9:=hs.keep _ _ (en5 HL10_16 HL12_23 HLgf HL18_67 HL19_72) HX9_9;have HX10_16:=hs.keep _ _ (en4 HL12_23 HLgf HL18_67 HL19_72) HX10_16;have HX12_23:=hs.keep _ _ (en3 HLgf HL18_67 HL19_72) HX12_23;have HXgf:=hs.keep _ _ (en2 HL18_67 HL19_72) HXgf;have HX18_67:=hs.keep _ _ (en1 HL19_72) HX18_67;have HBr:=hs.bel HGb19_72.out HBr;clear hs;go_wp2_with fail;clear hW32 hbk18 f68a f68b f68c f68d k68a k68b k68c k68d hW33 hkw hk3 k69 k70 k71e0 k71e1 k71e2 k71e3 k71e4 k71e5 hW34 hbk19 f73a f73b f73c k73a k73b k73c hW35
     refine wpTl (w:=W35) (by kernel_rfl) (fun ix v _=>v=Eback_law_17_2 zr m kz cgf gf bk18 ix) 9 (fun t=>(decide (121≤t)&&decide (t<130))) (by decide) (by kernel_rfl) (by kernel_rfl) (by kernel_rfl) (by kernel_rfl) (by kernel_rfl) (fun _ _ _ _ _ h=>h) ?_ ?_
     ·intro i hi ov_ listed av_ w hR K hK;have ho:=hR.at_;have hi:i<9:=hi;have hii:i=0∨i=1∨i=2∨i=3∨i=4∨i=5∨i=6∨i=7∨i=8:=by omega
      rcases hii with rfl|rfl|rfl|rfl|rfl|rfl|rfl|rfl|rfl<;>(simp at ho;subst ho)
      ·have b18:av_.tmps.getD 18 undef=.pointer (some ⟨bk18,0,none⟩):=hR.b 18;refine pSq ?_;go_simp;exact hK _ _ rfl rB
      ·have e0:av_.tmps.getD 121 undef=.pointer (some ⟨bk18,3,none⟩):=hR.t 0;have cx0:w.cell? ⟨bk18,3,none⟩=some (.slice (some ⟨gf,0,none⟩) m.length cgf):=by rw [Lib.cell_of_heap (hpU hR.below HX18_67.out)];rfl
       refine pSq ?_;go_simp;exact hK _ _ rfl rB
      ·have b18:av_.tmps.getD 18 undef=.pointer (some ⟨bk18,0,none⟩):=hR.b 18;refine pSq ?_;go_simp;exact hK _ _ rfl rB
      ·have e2:av_.tmps.getD 123 undef=.pointer (some ⟨bk18,3,none⟩):=hR.t 2;have cx0:w.cell? ⟨bk18,3,none⟩=some (.slice (some ⟨gf,0,none⟩) m.length cgf):=by rw [Lib.cell_of_heap (hpU hR.below HX18_67.out)];rfl
       refine pSq ?_;go_simp;exact hK _ _ rfl rB
      ·have e3:av_.tmps.getD 124 undef=.slice (some ⟨gf,0,none⟩) m.length cgf:=hR.t 3;refine pSq ?_;go_simp;exact hK _ _ rfl rB
      ·have e4:av_.tmps.getD 125 undef=.int .i64 (m.length:Int):=hR.t 4;have hq:=HKW.out;refine pSq ?_;go_simp;exact hK _ _ rfl rB
      ·refine pSq ?_;go_simp;refine (C5.out w).mono ?_;rintro e w' ⟨rfl,hb⟩;exact hK _ _ (rfl) hb
      ·have e1:av_.tmps.getD 122 undef=.slice (some ⟨gf,0,none⟩) m.length cgf:=hR.t 1;have e5:av_.tmps.getD 126 undef=.int .i64 (kz:Int):=hR.t 5;have hk3:(kz:Int)<(m.length:Int):=by have:=HKL.out;omega
       refine pSq ?_;go_simp;exact hK _ _ rfl rB
      ·have e7:av_.tmps.getD 128 undef=.pointer (some ⟨gf,kz*6,none⟩):=hR.t 7;refine pSq ?_;go_simp;exact hK _ _ rfl rB
     ·intro sv_ w hS hb;have e6:sv_ 127=.agg #[.bool zr.neg,.string (encS zr.num),.string (encS zr.den)]:=hS 6 (by decide);have e8:sv_ 129=.pointer (some ⟨gf,kz*6+3,none⟩):=hS 8 (by decide);simp only [over,ovL,Nat.reduceAdd,Nat.reduceLeDiff,Nat.reduceLT];have HX4_1:=uH hb HX4_1;have HX8_2:=uH hb HX8_2;have HX9_9:=uH hb HX9_9;have HX10_16:=uH hb HX10_16;have HX12_23:=uH hb HX12_23;have HXgf:=uH hb HXgf;have HX18_67:=uH hb HX18_67;have HX19_72:=uH hb HX19_72;have HB:=mH HB hb;have HBr:=mH HBr hb;obtain ⟨w36,hw⟩:∃w8,w8=w:=⟨_,rfl⟩;subst hw;rw [e6,e8];clear hS hb e6 e8;have f74:w36.frozen? ⟨gf,kz*6+3,none⟩=false:=frz0 HXgf.out (kz*6+3);have f75:w36.frozen? ⟨gf,kz*6+4,none⟩=false:=frz0 HXgf.out (kz*6+4);have f76:w36.frozen? ⟨gf,kz*6+5,none⟩=false:=frz0 HXgf.out (kz*6+5)
      obtain ⟨k77a,k77b,k77c⟩:=cur3 (a:=kz*6+3) (c:=kz*6+4) (d:=kz*6+5) HXgf.out (by have:=HZgf.out.2;have:=HKL.out;omega) (by have:=HZgf.out.2;have:=HKL.out;omega) (by have:=HZgf.out.2;have:=HKL.out;omega);have hB:=(((HB.out.setCell (p:=⟨gf,kz*6+3,none⟩) (by rw [←HN0.out];exact HGgf.out) (.bool zr.neg)).setCell (p:=⟨gf,kz*6+4,none⟩) (by rw [←HN0.out];exact HGgf.out) (.string (encS zr.num))).setCell (p:=⟨gf,kz*6+5,none⟩) (by rw [←HN0.out];exact HGgf.out) (.string (encS zr.den)));have hN:(((w36.setCell ⟨gf,kz*6+3,none⟩ (.bool zr.neg)).setCell ⟨gf,kz*6+4,none⟩ (.string (encS zr.num))).setCell ⟨gf,kz*6+5,none⟩ (.string (encS zr.den))).heap[gf]? =some (.cells ((((curgf.setIfInBounds (kz*6+3) (.bool zr.neg)).setIfInBounds (kz*6+4) (.string (encS zr.num))).setIfInBounds (kz*6+5) (.string (encS zr.den)))) 42 (0,0)):=set3 HXgf.out _ _ _ _ _ _
      have HBr:=hD (((HBr.out.setCell (p:=⟨gf,kz*6+3,none⟩) HGbgf.out (.bool zr.neg)).setCell (p:=⟨gf,kz*6+4,none⟩) HGbgf.out (.string (encS zr.num))).setCell (p:=⟨gf,kz*6+5,none⟩) HGbgf.out (.string (encS zr.den)));have hx4_1:(((w36.setCell ⟨gf,kz*6+3,none⟩ (.bool zr.neg)).setCell ⟨gf,kz*6+4,none⟩ (.string (encS zr.num))).setCell ⟨gf,kz*6+5,none⟩ (.string (encS zr.den))).heap[bk4]? =_:=(row_else (row_else (row_else HX4_1.out (en5 HL8_2 HL9_9 HL10_16 HL12_23 HLgf) _) (en5 HL8_2 HL9_9 HL10_16 HL12_23 HLgf) _) (en5 HL8_2 HL9_9 HL10_16 HL12_23 HLgf) _);have HX4_1:=hD hx4_1;clear hx4_1
      have hx8_2:(((w36.setCell ⟨gf,kz*6+3,none⟩ (.bool zr.neg)).setCell ⟨gf,kz*6+4,none⟩ (.string (encS zr.num))).setCell ⟨gf,kz*6+5,none⟩ (.string (encS zr.den))).heap[bk8]? =_:=(row_else (row_else (row_else HX8_2.out (en4 HL9_9 HL10_16 HL12_23 HLgf) _) (en4 HL9_9 HL10_16 HL12_23 HLgf) _) (en4 HL9_9 HL10_16 HL12_23 HLgf) _);have HX8_2:=hD hx8_2;clear hx8_2;have hx9_9:(((w36.setCell ⟨gf,kz*6+3,none⟩ (.bool zr.neg)).setCell ⟨gf,kz*6+4,none⟩ (.string (encS zr.num))).setCell ⟨gf,kz*6+5,none⟩ (.string (encS zr.den))).heap[bk9]? =_:=(row_else (row_else (row_else HX9_9.out (en3 HL10_16 HL12_23 HLgf) _) (en3 HL10_16 HL12_23 HLgf) _) (en3 HL10_16 HL12_23 HLgf) _);have HX9_9:=hD hx9_9;clear hx9_9
      have hx10_16:(((w36.setCell ⟨gf,kz*6+3,none⟩ (.bool zr.neg)).setCell ⟨gf,kz*6+4,none⟩ (.string (encS zr.num))).setCell ⟨gf,kz*6+5,none⟩ (.string (encS zr.den))).heap[bk10]? =_:=(row_else (row_else (row_else HX10_16.out (en2 HL12_23 HLgf) _) (en2 HL12_23 HLgf) _) (en2 HL12_23 HLgf) _);have HX10_16:=hD hx10_16;clear hx10_16;have hx12_23:(((w36.setCell ⟨gf,kz*6+3,none⟩ (.bool zr.neg)).setCell ⟨gf,kz*6+4,none⟩ (.string (encS zr.num))).setCell ⟨gf,kz*6+5,none⟩ (.string (encS zr.den))).heap[bk12]? =_:=(row_else (row_else (row_else HX12_23.out (en1 HLgf) _) (en1 HLgf) _) (en1 HLgf) _);have HX12_23:=hD hx12_23;clear hx12_23;have hx18_67:(((w36.setCell ⟨gf,kz*6+3,none⟩ (.bool zr.neg)).setCell ⟨gf,kz*6+4,none⟩ (.string (encS zr.num))).setCell ⟨gf,kz*6+5,none⟩ (.string (encS zr.den))).heap[bk18]? =_:=(row_else (row_else (row_else HX18_67.out (ne1 HL18_67) _) (ne1 HL18_67) _) (ne1 HL18_67) _)
      have HX18_67:=hD hx18_67;clear hx18_67;have hx19_72:(((w36.setCell ⟨gf,kz*6+3,none⟩ (.bool zr.neg)).setCell ⟨gf,kz*6+4,none⟩ (.string (encS zr.num))).setCell ⟨gf,kz*6+5,none⟩ (.string (encS zr.den))).heap[bk19]? =_:=(row_else (row_else (row_else HX19_72.out (ne2 HL18_67 HL19_72) _) (ne2 HL18_67 HL19_72) _) (ne2 HL18_67 HL19_72) _);have HX19_72:=hD hx19_72;clear hx19_72;obtain ⟨W37,hW37⟩:∃W,(((w36.setCell ⟨gf,kz*6+3,none⟩ (.bool zr.neg)).setCell ⟨gf,kz*6+4,none⟩ (.string (encS zr.num))).setCell ⟨gf,kz*6+5,none⟩ (.string (encS zr.den)))=W:=⟨_,rfl⟩;rw [hW37] at HBr;rw [hW37] at hN hB HX4_1 HX8_2 HX9_9 HX10_16 HX12_23 HX18_67 HX19_72;have HXgf:=hD hN;have HB:=hD hB;clear hN hB;refine tail_step (n:=0) rfl rfl ?_;go_simp
      try rw [hW37]
      clear f74 f75 f76 k77a k77b k77c hW37;simp only [wpTail];have HLG:Hid (LstK W37 (.slice (some ⟨gf,0,none⟩) m.length cgf) (mf.map rawB)):=hD (by
       have hmu:=HUL.out;have hz:=HZgf.out;have h:=curs_rate (r:=zr) (by rw [hmu];exact HKL.out) HCgf.out (by rw [hmu];exact hz.2);rw [HLF.out, ←HFD.out] at h;exact curs_lst HXgf.out h (by rw [List.length_map,HFD.out,List.length_set,hmu]) hz.1 (by have:=HS.out.le;omega))
      have HLs:=hD (HLs.out.up HBr.out);have HBr:=hD (Below.refl W37.heap.size W37);have C18:Hid (∀w,Below W37.heap.size W37 w→Gv 21 #[.agg #[.string ⟨#[98,97,115,105,99]⟩,.int .i64 1,.int .i64 0,.slice (some ⟨gf,0,none⟩) m.length cgf],rtV lf] w (.tuple #[.agg #[.bool tp.neg,.string (encS tp.num),.string (encS tp.den)],.int .i64 0])):=hD fun w hp0=>by
       have h:=At_s ⟨#[98,97,115,105,99]⟩ 1 0 _ mf lf HFS.out HTF.out.2.1 HTF.out.1 HTF.out.2.2 w (HLG.out.up hp0);rw [HTP.out] at h;exact h
      have C19:Hid (∀w,Below W37.heap.size W37 w→Gv 31 #[.agg #[.string ⟨#[98,97,115,105,99]⟩,.int .i64 1,.int .i64 0,.slice (some ⟨gf,0,none⟩) m.length cgf],rtV ty,.agg #[.bool false,.string ⟨#[]⟩,.string ⟨#[]⟩],.int .i64 15] w (.bool true)):=hD fun w hp0=>linv_s ⟨#[98,97,115,105,99]⟩ 1 0 _ mf ty zrow 15 HFS.out HTZ.out HTI.out w (HLG.out.up hp0)
      have C20:Hid (∀w,Below W37.heap.size W37 w→Gv 31 #[.agg #[.string ⟨#[98,97,115,105,99]⟩,.int .i64 1,.int .i64 0,.slice ps m.length cs],rtV jm,.agg #[.bool false,.string ⟨#[]⟩,.string ⟨#[]⟩],.int .i64 15] w (.bool true)):=hD fun w hp0=>linv_s ⟨#[98,97,115,105,99]⟩ 1 0 _ m jm zrow 15 HS.out HJM.out.2 HJM.out.1 w (HLs.out.up hp0)
      have k78:=k1_ (i:=0) (u:=.string ⟨#[98,97,115,105,99]⟩) HX18_67 rfl;have k79:=k1_ (i:=1) (u:=.int .i64 1) HX18_67 rfl;have k80:=k1_ (i:=2) (u:=.int .i64 0) HX18_67 rfl;have k81:=k1_ (i:=3) (u:=.slice (some ⟨gf,0,none⟩) m.length cgf) HX18_67 rfl;obtain ⟨k82a,k82b,k82c⟩:=c3 HX19_72;go_wp2_with fail;clear k78 k79 k80 k81 k82a k82b k82c;refine (C18.out _ HBr.out).mono ?_;rintro e w38 ⟨rfl,hb⟩;have HX4_1:=uH hb HX4_1;have HX8_2:=uH hb HX8_2;have HX9_9:=uH hb HX9_9;have HX10_16:=uH hb HX10_16;have HX12_23:=uH hb HX12_23;have HXgf:=uH hb HXgf;have HX18_67:=uH hb HX18_67;have HX19_72:=uH hb HX19_72;have HBr:=mH HBr hb;have HB:=mH HB hb;clear hb;obtain ⟨W39,bk20,hW39,hbk20,HX20_83,HB,HG20_83,hup⟩:=boxZ HB HN0;obtain ⟨HBr,HGb20_83⟩:=allB hW39 hbk20 HBr;have HL20_83:=(hup _ _ HX19_72).2;have HX4_1:=(hup _ _ HX4_1).1;have HX8_2:=(hup _ _ HX8_2).1;have HX9_9:=(hup _ _ HX9_9).1
      have HX10_16:=(hup _ _ HX10_16).1;have HX12_23:=(hup _ _ HX12_23).1;have HXgf:=(hup _ _ HXgf).1;have HX18_67:=(hup _ _ HX18_67).1;have HX19_72:=(hup _ _ HX19_72).1;clear hup;obtain ⟨W40,hW40,HX20_83,hs,f84a,f84b,f84c,k84a,k84b,k84c⟩:=put3_0_3 HX20_83 (.bool tp.neg) (.string (encS tp.num)) (.string (encS tp.den));have HB:=hs.bel (gN HN0 HG20_83) HB;have HX4_1:=hs.keep _ _ (by have h0:=HL8_2.out;have h1:=HL9_9.out;have h2:=HL10_16.out;have h3:=HL12_23.out;have h4:=HLgf.out;have h5:=HL18_67.out;have h6:=HL19_72.out;have h7:=HL20_83.out;omega) HX4_1;have HX8_2:=hs.keep _ _ (by have h1:=HL9_9.out;have h2:=HL10_16.out;have h3:=HL12_23.out;have h4:=HLgf.out;have h5:=HL18_67.out;have h6:=HL19_72.out;have h7:=HL20_83.out;omega) HX8_2
      have HX9_9:=hs.keep _ _ (by have h2:=HL10_16.out;have h3:=HL12_23.out;have h4:=HLgf.out;have h5:=HL18_67.out;have h6:=HL19_72.out;have h7:=HL20_83.out;omega) HX9_9;have HX10_16:=hs.keep _ _ (en5 HL12_23 HLgf HL18_67 HL19_72 HL20_83) HX10_16;have HX12_23:=hs.keep _ _ (en4 HLgf HL18_67 HL19_72 HL20_83) HX12_23;have HXgf:=hs.keep _ _ (en3 HL18_67 HL19_72 HL20_83) HXgf;have HX18_67:=hs.keep _ _ (en2 HL19_72 HL20_83) HX18_67;have HX19_72:=hs.keep _ _ (en1 HL20_83) HX19_72;have HBr:=hs.bel HGb20_83.out HBr;clear hs;go_wp2_with fail;clear hW39 hbk20 f84a f84b f84c k84a k84b k84c hW40;refine wpVl (w:=W40) (by kernel_rfl) (fun ix v _=>v=Eback_law_19_3 ju jm tp ty ni mn nj ps cs m cgf gf ix) (fun t=>(decide (6≤t)&&decide (t<7))||(decide (136≤t)&&decide (t<161))) (by kernel_rfl) (by kernel_rfl) (by kernel_rfl) (fun _ _ _ _ _ h=>h) ?_ ?_
      ·intro i hi ov_ listed av_ w hR K hK;have ho:=hR.at_;have hi:i<26:=hi;have hii:i=0∨i=1∨i=2∨i=3∨i=4∨i=5∨i=6∨i=7∨i=8∨i=9∨i=10∨i=11∨i=12∨i=13∨i=14∨i=15∨i=16∨i=17∨i=18∨i=19∨i=20∨i=21∨i=22∨i=23∨i=24∨i=25:=by omega
       rcases hii with rfl|rfl|rfl|rfl|rfl|rfl|rfl|rfl|rfl|rfl|rfl|rfl|rfl|rfl|rfl|rfl|rfl|rfl|rfl|rfl|rfl|rfl|rfl|rfl|rfl|rfl<;>(simp at ho;subst ho)
       ·have b7:av_.tmps.getD 7 undef=.bool true:=hR.b 7;refine pSq ?_;go_simp;exact hK _ _ rfl rB
       ·have e0:av_.tmps.getD 136 undef=.bool true:=hR.d 0;refine pSq ?_;go_simp;exact hK _ _ rfl rB
       ·have e1:av_.tmps.getD 137 undef=.bool true:=hR.g 1;have b21:av_.tmps.getD 21 undef=.int .i64 0:=hR.b 21;refine gSq (b:=true) e1 ?_;go_simp;exact hK _ _ rfl rB
       ·have e2:av_.tmps.getD 138 undef=.int .i64 0:=hR.d 2;have e1:av_.tmps.getD 137 undef=.bool true:=hR.g 1;refine gSq (b:=true) e1 ?_;go_simp;exact hK _ _ rfl rB
       ·have e1:av_.tmps.getD 137 undef=.bool true:=hR.d 1;have e3:av_.tmps.getD 139 undef=.bool true:=hR.d 3;refine pSq ?_;go_simp;exact hK _ _ rfl rB
       ·have e4:av_.tmps.getD 140 undef=.bool true:=hR.d 4;refine pSq ?_;go_simp;exact hK _ _ rfl rB
       ·have e5:av_.tmps.getD 141 undef=.bool true:=hR.g 5;have b18:av_.tmps.getD 18 undef=.pointer (some ⟨bk18,0,none⟩):=hR.b 18;have cx0:w.cell? ⟨bk18,0,none⟩=some (.string ⟨#[98,97,115,105,99]⟩):=by rw [Lib.cell_of_heap (hpU hR.below HX18_67.out)];rfl
        have cx1:w.cell? ⟨bk18,1,none⟩=some (.int .i64 1):=by rw [Lib.cell_of_heap (hpU hR.below HX18_67.out)];rfl
        have cx2:w.cell? ⟨bk18,2,none⟩=some (.int .i64 0):=by rw [Lib.cell_of_heap (hpU hR.below HX18_67.out)];rfl
        have cx3:w.cell? ⟨bk18,3,none⟩=some (.slice (some ⟨gf,0,none⟩) m.length cgf):=by rw [Lib.cell_of_heap (hpU hR.below HX18_67.out)];rfl
        refine gSq (b:=true) e5 ?_;go_simp;exact hK _ _ rfl rB
       ·have e5:av_.tmps.getD 141 undef=.bool true:=hR.g 5;have b20:av_.tmps.getD 20 undef=.pointer (some ⟨bk20,0,none⟩):=hR.b 20;obtain ⟨cx0,cx1,cx2⟩:=c3 (uH hR.below HX20_83);refine gSq (b:=true) e5 ?_;go_simp;exact hK _ _ rfl rB
       ·have e5:av_.tmps.getD 141 undef=.bool true:=hR.g 5;have b2:av_.tmps.getD 2 undef=.int .i64 ni:=hR.b 2;refine gSq (b:=true) e5 ?_;go_simp;exact hK _ _ rfl rB
       ·have e8:av_.tmps.getD 144 undef=.int .i64 ni:=hR.d 8;have e5:av_.tmps.getD 141 undef=.bool true:=hR.g 5;refine gSq (b:=true) e5 ?_;go_simp;refine (C1.out w).mono ?_;rintro e w' ⟨rfl,hb⟩;exact hK _ _ (rfl) hb
       ·have e9:av_.tmps.getD 145 undef=.int .i64 mn:=hR.d 9;have e5:av_.tmps.getD 141 undef=.bool true:=hR.g 5;have hq:=HNJ.out;refine gSq (b:=true) e5 ?_;go_simp;exact hK _ _ rfl rB
       ·have e10:av_.tmps.getD 146 undef=.int .i64 nj:=hR.d 10;have e5:av_.tmps.getD 141 undef=.bool true:=hR.g 5;refine gSq (b:=true) e5 ?_;go_simp;refine (C3.out w).mono ?_;rintro e w' ⟨rfl,hb⟩;exact hK _ _ (rfl) hb
       ·have e7:av_.tmps.getD 143 undef=.agg #[.bool tp.neg,.string (encS tp.num),.string (encS tp.den)]:=hR.d 7;have e11:av_.tmps.getD 147 undef=.agg #[.bool ju.neg,.string (encS ju.num),.string (encS ju.den)]:=hR.d 11;have e5:av_.tmps.getD 141 undef=.bool true:=hR.g 5;refine gSq (b:=true) e5 ?_;go_simp;refine (C11.out w).mono ?_;rintro e w' ⟨rfl,hb⟩;exact hK _ _ (rfl) hb
       ·have e5:av_.tmps.getD 141 undef=.bool true:=hR.g 5;refine gSq (b:=true) e5 ?_;go_simp;exact hK _ _ rfl rB
       ·have e6:av_.tmps.getD 142 undef=.agg #[.string ⟨#[98,97,115,105,99]⟩,.int .i64 1,.int .i64 0,.slice (some ⟨gf,0,none⟩) m.length cgf]:=hR.d 6;have e12:av_.tmps.getD 148 undef=.agg #[.bool ty.neg,.string (encS ty.num),.string (encS ty.den)]:=hR.d 12;have e13:av_.tmps.getD 149 undef=.agg #[.bool false,.string ⟨#[]⟩,.string ⟨#[]⟩]:=hR.d 13;have e5:av_.tmps.getD 141 undef=.bool true:=hR.g 5;refine gSq (b:=true) e5 ?_;go_simp;refine (C19.out w (HBr.out.trans (hR.below.mono HBr.out.size))).mono ?_;rintro e w' ⟨rfl,hb⟩;exact hK _ _ (rfl) hb
       ·have e5:av_.tmps.getD 141 undef=.bool true:=hR.d 5;have e14:av_.tmps.getD 150 undef=.bool true:=hR.d 14;refine pSq ?_;go_simp;exact hK _ _ rfl rB
       ·have e15:av_.tmps.getD 151 undef=.bool true:=hR.d 15;refine pSq ?_;go_simp;exact hK _ _ rfl rB
       ·have e16:av_.tmps.getD 152 undef=.bool true:=hR.g 16;have b8:av_.tmps.getD 8 undef=.pointer (some ⟨bk8,0,none⟩):=hR.b 8;have cx0:w.cell? ⟨bk8,0,none⟩=some (.string ⟨#[98,97,115,105,99]⟩):=by rw [Lib.cell_of_heap (hpU hR.below HX8_2.out)];rfl
        have cx1:w.cell? ⟨bk8,1,none⟩=some (.int .i64 1):=by rw [Lib.cell_of_heap (hpU hR.below HX8_2.out)];rfl
        have cx2:w.cell? ⟨bk8,2,none⟩=some (.int .i64 0):=by rw [Lib.cell_of_heap (hpU hR.below HX8_2.out)];rfl
        have cx3:w.cell? ⟨bk8,3,none⟩=some (.slice ps m.length cs):=by rw [Lib.cell_of_heap (hpU hR.below HX8_2.out)];rfl
        refine gSq (b:=true) e16 ?_;go_simp;exact hK _ _ rfl rB
       ·have e16:av_.tmps.getD 152 undef=.bool true:=hR.g 16;have b2:av_.tmps.getD 2 undef=.int .i64 ni:=hR.b 2;refine gSq (b:=true) e16 ?_;go_simp;exact hK _ _ rfl rB
       ·have e18:av_.tmps.getD 154 undef=.int .i64 ni:=hR.d 18;have e16:av_.tmps.getD 152 undef=.bool true:=hR.g 16;refine gSq (b:=true) e16 ?_;go_simp;refine (C1.out w).mono ?_;rintro e w' ⟨rfl,hb⟩;exact hK _ _ (rfl) hb
       ·have e19:av_.tmps.getD 155 undef=.int .i64 mn:=hR.d 19;have e16:av_.tmps.getD 152 undef=.bool true:=hR.g 16;have hq:=HNJ.out;refine gSq (b:=true) e16 ?_;go_simp;exact hK _ _ rfl rB
       ·have e20:av_.tmps.getD 156 undef=.int .i64 nj:=hR.d 20;have e16:av_.tmps.getD 152 undef=.bool true:=hR.g 16;refine gSq (b:=true) e16 ?_;go_simp;refine (C4.out w).mono ?_;rintro e w' ⟨rfl,hb⟩;exact hK _ _ (rfl) hb
       ·have e16:av_.tmps.getD 152 undef=.bool true:=hR.g 16;refine gSq (b:=true) e16 ?_;go_simp;exact hK _ _ rfl rB
       ·have e17:av_.tmps.getD 153 undef=.agg #[.string ⟨#[98,97,115,105,99]⟩,.int .i64 1,.int .i64 0,.slice ps m.length cs]:=hR.d 17;have e21:av_.tmps.getD 157 undef=.agg #[.bool jm.neg,.string (encS jm.num),.string (encS jm.den)]:=hR.d 21;have e22:av_.tmps.getD 158 undef=.agg #[.bool false,.string ⟨#[]⟩,.string ⟨#[]⟩]:=hR.d 22;have e16:av_.tmps.getD 152 undef=.bool true:=hR.g 16;refine gSq (b:=true) e16 ?_;go_simp;refine (C20.out w (HBr.out.trans (hR.below.mono HBr.out.size))).mono ?_;rintro e w' ⟨rfl,hb⟩;exact hK _ _ (rfl) hb
       ·have e16:av_.tmps.getD 152 undef=.bool true:=hR.d 16;have e23:av_.tmps.getD 159 undef=.bool true:=hR.d 23;refine pSq ?_;go_simp;exact hK _ _ rfl rB
       ·have e24:av_.tmps.getD 160 undef=.bool true:=hR.d 24;refine pSq ?_;go_simp;exact hK _ _ rfl rB
      ·intro sv_ w hS hb;have e25:sv_ 6=.bool true:=hS 25 (by decide);simp only [over,ovL,Nat.reduceAdd,Nat.reduceLeDiff,Nat.reduceLT];have HB:=mH HB hb;have HBr:=mH HBr hb;have HX4_1:=uH hb HX4_1;have HX8_2:=uH hb HX8_2;have HX9_9:=uH hb HX9_9;have HX10_16:=uH hb HX10_16;have HX12_23:=uH hb HX12_23;have HXgf:=uH hb HXgf;have HX18_67:=uH hb HX18_67;have HX19_72:=uH hb HX19_72;have HX20_83:=uH hb HX20_83;obtain ⟨w41,hw⟩:∃w8,w8=w:=⟨_,rfl⟩;subst hw;rw [e25];clear hS hb e25;go_wp2_with fail;go_ret;exact ⟨rfl,by rw [HN0.out];exact HB.out⟩
end Go.Proofs.YtblgfmjlajhipaaGreatDoor
