/- RatePieces: contracts and the law's walk. Each theorem names its conditions. -/
import Derived.RangeFuncKeeps
import Derived.OwnWalkIn
import Derived.TacticsInMore
import Derived.LoopNIn
import Derived.LoopIn
import Derived.Shelf.SortM.Plain
import Derived.Shelf.SortM.SortNone
import Derived.Ground.GgzProg
import Derived.Ground.SlgmProg
import Derived.Maps.Own
import Derived.Maps.OwnOps
import Derived.Maps.OwnSet
import Derived.Maps.Views
import Derived.Shelf.SlIterI.Nil
import Derived.WalkKit
import Derived.Deep.LoopGhost
import Derived.Deep.QuietTactic
import Derived.BigQuiet
import Derived.Test.YtblgfmjlajhipaaGreatDoorProg
import Derived.WalkSpells
import Derived.WalkLawsBesides
import Derived.IntWalk
import Derived.Lib.Hide
import Derived.Laws.BitsAllLaws
import Derived.StillTailTactics
import Derived.Deep.OwnRows
import Derived.Lib.ConvBytes
import Derived.Below
import Derived.Shelf.Strings.Trim
import Derived.Shelf.Small.Utf8
import Derived.Shelf.Small.Bits
import Derived.Shelf.Small.Strs
import Derived.Shelf.Strconv.Itoa0
import Derived.Shelf.Strings.Search1
import Derived.Shelf.Strings.Runes
import Derived.Shelf.Strings.AsciiSet
import Derived.Shelf.Unicode.DecodeSlow
import Derived.Shelf.Unicode.DecodeAny
import Derived.Deep.DeepCutAuto
import Derived.Laws.AppendOwn
import Derived.Deep.DeepAppendWide
import Derived.Test.YtblgfmjlajhipaaGreatDoorKpa6
import Derived.Test.YtblgfmjlajhipaaGreatDoorZd3
import Derived.Test.YtblgfmjlajhipaaGreatDoorZd2
import Derived.Test.YtblgfmjlajhipaaGreatDoorZd1
import Derived.Test.YtblgfmjlajhipaaGreatDoorZd0
import Derived.Test.YtblgfmjlajhipaaGreatDoorZc8
import Derived.Test.YtblgfmjlajhipaaGreatDoorZc7
import Derived.Test.YtblgfmjlajhipaaGreatDoorZc6
import Derived.Test.YtblgfmjlajhipaaGreatDoorZb7
import Derived.Test.YtblgfmjlajhipaaGreatDoorZb5
import Derived.Test.YtblgfmjlajhipaaGreatDoorZa6
import Derived.Test.YtblgfmjlajhipaaGreatDoorKpa2
import Derived.Test.YtblgfmjlajhipaaGreatDoorZb4
import Derived.Test.YtblgfmjlajhipaaGreatDoorZa7
import Derived.Test.YtblgfmjlajhipaaGreatDoorZa5
import Derived.Test.YtblgfmjlajhipaaGreatDoorZa4
import Derived.Test.YtblgfmjlajhipaaGreatDoorZa3
import Derived.Test.YtblgfmjlajhipaaGreatDoorZa0
import Derived.Test.YtblgfmjlajhipaaGreatDoorZa1
import Derived.Test.YtblgfmjlajhipaaGreatDoorKpa0
import Derived.Test.YtblgfmjlajhipaaGreatDoorZa2
import Derived.Test.YtblgfmjlajhipaaGreatDoorZb6
import Derived.Test.YtblgfmjlajhipaaGreatDoorKpa1
import Derived.Test.YtblgfmjlajhipaaGreatDoorZc5
import Derived.Test.YtblgfmjlajhipaaGreatDoorZc4
import Derived.Test.YtblgfmjlajhipaaGreatDoorZc3
import Derived.Test.YtblgfmjlajhipaaGreatDoorZc2
import Derived.Test.YtblgfmjlajhipaaGreatDoorZc1
import Derived.Test.YtblgfmjlajhipaaGreatDoorZc0
import Derived.Test.YtblgfmjlajhipaaGreatDoorZb9
import Derived.Test.YtblgfmjlajhipaaGreatDoorZb8
import Derived.Test.YtblgfmjlajhipaaGreatDoorZc9
set_option maxHeartbeats 16000000
set_option linter.unusedVariables false
namespace Go.Proofs.YtblgfmjlajhipaaGreatDoor
open Go.RowKit Go.Shelf
open Dgt
theorem swap_in {x0 y0 x y:Rt} (hx:(if 0<cmpR x0 y0 then y0 else x0)=x) (hy:(if 0<cmpR x0 y0 then x0 else y0)=y) (P:Rt→Prop) (h1:P x0) (h2:P y0):P x∧P y:=by
 subst hx hy;split<;>exact ⟨by assumption,by assumption⟩
theorem swap_le {x0 y0 x y:Rt} (o1:x0.Ok) (o2:y0.Ok) (hx:(if 0<cmpR x0 y0 then y0 else x0)=x) (hy:(if 0<cmpR x0 y0 then x0 else y0)=y):x.q≤y.q:=by
 have h:=cmpR_q o1 o2;subst hx hy
 split
 ·rename_i h1;rw [h,sgQ_gt0] at h1;grind
 ·rename_i h1;rw [h,sgQ_gt0] at h1;grind
structure Pcs (m:List BT) (x y:Rt) (k:Nat) (lo hi:Rt) (bt:Bool):Prop where
 lok:lo.Ok
 hok:hi.Ok
 lsz:Rz lo 50
 hsz:Rz hi 50
 low:∀j,j<k→lo.q≤rtQ m j
 high:∀j,j<k→rtQ m j≤hi.q
 none:bt=false→∀j,j<k→¬(x.q<frQ m j∧frQ m j<y.q)
theorem Pcs.start {m:List BT} {x y:Rt} (h:Sch m):Pcs m x y 0 (rtT m 0) (rtT m 0) false :=
 ⟨h.rtOk 0,h.rtOk 0,h.rtSz 0,h.rtSz 0,fun j hj=>absurd hj (by omega),fun j hj=>absurd hj (by omega),fun _ j hj=>absurd hj (by omega)⟩
theorem Pcs.next {m:List BT} {x y lo hi lo2 hi2:Rt} {k:Nat} {bt bt2:Bool} (h:Sch m) (hx:x.Ok) (hy:y.Ok) (p:Pcs m x y k lo hi bt) (h1:(if cmpR (rtT m k) lo<0 then rtT m k else lo)=lo2) (h2:(if 0<cmpR (rtT m k) hi then rtT m k else hi)=hi2)
  (h3:(bt||(decide (0<cmpR (frT m k) x)&&decide (cmpR (frT m k) y<0)))=bt2):Pcs m x y (k+1) lo2 hi2 bt2:=by
 have hr:=h.rtOk k;have hf:=h.frOk k;have c1:=cmpR_q hr p.lok;have c2:=cmpR_q hr p.hok;have c3:=cmpR_q hf hx;have c4:=cmpR_q hf hy;have e1:lo2.Ok∧Rz lo2 50∧lo2.q≤lo.q∧lo2.q≤rtQ m k:=by
  subst h1;split
  ·rename_i h1;rw [c1,sgQ_lt0] at h1;exact ⟨hr,h.rtSz k,by grind,Rat.le_refl⟩
  ·rename_i h1;rw [c1,sgQ_lt0] at h1;exact ⟨p.lok,p.lsz,Rat.le_refl,by unfold rtQ;grind⟩
 have e2:hi2.Ok∧Rz hi2 50∧hi.q≤hi2.q∧rtQ m k≤hi2.q:=by
  subst h2;split
  ·rename_i h1;rw [c2,sgQ_gt0] at h1;exact ⟨hr,h.rtSz k,by grind,Rat.le_refl⟩
  ·rename_i h1;rw [c2,sgQ_gt0] at h1;exact ⟨p.hok,p.hsz,Rat.le_refl,by unfold rtQ;grind⟩
 refine ⟨e1.1,e2.1,e1.2.1,e2.2.1,fun j hj=> ?_,fun j hj=> ?_,fun hb j hj=> ?_⟩
 ·rcases Nat.lt_or_ge j k with h5|h5
  ·have:=p.low j h5;have:=e1.2.2.1;grind
  ·rw [show j=k by omega];exact e1.2.2.2
 ·rcases Nat.lt_or_ge j k with h5|h5
  ·have:=p.high j h5;have:=e2.2.2.1;grind
  ·rw [show j=k by omega];exact e2.2.2.2
 ·rw [←h3,Bool.or_eq_false_iff] at hb;rcases Nat.lt_or_ge j k with h5|h5
  ·exact p.none hb.1 j h5
  ·rw [show j=k by omega];intro hc;have h6:=hb.2;rw [decide_eq_true (by rw [c3,sgQ_gt0];unfold frQ at hc;grind),decide_eq_true (by rw [c4,sgQ_lt0];unfold frQ at hc;grind)] at h6;cases h6
theorem pieces_end {m:List BT} {x y lo hi:Rt} {bt:Bool} (h:Sch m) (hx:x.Ok) (hy:y.Ok) (hxy:x.q≤y.q) (h0:0<x.q) (p:Pcs m x y m.length lo hi bt) :
  (bt=false→subR (valT m y m.length) (valT m x m.length)=mulR (margT m x) (subR y x))∧0≤cmpR (subR (valT m y m.length) (valT m x m.length)) (mulR lo (subR y x))∧cmpR (subR (valT m y m.length) (valT m x m.length)) (mulR hi (subR y x))≤0:=by
 have oa:=val_ok h hx m.length;have ob:=val_ok h hy m.length;have od:=subR_ok hy hx;have og:=subR_ok ob oa;have qd:=q_sub hy hx;have qg:=q_sub ob oa;rw [q_val h hx,q_val h hy] at qg;have hz:=h.zeroQ;have hg:=val_grown (R:=rtQ m) h.inc h.pos (x:=x.q) (y:=y.q) (by grind) hxy (lo:=lo.q) (hi:=hi.q) (fun k hk=>p.low k hk) (fun k hk=>p.high k hk);refine ⟨fun hb=> ?_,?_,?_⟩
 ·refine q_inj og (mulR_ok (marg_ok h) od) ?_;have hc:0<cntF (frQ m) x.q m.length:=by
   apply Nat.pos_of_ne_zero;intro hc
   have:=cnt_above (F:=frQ m) (x:=x.q) (n:=m.length) (k:=0) (by omega) h.pos
   grind
  rw [q_mul (marg_ok h) od,qg,qd,q_marg];exact val_slope h.inc hc hxy (p.none hb)
 ·rw [cmpR_q og (mulR_ok p.lok od),sgQ_ge0,q_mul p.lok od,qg,qd];grind
 ·rw [cmpR_q og (mulR_ok p.hok od),sgQ_le0,q_mul p.hok od,qg,qd];grind
theorem pieces_low {m:List BT} {x:Rt} (h:Sch m) (hx:x.Ok) (h0:x.q≤0):valT m x m.length=ofR 0:=by
 refine q_inj (val_ok h hx _) (ofR_ok 0) ?_;rw [q_val h hx,q_of,val_low h.inc (fun _=>by rw [h.zeroQ];exact h0)];rfl
def Epieces_law_3_1 (x0:Rt) (y0:Rt) (qa:Int) (qb:Int) (qc:Int) (ra:Int) (rb:Int) (rc:Int) (gm:Nat) (om:Nat) (cm:Nat) (m:List BT) (ws:Nat):Nat→Value
 | 0=>.agg #[.string ⟨#[98,97,115,105,99]⟩,.int .i64 1,.int .i64 0,.slice (some ⟨gm,om,none⟩) m.length cm]
 | 1=>.agg #[.int .i64 qa,.int .i64 qb,.int .i64 qc]
 | 2=>.agg #[.bool x0.neg,.string (encS x0.num),.string (encS x0.den)]
 | 3=>.agg #[.string ⟨#[98,97,115,105,99]⟩,.int .i64 1,.int .i64 0,.slice (some ⟨gm,om,none⟩) m.length cm]
 | 4=>.agg #[.int .i64 ra,.int .i64 rb,.int .i64 rc]
 | 5=>.agg #[.bool y0.neg,.string (encS y0.num),.string (encS y0.den)]
 | _=>undef
def Spieces_law_3_1 (x0:Rt) (y0:Rt) (qa:Int) (qb:Int) (qc:Int) (ra:Int) (rb:Int) (rc:Int) (gm:Nat) (om:Nat) (cm:Nat) (m:List BT) (ws:Nat) (ix:Nat) (v:Value) (w:World):Prop :=
 match ix with
 | 6=>∃g,v=.pointer (some ⟨g,0,none⟩)∧ws≤g∧w.heap[g]? =some (.cells #[.bool false,.string ⟨#[]⟩,.string ⟨#[]⟩] 29 (0,0))
 | 7=>∃g,v=.pointer (some ⟨g,0,none⟩)∧ws≤g∧w.heap[g]? =some (.cells #[.bool false,.string ⟨#[]⟩,.string ⟨#[]⟩] 29 (0,0))
 | ix=>v=Epieces_law_3_1 x0 y0 qa qb qc ra rb rc gm om cm m ws ix
theorem Spieces_law_3_1_up (x0:Rt) (y0:Rt) (qa:Int) (qb:Int) (qc:Int) (ra:Int) (rb:Int) (rc:Int) (gm:Nat) (om:Nat) (cm:Nat) (m:List BT) (ws:Nat) (ix:Nat) (v:Value) (w w' :World) (hb:Below w.heap.size w w') (h:Spieces_law_3_1 x0 y0 qa qb qc ra rb rc gm om cm m ws ix v w):Spieces_law_3_1 x0 y0 qa qb qc ra rb rc gm om cm m ws ix v w' :=by
 unfold Spieces_law_3_1 at h ⊢
 split at h
 ·exact by obtain ⟨g,e1,e2,e3⟩:=h;exact ⟨g,e1,e2,hpU hb e3⟩
 ·exact by obtain ⟨g,e1,e2,e3⟩:=h;exact ⟨g,e1,e2,hpU hb e3⟩
 ·exact h
def Epieces_law_12_2 (y:Rt) (va:Rt) (sgy:Int):Nat→Value
 | 0=>.bool true
 | 1=>.bool true
 | 2=>.agg #[.bool va.neg,.string (encS va.num),.string (encS va.den)]
 | 3=>.agg #[.bool va.neg,.string (encS va.num),.string (encS va.den)]
 | 4=>.bool true
 | 5=>.bool true
 | 6=>.bool true
 | 7=>.agg #[.bool y.neg,.string (encS y.num),.string (encS y.den)]
 | 8=>.int .i64 sgy
 | 9=>.bool true
 | 10=>.bool true
 | 11=>undef
 | 12=>undef
 | 13=>undef
 | 14=>.bool true
 | 15=>.bool true
 | 16=>.bool true
 | _=>undef
def Epieces_law_12_3 (y:Rt) (vb:Rt) (sgy:Int):Nat→Value
 | 0=>.bool true
 | 1=>.bool true
 | 2=>.agg #[.bool vb.neg,.string (encS vb.num),.string (encS vb.den)]
 | 3=>.agg #[.bool vb.neg,.string (encS vb.num),.string (encS vb.den)]
 | 4=>.bool true
 | 5=>.bool true
 | 6=>.bool true
 | 7=>.agg #[.bool y.neg,.string (encS y.num),.string (encS y.den)]
 | 8=>.int .i64 sgy
 | 9=>.bool false
 | 10=>.bool false
 | 11=>.agg #[.bool vb.neg,.string (encS vb.num),.string (encS vb.den)]
 | 12=>.agg #[.bool vb.neg,.string (encS vb.num),.string (encS vb.den)]
 | 13=>.bool true
 | 14=>.bool true
 | 15=>.bool true
 | 16=>.bool true
 | _=>undef
def Epieces_law_14_4 (r0:Rt) (gm:Nat) (om:Nat) (cm:Nat) (m:List BT) (bk8:Nat):Nat→Value
 | 0=>.pointer (some ⟨bk8,3,none⟩)
 | 1=>.slice (some ⟨gm,om,none⟩) m.length cm
 | 2=>.pointer (some ⟨gm,om,none⟩)
 | 3=>.pointer (some ⟨gm,om+3,none⟩)
 | 4=>.agg #[.bool r0.neg,.string (encS r0.num),.string (encS r0.den)]
 | 5=>.pointer (some ⟨bk8,3,none⟩)
 | 6=>.slice (some ⟨gm,om,none⟩) m.length cm
 | 7=>.pointer (some ⟨gm,om,none⟩)
 | 8=>.pointer (some ⟨gm,om+3,none⟩)
 | 9=>.agg #[.bool r0.neg,.string (encS r0.num),.string (encS r0.den)]
 | 10=>undef
 | 11=>undef
 | 12=>undef
 | 13=>undef
 | _=>undef
def Epieces_law_18_5 (fk:Rt) (rk:Rt) (gm:Nat) (om:Nat) (cm:Nat) (m:List BT) (k:Nat) (bk8:Nat):Nat→Value
 | 0=>.pointer (some ⟨bk8,3,none⟩)
 | 1=>.slice (some ⟨gm,om,none⟩) m.length cm
 | 2=>.int .i64 (k:Int)
 | 3=>.pointer (some ⟨gm,om+k*6,none⟩)
 | 4=>.pointer (some ⟨gm,om+k*6,none⟩)
 | 5=>.agg #[.bool fk.neg,.string (encS fk.num),.string (encS fk.den)]
 | 6=>.pointer (some ⟨bk8,3,none⟩)
 | 7=>.slice (some ⟨gm,om,none⟩) m.length cm
 | 8=>.int .i64 (k:Int)
 | 9=>.pointer (some ⟨gm,om+k*6,none⟩)
 | 10=>.pointer (some ⟨gm,om+k*6+3,none⟩)
 | 11=>.agg #[.bool rk.neg,.string (encS rk.num),.string (encS rk.den)]
 | 12=>undef
 | 13=>undef
 | 14=>undef
 | 15=>undef
 | _=>undef
def Epieces_law_27_6 (mg:Rt) (d:Rt) (gr:Rt):Nat→Value
 | 0=>.bool true
 | 1=>.bool true
 | 2=>.agg #[.bool gr.neg,.string (encS gr.num),.string (encS gr.den)]
 | 3=>.agg #[.bool mg.neg,.string (encS mg.num),.string (encS mg.den)]
 | 4=>.agg #[.bool d.neg,.string (encS d.num),.string (encS d.den)]
 | 5=>.agg #[.bool gr.neg,.string (encS gr.num),.string (encS gr.den)]
 | 6=>.bool true
 | 7=>.bool true
 | 8=>.bool true
 | _=>undef
def Epieces_law_28_7 (d:Rt) (gr:Rt) (bo:Rt) (tp:Rt) (bdd:Rt) (tdd:Rt) (ca:Int) (cb:Int):Nat→Value
 | 0=>.bool true
 | 1=>.bool true
 | 2=>.agg #[.bool gr.neg,.string (encS gr.num),.string (encS gr.den)]
 | 3=>.agg #[.bool bo.neg,.string (encS bo.num),.string (encS bo.den)]
 | 4=>.agg #[.bool d.neg,.string (encS d.num),.string (encS d.den)]
 | 5=>.agg #[.bool bdd.neg,.string (encS bdd.num),.string (encS bdd.den)]
 | 6=>.int .i64 ca
 | 7=>.bool true
 | 8=>.bool true
 | 9=>.bool true
 | 10=>.agg #[.bool gr.neg,.string (encS gr.num),.string (encS gr.den)]
 | 11=>.agg #[.bool tp.neg,.string (encS tp.num),.string (encS tp.den)]
 | 12=>.agg #[.bool d.neg,.string (encS d.num),.string (encS d.den)]
 | 13=>.agg #[.bool tdd.neg,.string (encS tdd.num),.string (encS tdd.den)]
 | 14=>.int .i64 cb
 | 15=>.bool true
 | 16=>.bool true
 | 17=>.bool true
 | _=>undef
set_option maxRecDepth 100000 in
theorem pieces_law (p:Option Addr) (n cap:Nat) (l:List T3) (qa qb qc ra rb rc:Int) (hi:I3 l) (iq:I64 qa∧I64 qb∧I64 qc) (ir:I64 ra∧I64 rb∧I64 rc) (wq:World) (hl:Cut3 wq (.slice p n cap) n l) :
  Gv 5 #[.slice p n cap,.agg #[.int .i64 qa,.int .i64 qb,.int .i64 qc],.agg #[.int .i64 ra,.int .i64 rb,.int .i64 rc]] wq (.bool true):=by
 unfold Gv;have HC3:=hD hl;have hmd:=fun w h=>Made_own p n cap l hi w h
 have hm0:=made_mild l;have hlen:madeN l=(madeB l).length:=by unfold madeB;rw [madeK_len]
 have hi0:=made_inv l;obtain ⟨m,e0⟩:∃x,madeB l=x:=⟨_,rfl⟩;rw [hlen] at hmd;rw [e0] at hmd hm0 hi0;have HMD:=hD hmd;have hmm:=hm0;have hs:=hmm.sch;have HMM:=hD hmm;have HS:=hD hs;clear hl hmd hlen e0;have ax0:=amt_gd hmm (qa,qb,qc);have fx0:=amt_fit hmm (qa,qb,qc);have AMx0:=hD (fun v w h=>amount_any ⟨#[98,97,115,105,99]⟩ 1 0 v m qa qb qc hs iq.1 iq.2.1 iq.2.2 w h);obtain ⟨x0,hx0⟩:∃z,amtT m (qa,qb,qc)=z:=⟨_,rfl⟩;rw [hx0] at ax0 fx0 AMx0;clear hx0;have vx0:=amt_val hmm ax0.1 ax0.2;have HOx0:=hD (And.intro ax0.1 (And.intro fx0 vx0));have ay0:=amt_gd hmm (ra,rb,rc);have fy0:=amt_fit hmm (ra,rb,rc);have AMy0:=hD (fun v w h=>amount_any ⟨#[98,97,115,105,99]⟩ 1 0 v m ra rb rc hs ir.1 ir.2.1 ir.2.2 w h);obtain ⟨y0,hy0⟩:∃z,amtT m (ra,rb,rc)=z:=⟨_,rfl⟩;rw [hy0] at ay0 fy0 AMy0;clear hy0;have vy0:=amt_val hmm ay0.1 ay0.2;have HOy0:=hD (And.intro ay0.1 (And.intro fy0 vy0))
 obtain ⟨x,hx⟩:∃z,(if 0<cmpR x0 y0 then y0 else x0)=z:=⟨_,rfl⟩;obtain ⟨y,hy⟩:∃z,(if 0<cmpR x0 y0 then x0 else y0)=z:=⟨_,rfl⟩;have hxy:=swap_le ax0.1 ay0.1 hx hy;obtain ⟨ox,oy⟩:=swap_in hx hy Rt.Ok ax0.1 ay0.1;obtain ⟨fx,fy⟩:=swap_in hx hy (fun z=>fitT z=true) fx0 fy0;obtain ⟨vx,vy⟩:=swap_in hx hy (fun z=>fitT (valT m z m.length)=true) vx0 vy0;have cx0:=fun w=>rRatCmp_r (IsR.of ax0.1 (fit_rz fx0)) (IsR.of ay0.1 (fit_rz fy0)) (by decide) (by decide) w
 obtain ⟨c0,hc0⟩:∃z,cmpR x0 y0=z:=⟨_,rfl⟩;rw [hc0] at cx0 hx hy;have HX:=hD hx;have HY:=hD hy;have HOX:=hD (And.intro ox (And.intro fx vx));have HOY:=hD (And.intro oy (And.intro fy vy));have cs1:=fun w=>rRatSign_r (IsR.of ox (fit_rz fx)) (by decide) w
 have cs2:=fun w=>rRatSign_r (IsR.of oy (fit_rz fy)) (by decide) w
 have cz:=fun w=>rRatOf_any 0 w (by decide) (by decide)
 have hlx:=pieces_low hs ox;have hly:=pieces_low hs oy;have oa:=val_ok hs ox m.length;have ob:=val_ok hs oy m.length;have om_:=marg_ok (x:=x) hs;have hmz:Rz (margT m x) 50:=by
  unfold margT;split
  ·exact (ofR_sz (n:=0) (by decide) (by decide)).mono (by decide)
  ·exact hs.rtSz _
 have sx:=sgnR_q ox;have sy:=sgnR_q oy;have hpe:=fun bo tp bt (h0:0<sgnR x) (pp:Pcs m x y m.length bo tp bt)=>pieces_end hs ox oy hxy (by rwa [sx,sgQ_gt0] at h0) pp
 have cd1:=fun w=>rRatSub_r (IsR.of oy (fit_rz fy)) (IsR.of ox (fit_rz fx)) (by decide) (by decide) w
 have cd2:=fun w=>rRatSub_r (IsR.of ob (fit_rz vy)) (IsR.of oa (fit_rz vx)) (by decide) (by decide) w
 have od:=subR_ok oy ox;have zd:=subR_sz (fitT_sz fy) (fitT_sz fx);have og:=subR_ok ob oa;have zg:=subR_sz (fitT_sz vy) (fitT_sz vx);have cm1:=fun w=>rRatMul_r (IsR.of om_ (hmz.mono (show 50≤1000 by decide))) (IsR.of od (zd.mono (show 101≤1000 by decide))) (by decide) (by decide) w
 have hlx2:sgnR x≤0→valT m x m.length=ofR 0:=fun h=>hlx (by rwa [sx,sgQ_le0] at h)
 have hly2:¬0<sgnR y→valT m y m.length=ofR 0:=fun h=>hly (by
  have h2:sgnR y≤0:=by omega
  rwa [sy,sgQ_le0] at h2)
 obtain ⟨sgx,k1⟩:∃z,sgnR x=z:=⟨_,rfl⟩;rw [k1] at cs1 hpe hlx2;obtain ⟨sgy,k2⟩:∃z,sgnR y=z:=⟨_,rfl⟩;rw [k2] at cs2 hly2;obtain ⟨va,k3⟩:∃z,valT m x m.length=z:=⟨_,rfl⟩;rw [k3] at cd2 hpe hlx2 og zg;obtain ⟨vb,k4⟩:∃z,valT m y m.length=z:=⟨_,rfl⟩;rw [k4] at cd2 hpe hly2 og zg;obtain ⟨mg,k5⟩:∃z,margT m x=z:=⟨_,rfl⟩;rw [k5] at cm1 hpe;obtain ⟨d,k6⟩:∃z,subR y x=z:=⟨_,rfl⟩;rw [k6] at cd1 cm1 hpe zd od;obtain ⟨gr,k7⟩:∃z,subR vb va=z:=⟨_,rfl⟩;rw [k7] at cd2 hpe zg og;obtain ⟨md,k8⟩:∃z,mulR mg d=z:=⟨_,rfl⟩;rw [k8] at cm1 hpe;obtain ⟨z0,k9⟩:∃z,ofR 0=z:=⟨_,rfl⟩;rw [k9] at cz hlx2 hly2;have HVA:=hD k3;have HVB:=hD k4;have HMG:=hD k5;have HPE:=hD hpe;have HLX:=hD hlx2;have HLY:=hD hly2;have HDZ:=hD (And.intro od (And.intro zd (And.intro og zg)));have HL0:=hD hs.pos
 clear hmm hs hx hy hxy ox oy fx fy vx vy hc0 hlx hly oa ob om_ hmz sx sy hpe od zd og zg hlx2 hly2 k1 k2 k3 k4 k5 k6 k7 k8 k9 ax0 ay0 fx0 fy0 vx0 vy0 hm0 hi0 iq ir hi;have C1:Hid (∀w,Gv 24 #[rtV x0,rtV y0] w (.int .i64 c0)):=hD cx0;have C2:Hid (∀w,Gv 26 #[rtV x] w (.int .i64 sgx)):=hD cs1;have C3:Hid (∀w,Gv 26 #[rtV y] w (.int .i64 sgy)):=hD cs2;have C4:Hid (∀w,Gv 14 #[.int .i64 0] w (.agg #[.bool z0.neg,.string (encS z0.num),.string (encS z0.den)])):=hD cz;have C5:Hid (∀w,Gv 27 #[rtV y,rtV x] w (.agg #[.bool d.neg,.string (encS d.num),.string (encS d.den)])):=hD cd1;have C6:Hid (∀w,Gv 27 #[rtV vb,rtV va] w (.agg #[.bool gr.neg,.string (encS gr.num),.string (encS gr.den)])):=hD cd2;have C7:Hid (∀w,Gv 28 #[rtV mg,rtV d] w (.agg #[.bool md.neg,.string (encS md.num),.string (encS md.den)])):=hD cm1;clear cx0 cs1 cs2 cz cd1 cd2 cm1
 have C8:Hid (∀w,Gv 12 #[] w (.bool true)):=hD fun w=>sanity_any w
 have HB:=hD (Below.refl wq.heap.size wq);obtain ⟨n0,hn0⟩:∃n,n=wq.heap.size:=⟨_,rfl⟩;rw [←hn0];have HN0:=hD hn0;clear hn0;go_enter Tryz.func5,Tryz.ntmps5;obtain ⟨W1,bk4,hW1,hbk4,HX4_1,HB,HG4_1,hup⟩:=boxn HB HN0 (.cells #[.int .i64 qa,.int .i64 qb,.int .i64 qc] 34);clear hup;obtain ⟨W2,bk5,hW2,hbk5,HX5_2,HB,HG5_2,hup⟩:=boxn HB HN0 (.cells #[.int .i64 ra,.int .i64 rb,.int .i64 rc] 34);have HL5_2:=(hup _ _ HX4_1).2;have HX4_1:=(hup _ _ HX4_1).1;clear hup;go_wp2_with fail;clear hW1 hbk4 hW2 hbk5;refine (C8.out _).mono ?_;rintro e w3 ⟨rfl,hb⟩;have HX4_1:=uH hb HX4_1;have HX5_2:=uH hb HX5_2;have HB:=mH HB hb;clear hb;go_wp2_with fail;refine (HMD.out _ (HC3.out.up HB.out)).mono ?_;rintro e w4 ⟨v9,rfl,hown,hb⟩;have HX4_1:=uH hb HX4_1;have HX5_2:=uH hb HX5_2;have HB:=mH HB hb
 have HLM:=hD (own_lstK (l:=m.map rawB) (by rw [List.length_map];exact hown) (by rw [List.length_map];have:=HS.out.le;omega));obtain ⟨gm,om,cm,hv,-,-,hat⟩:=HLM.out.openS HS.out.pos;subst hv;have HATM:=hD hat;have HBr:=hD (Below.refl w4.heap.size w4);clear hown hb hat;obtain ⟨W5,bk8,hW5,hbk8,HX8_3,HB,HG8_3,hup⟩:=boxn HB HN0 (.cells #[.string ⟨#[]⟩,.int .i64 0,.int .i64 0,.slice none 0 0] 26);obtain ⟨HBr,HGb8_3⟩:=allB hW5 hbk8 HBr;have HL8_3:=(hup _ _ HX5_2).2;have HX4_1:=(hup _ _ HX4_1).1;have HX5_2:=(hup _ _ HX5_2).1;clear hup;obtain ⟨W6,hW6,HX8_3,hs,f4a,f4b,f4c,f4d,k4a,k4b,k4c,k4d⟩:=put4_0_4 HX8_3 (.string ⟨#[98,97,115,105,99]⟩) (.int .i64 1) (.int .i64 0) (.slice (some ⟨gm,om,none⟩) m.length cm);have HB:=hs.bel (gN HN0 HG8_3) HB;have HX4_1:=hs.keep _ _ (en2 HL5_2 HL8_3) HX4_1;have HX5_2:=hs.keep _ _ (en1 HL8_3) HX5_2;have HBr:=hs.bel HGb8_3.out HBr;clear hs
 have C9:Hid (∀w,Below w4.heap.size w4 w→Gv 16 #[.agg #[.string ⟨#[98,97,115,105,99]⟩,.int .i64 1,.int .i64 0,.slice (some ⟨gm,om,none⟩) m.length cm],.agg #[.int .i64 qa,.int .i64 qb,.int .i64 qc]] w (.agg #[.bool x0.neg,.string (encS x0.num),.string (encS x0.den)])):=hD fun w hp0=>AMx0.out _ w (HLM.out.up hp0)
 have C10:Hid (∀w,Below w4.heap.size w4 w→Gv 16 #[.agg #[.string ⟨#[98,97,115,105,99]⟩,.int .i64 1,.int .i64 0,.slice (some ⟨gm,om,none⟩) m.length cm],.agg #[.int .i64 ra,.int .i64 rb,.int .i64 rc]] w (.agg #[.bool y0.neg,.string (encS y0.num),.string (encS y0.den)])):=hD fun w hp0=>AMy0.out _ w (HLM.out.up hp0)
 have C11:Hid (∀w,Below w4.heap.size w4 w→Gv 21 #[.agg #[.string ⟨#[98,97,115,105,99]⟩,.int .i64 1,.int .i64 0,.slice (some ⟨gm,om,none⟩) m.length cm],rtV x] w (.tuple #[.agg #[.bool va.neg,.string (encS va.num),.string (encS va.den)],.int .i64 0])):=hD fun w hp0=>by
  have h:=At_s ⟨#[98,97,115,105,99]⟩ 1 0 _ m x HS.out HOX.out.1 HOX.out.2.1 HOX.out.2.2 w (HLM.out.up hp0);rw [HVA.out] at h;exact h
 have C12:Hid (∀w,Below w4.heap.size w4 w→Gv 21 #[.agg #[.string ⟨#[98,97,115,105,99]⟩,.int .i64 1,.int .i64 0,.slice (some ⟨gm,om,none⟩) m.length cm],rtV y] w (.tuple #[.agg #[.bool vb.neg,.string (encS vb.num),.string (encS vb.den)],.int .i64 0])):=hD fun w hp0=>by
  have h:=At_s ⟨#[98,97,115,105,99]⟩ 1 0 _ m y HS.out HOY.out.1 HOY.out.2.1 HOY.out.2.2 w (HLM.out.up hp0);rw [HVB.out] at h;exact h
 have C13:Hid (∀w,Below w4.heap.size w4 w→Gv 25 #[.agg #[.string ⟨#[98,97,115,105,99]⟩,.int .i64 1,.int .i64 0,.slice (some ⟨gm,om,none⟩) m.length cm],rtV x] w (.tuple #[.agg #[.bool mg.neg,.string (encS mg.num),.string (encS mg.den)],.int .i64 0])):=hD fun w hp0=>by
  have h:=Marg_s ⟨#[98,97,115,105,99]⟩ 1 0 _ m x HS.out HOX.out.1 HOX.out.2.1 w (HLM.out.up hp0);rw [HMG.out] at h;exact h
 go_wp2_with fail;clear hW5 hbk8 f4a f4b f4c f4d k4a k4b k4c k4d hW6;refine wp_region_tailW (w:=W6) (by kernel_rfl) (Spieces_law_3_1 x0 y0 qa qb qc ra rb rc gm om cm m W6.heap.size) (fun i=>i==6||i==7) 8 (fun t=>(decide (9≤t)&&decide (t<11))||(decide (28≤t)&&decide (t<34))) (by decide) (by kernel_rfl) (by kernel_rfl) (by kernel_rfl) (by kernel_rfl) (by kernel_rfl) (Spieces_law_3_1_up x0 y0 qa qb qc ra rb rc gm om cm m W6.heap.size) ?_ ?_
 ·intro i hi ov_ listed av_ w hR K hK;have ho:=hR.at_;have hi:i<8:=hi;have hii:i=0∨i=1∨i=2∨i=3∨i=4∨i=5∨i=6∨i=7:=by omega
  rcases hii with rfl|rfl|rfl|rfl|rfl|rfl|rfl|rfl<;>(simp at ho;subst ho)
  ·have b8:av_.tmps.getD 8 undef=.pointer (some ⟨bk8,0,none⟩):=hR.b 8;have cx0:w.cell? ⟨bk8,0,none⟩=some (.string ⟨#[98,97,115,105,99]⟩):=by rw [Lib.cell_of_heap (hpU hR.below HX8_3.out)];rfl
   have cx1:w.cell? ⟨bk8,1,none⟩=some (.int .i64 1):=by rw [Lib.cell_of_heap (hpU hR.below HX8_3.out)];rfl
   have cx2:w.cell? ⟨bk8,2,none⟩=some (.int .i64 0):=by rw [Lib.cell_of_heap (hpU hR.below HX8_3.out)];rfl
   have cx3:w.cell? ⟨bk8,3,none⟩=some (.slice (some ⟨gm,om,none⟩) m.length cm):=by rw [Lib.cell_of_heap (hpU hR.below HX8_3.out)];rfl
   refine pSq ?_;go_simp;exact hK _ _ rfl rB (fun h=>absurd h (by decide))
  ·have b4:av_.tmps.getD 4 undef=.pointer (some ⟨bk4,0,none⟩):=hR.b 4;obtain ⟨cx0,cx1,cx2⟩:=c3 (uH hR.below HX4_1);refine pSq ?_;go_simp;exact hK _ _ rfl rB (fun h=>absurd h (by decide))
  ·have e0:av_.tmps.getD 28 undef=.agg #[.string ⟨#[98,97,115,105,99]⟩,.int .i64 1,.int .i64 0,.slice (some ⟨gm,om,none⟩) m.length cm]:=hR.t 0;have e1:av_.tmps.getD 29 undef=.agg #[.int .i64 qa,.int .i64 qb,.int .i64 qc]:=hR.t 1;refine pSq ?_;go_simp;refine (C9.out w (HBr.out.trans (hR.below.mono HBr.out.size))).mono ?_;rintro e w' ⟨rfl,hb⟩;exact hK _ _ (rfl) hb (fun h=>absurd h (by decide))
  ·have b8:av_.tmps.getD 8 undef=.pointer (some ⟨bk8,0,none⟩):=hR.b 8;have cx0:w.cell? ⟨bk8,0,none⟩=some (.string ⟨#[98,97,115,105,99]⟩):=by rw [Lib.cell_of_heap (hpU hR.below HX8_3.out)];rfl
   have cx1:w.cell? ⟨bk8,1,none⟩=some (.int .i64 1):=by rw [Lib.cell_of_heap (hpU hR.below HX8_3.out)];rfl
   have cx2:w.cell? ⟨bk8,2,none⟩=some (.int .i64 0):=by rw [Lib.cell_of_heap (hpU hR.below HX8_3.out)];rfl
   have cx3:w.cell? ⟨bk8,3,none⟩=some (.slice (some ⟨gm,om,none⟩) m.length cm):=by rw [Lib.cell_of_heap (hpU hR.below HX8_3.out)];rfl
   refine pSq ?_;go_simp;exact hK _ _ rfl rB (fun h=>absurd h (by decide))
  ·have b5:av_.tmps.getD 5 undef=.pointer (some ⟨bk5,0,none⟩):=hR.b 5;obtain ⟨cx0,cx1,cx2⟩:=c3 (uH hR.below HX5_2);refine pSq ?_;go_simp;exact hK _ _ rfl rB (fun h=>absurd h (by decide))
  ·have e3:av_.tmps.getD 31 undef=.agg #[.string ⟨#[98,97,115,105,99]⟩,.int .i64 1,.int .i64 0,.slice (some ⟨gm,om,none⟩) m.length cm]:=hR.t 3;have e4:av_.tmps.getD 32 undef=.agg #[.int .i64 ra,.int .i64 rb,.int .i64 rc]:=hR.t 4;refine pSq ?_;go_simp;refine (C10.out w (HBr.out.trans (hR.below.mono HBr.out.size))).mono ?_;rintro e w' ⟨rfl,hb⟩;exact hK _ _ (rfl) hb (fun h=>absurd h (by decide))
  ·refine pSq ?_;go_simp;exact hK _ _ (⟨_,rfl,hR.below.size,heap_alloc_new _ _⟩) (rB.alloc (Nat.le_refl _) _) (fun _=>⟨_,rfl,Nat.le_refl _,alloc_lt _ _⟩)
  ·refine pSq ?_;go_simp;exact hK _ _ (⟨_,rfl,hR.below.size,heap_alloc_new _ _⟩) (rB.alloc (Nat.le_refl _) _) (fun _=>⟨_,rfl,Nat.le_refl _,alloc_lt _ _⟩)
 ·intro sv_ w hS hb hne;have e2:sv_ 30=.agg #[.bool x0.neg,.string (encS x0.num),.string (encS x0.den)]:=hS 2 (by decide);have e5:sv_ 33=.agg #[.bool y0.neg,.string (encS y0.num),.string (encS y0.den)]:=hS 5 (by decide);have e6:=hS 6 (by decide);have e7:=hS 7 (by decide);simp only [over,ovL,Nat.reduceAdd,Nat.reduceLeDiff,Nat.reduceLT];obtain ⟨bk9,e6b,hg,hN⟩:∃g,sv_ 9=.pointer (some ⟨g,0,none⟩)∧W6.heap.size≤g∧w.heap[g]? =some (.cells #[.bool false,.string ⟨#[]⟩,.string ⟨#[]⟩] 29 (0,0)):=e6;have HG9_5:Hid (n0≤bk9):=hD (by rw [HN0.out];exact Nat.le_trans HB.out.size hg);have HL9_5:=hD (Nat.lt_of_lt_of_le (Array.getElem?_eq_some_iff.1 HX8_3.out).1 hg);have HS9_5:=hD hg;have HGb9_5:=hD (Nat.le_trans HBr.out.size hg);have HX9_5:=hD hN;clear hN hg
  try clear e6
  have e6:=e6b;clear e6b;obtain ⟨bk10,e7b,hg,hN⟩:∃g,sv_ 10=.pointer (some ⟨g,0,none⟩)∧W6.heap.size≤g∧w.heap[g]? =some (.cells #[.bool false,.string ⟨#[]⟩,.string ⟨#[]⟩] 29 (0,0)):=e7;have HG10_6:Hid (n0≤bk10):=hD (by rw [HN0.out];exact Nat.le_trans HB.out.size hg);have HL10_6:=hD (Nat.lt_of_lt_of_le (Array.getElem?_eq_some_iff.1 HX8_3.out).1 hg);have HS10_6:=hD hg;have HGb10_6:=hD (Nat.le_trans HBr.out.size hg);have HX10_6:=hD hN;clear hN hg
  try clear e7
  have e7:=e7b;clear e7b;have HM9_5_bk4:Hid (bk4≠bk9):=hD (by have:=(Array.getElem?_eq_some_iff.1 HX4_1.out).1;have:=HS9_5.out;omega);have HM9_5_bk5:Hid (bk5≠bk9):=hD (by have:=(Array.getElem?_eq_some_iff.1 HX5_2.out).1;have:=HS9_5.out;omega);have HM9_5_bk8:Hid (bk8≠bk9):=hD (by have:=(Array.getElem?_eq_some_iff.1 HX8_3.out).1;have:=HS9_5.out;omega);have hq:=hne 6 7 rfl rfl (by decide) (by decide) (by decide);have hq:sv_ 9≠sv_ 10:=hq;rw [e6,e7] at hq;have HQ9_5_10_6:Hid (bk9≠bk10):=hD (fun h=>hq (by rw [h]));clear hq;clear hne;have HX4_1:=uH hb HX4_1;have HX5_2:=uH hb HX5_2;have HX8_3:=uH hb HX8_3;have HB:=mH HB hb;have HBr:=mH HBr hb;obtain ⟨w7,hw⟩:∃w8,w8=w:=⟨_,rfl⟩;subst hw;rw [e2,e5,e6,e7];clear hS hb e2 e5 e6 e7;obtain ⟨W8,hW8,HX9_5,hs,f7a,f7b,f7c,k7a,k7b,k7c⟩:=put3_0_3 HX9_5 (.bool x0.neg) (.string (encS x0.num)) (.string (encS x0.den));have HB:=hs.bel (gN HN0 HG9_5) HB
  have HX4_1:=hs.keep _ _ (fun hc=>HM9_5_bk4.out hc.symm) HX4_1;have HX5_2:=hs.keep _ _ (fun hc=>HM9_5_bk5.out hc.symm) HX5_2;have HX8_3:=hs.keep _ _ (fun hc=>HM9_5_bk8.out hc.symm) HX8_3;have HX10_6:=hs.keep _ _ HQ9_5_10_6.out HX10_6;have HBr:=hs.bel HGb9_5.out HBr;clear hs;refine tail_step (n:=1) rfl rfl ?_;go_simp
  try rw [hW8]
  clear f7a f7b f7c k7a k7b k7c hW8;obtain ⟨W9,hW9,HX10_6,hs,f8a,f8b,f8c,k8a,k8b,k8c⟩:=put3_0_3 HX10_6 (.bool y0.neg) (.string (encS y0.num)) (.string (encS y0.den));have HB:=hs.bel (gN HN0 HG10_6) HB;have HX4_1:=hs.keep _ _ (en3 HL5_2 HL8_3 HL10_6) HX4_1;have HX5_2:=hs.keep _ _ (en2 HL8_3 HL10_6) HX5_2;have HX8_3:=hs.keep _ _ (en1 HL10_6) HX8_3;have HX9_5:=hs.keep _ _ (fun hc=>HQ9_5_10_6.out hc.symm) HX9_5;have HBr:=hs.bel HGb10_6.out HBr;clear hs;refine tail_step (n:=0) rfl rfl ?_;go_simp
  try rw [hW9]
  clear f8a f8b f8c k8a k8b k8c hW9;simp only [wpTail];obtain ⟨k9a,k9b,k9c⟩:=c3 HX9_5;obtain ⟨k10a,k10b,k10c⟩:=c3 HX10_6;go_wp2_with fail;clear k9a k9b k9c k10a k10b k10c;refine (C1.out _).mono ?_;rintro e w10 ⟨rfl,hb⟩;have HX4_1:=uH hb HX4_1;have HX5_2:=uH hb HX5_2;have HX8_3:=uH hb HX8_3;have HX9_5:=uH hb HX9_5;have HX10_6:=uH hb HX10_6;have HBr:=mH HBr hb;have HB:=mH HB hb;clear hb
  go_upto_if 37 with fail
  go_cut [] (fun wx=>Hid (wx.heap[bk4]? =some (.cells #[.int .i64 qa,.int .i64 qb,.int .i64 qc] 34 (0,0)))∧Hid (wx.heap[bk5]? =some (.cells #[.int .i64 ra,.int .i64 rb,.int .i64 rc] 34 (0,0)))∧Hid (wx.heap[bk8]? =some (.cells #[.string ⟨#[98,97,115,105,99]⟩,.int .i64 1,.int .i64 0,.slice (some ⟨gm,om,none⟩) m.length cm] 26 (0,0)))∧Hid (wx.heap[bk9]? =some (.cells #[.bool x.neg,.string (encS x.num),.string (encS x.den)] 29 (0,0)))∧Hid (wx.heap[bk10]? =some (.cells #[.bool y.neg,.string (encS y.num),.string (encS y.den)] 29 (0,0)))∧Hid (Below w4.heap.size w4 wx)∧Hid (Below wq.heap.size wq wx))
  case first =>
   by_cases hc:0<c0
   ·have e1:y0=x:=by have h:=HX.out;rwa [if_pos hc] at h
    have e2:x0=y:=by have h:=HY.out;rwa [if_pos hc] at h
    have hcd:decide (0<c0)=true:=decide_eq_true hc;subst e1;subst e2;obtain ⟨k11a,k11b,k11c⟩:=c3 HX10_6;obtain ⟨k12a,k12b,k12c⟩:=c3 HX9_5;obtain ⟨W11,hW11,HX9_5,hs,f13a,f13b,f13c,k13a,k13b,k13c⟩:=put3_0_3 HX9_5 (.bool y0.neg) (.string (encS y0.num)) (.string (encS y0.den));have HB:=hs.bel (gN HN0 HG9_5) HB;have HX4_1:=hs.keep _ _ (fun hc=>HM9_5_bk4.out hc.symm) HX4_1;have HX5_2:=hs.keep _ _ (fun hc=>HM9_5_bk5.out hc.symm) HX5_2;have HX8_3:=hs.keep _ _ (fun hc=>HM9_5_bk8.out hc.symm) HX8_3;have HX10_6:=hs.keep _ _ HQ9_5_10_6.out HX10_6;have HBr:=hs.bel HGb9_5.out HBr;clear hs;obtain ⟨W12,hW12,HX10_6,hs,f14a,f14b,f14c,k14a,k14b,k14c⟩:=put3_0_3 HX10_6 (.bool x0.neg) (.string (encS x0.num)) (.string (encS x0.den));have HB:=hs.bel (gN HN0 HG10_6) HB;have HX4_1:=hs.keep _ _ (en3 HL5_2 HL8_3 HL10_6) HX4_1;have HX5_2:=hs.keep _ _ (en2 HL8_3 HL10_6) HX5_2
    have HX8_3:=hs.keep _ _ (en1 HL10_6) HX8_3;have HX9_5:=hs.keep _ _ (fun hc=>HQ9_5_10_6.out hc.symm) HX9_5;have HBr:=hs.bel HGb10_6.out HBr;clear hs;go_wp2_with fail;clear hcd hc k11a k11b k11c k12a k12b k12c f13a f13b f13c k13a k13b k13c hW11 f14a f14b f14c k14a k14b k14c hW12
    go_meet
    exact ⟨HX4_1,HX5_2,HX8_3,HX9_5,HX10_6,HBr,HB⟩
   ·have e1:x0=x:=by have h:=HX.out;rwa [if_neg hc] at h
    have e2:y0=y:=by have h:=HY.out;rwa [if_neg hc] at h
    have hcd:decide (0<c0)=false:=decide_eq_false hc;subst e1;subst e2;go_wp2_with fail;clear hcd hc
    go_meet
    exact ⟨HX4_1,HX5_2,HX8_3,HX9_5,HX10_6,HBr,HB⟩
  case rest =>
   obtain ⟨HX4_1,HX5_2,HX8_3,HX9_5,HX10_6,HBr,HB⟩:=hcut;have k15:=k1_ (i:=0) (u:=.string ⟨#[98,97,115,105,99]⟩) HX8_3 rfl;have k16:=k1_ (i:=1) (u:=.int .i64 1) HX8_3 rfl;have k17:=k1_ (i:=2) (u:=.int .i64 0) HX8_3 rfl;have k18:=k1_ (i:=3) (u:=.slice (some ⟨gm,om,none⟩) m.length cm) HX8_3 rfl;obtain ⟨k19a,k19b,k19c⟩:=c3 HX9_5;go_wp2_with fail;clear k15 k16 k17 k18 k19a k19b k19c;refine (C11.out _ HBr.out).mono ?_;rintro e w13 ⟨rfl,hb⟩;have HX4_1:=uH hb HX4_1;have HX5_2:=uH hb HX5_2;have HX8_3:=uH hb HX8_3;have HX9_5:=uH hb HX9_5;have HX10_6:=uH hb HX10_6;have HBr:=mH HBr hb;have HB:=mH HB hb;clear hb;obtain ⟨W14,bk11,hW14,hbk11,HX11_20,HB,HG11_20,hup⟩:=boxZ HB HN0;obtain ⟨HBr,HGb11_20⟩:=allB hW14 hbk11 HBr;have HL11_20:=(hup _ _ HX10_6).2;have HM11_20_bk9:=hD (Nat.ne_of_lt (hup _ _ HX9_5).2.out);have HX4_1:=(hup _ _ HX4_1).1;have HX5_2:=(hup _ _ HX5_2).1;have HX8_3:=(hup _ _ HX8_3).1
   have HX9_5:=(hup _ _ HX9_5).1;have HX10_6:=(hup _ _ HX10_6).1;clear hup;obtain ⟨W15,hW15,HX11_20,hs,f21a,f21b,f21c,k21a,k21b,k21c⟩:=put3_0_3 HX11_20 (.bool va.neg) (.string (encS va.num)) (.string (encS va.den));have HB:=hs.bel (gN HN0 HG11_20) HB;have HX4_1:=hs.keep _ _ (en4 HL5_2 HL8_3 HL10_6 HL11_20) HX4_1;have HX5_2:=hs.keep _ _ (en3 HL8_3 HL10_6 HL11_20) HX5_2;have HX8_3:=hs.keep _ _ (en2 HL10_6 HL11_20) HX8_3;have HX9_5:=hs.keep _ _ (fun hc=>HM11_20_bk9.out hc.symm) HX9_5;have HX10_6:=hs.keep _ _ (en1 HL11_20) HX10_6;have HBr:=hs.bel HGb11_20.out HBr;clear hs;have k22:=k1_ (i:=0) (u:=.string ⟨#[98,97,115,105,99]⟩) HX8_3 rfl;have k23:=k1_ (i:=1) (u:=.int .i64 1) HX8_3 rfl;have k24:=k1_ (i:=2) (u:=.int .i64 0) HX8_3 rfl;have k25:=k1_ (i:=3) (u:=.slice (some ⟨gm,om,none⟩) m.length cm) HX8_3 rfl;obtain ⟨k26a,k26b,k26c⟩:=c3 HX10_6;go_wp2_with fail
   clear hW14 hbk11 f21a f21b f21c k21a k21b k21c hW15 k22 k23 k24 k25 k26a k26b k26c;refine (C12.out _ HBr.out).mono ?_;rintro e w16 ⟨rfl,hb⟩;have HX4_1:=uH hb HX4_1;have HX5_2:=uH hb HX5_2;have HX8_3:=uH hb HX8_3;have HX9_5:=uH hb HX9_5;have HX10_6:=uH hb HX10_6;have HX11_20:=uH hb HX11_20;have HBr:=mH HBr hb;have HB:=mH HB hb;clear hb;obtain ⟨W17,bk13,hW17,hbk13,HX13_27,HB,HG13_27,hup⟩:=boxZ HB HN0;obtain ⟨HBr,HGb13_27⟩:=allB hW17 hbk13 HBr;have HL13_27:=(hup _ _ HX11_20).2;have HM13_27_bk9:=hD (Nat.ne_of_lt (hup _ _ HX9_5).2.out);have HX4_1:=(hup _ _ HX4_1).1;have HX5_2:=(hup _ _ HX5_2).1;have HX8_3:=(hup _ _ HX8_3).1;have HX9_5:=(hup _ _ HX9_5).1;have HX10_6:=(hup _ _ HX10_6).1;have HX11_20:=(hup _ _ HX11_20).1;clear hup;obtain ⟨W18,hW18,HX13_27,hs,f28a,f28b,f28c,k28a,k28b,k28c⟩:=put3_0_3 HX13_27 (.bool vb.neg) (.string (encS vb.num)) (.string (encS vb.den))
   have HB:=hs.bel (gN HN0 HG13_27) HB;have HX4_1:=hs.keep _ _ (en5 HL5_2 HL8_3 HL10_6 HL11_20 HL13_27) HX4_1;have HX5_2:=hs.keep _ _ (en4 HL8_3 HL10_6 HL11_20 HL13_27) HX5_2;have HX8_3:=hs.keep _ _ (en3 HL10_6 HL11_20 HL13_27) HX8_3;have HX9_5:=hs.keep _ _ (fun hc=>HM13_27_bk9.out hc.symm) HX9_5;have HX10_6:=hs.keep _ _ (en2 HL11_20 HL13_27) HX10_6;have HX11_20:=hs.keep _ _ (en1 HL13_27) HX11_20;have HBr:=hs.bel HGb13_27.out HBr;clear hs;have k29:=k1_ (i:=0) (u:=.string ⟨#[98,97,115,105,99]⟩) HX8_3 rfl;have k30:=k1_ (i:=1) (u:=.int .i64 1) HX8_3 rfl;have k31:=k1_ (i:=2) (u:=.int .i64 0) HX8_3 rfl;have k32:=k1_ (i:=3) (u:=.slice (some ⟨gm,om,none⟩) m.length cm) HX8_3 rfl;obtain ⟨k33a,k33b,k33c⟩:=c3 HX9_5;go_wp2_with fail;clear hW17 hbk13 f28a f28b f28c k28a k28b k28c hW18 k29 k30 k31 k32 k33a k33b k33c;refine (C13.out _ HBr.out).mono ?_;rintro e w19 ⟨rfl,hb⟩;have HX4_1:=uH hb HX4_1
   have HX5_2:=uH hb HX5_2;have HX8_3:=uH hb HX8_3;have HX9_5:=uH hb HX9_5;have HX10_6:=uH hb HX10_6;have HX11_20:=uH hb HX11_20;have HX13_27:=uH hb HX13_27;have HBr:=mH HBr hb;have HB:=mH HB hb;clear hb;obtain ⟨W20,bk15,hW20,hbk15,HX15_34,HB,HG15_34,hup⟩:=boxZ HB HN0;obtain ⟨HBr,HGb15_34⟩:=allB hW20 hbk15 HBr;have HL15_34:=(hup _ _ HX13_27).2;have HM15_34_bk9:=hD (Nat.ne_of_lt (hup _ _ HX9_5).2.out);have HX4_1:=(hup _ _ HX4_1).1;have HX5_2:=(hup _ _ HX5_2).1;have HX8_3:=(hup _ _ HX8_3).1;have HX9_5:=(hup _ _ HX9_5).1;have HX10_6:=(hup _ _ HX10_6).1;have HX11_20:=(hup _ _ HX11_20).1;have HX13_27:=(hup _ _ HX13_27).1;clear hup;obtain ⟨W21,hW21,HX15_34,hs,f35a,f35b,f35c,k35a,k35b,k35c⟩:=put3_0_3 HX15_34 (.bool mg.neg) (.string (encS mg.num)) (.string (encS mg.den));have HB:=hs.bel (gN HN0 HG15_34) HB
   have HX4_1:=hs.keep _ _ (by have h0:=HL5_2.out;have h1:=HL8_3.out;have h2:=HL10_6.out;have h3:=HL11_20.out;have h4:=HL13_27.out;have h5:=HL15_34.out;omega) HX4_1;have HX5_2:=hs.keep _ _ (en5 HL8_3 HL10_6 HL11_20 HL13_27 HL15_34) HX5_2;have HX8_3:=hs.keep _ _ (en4 HL10_6 HL11_20 HL13_27 HL15_34) HX8_3;have HX9_5:=hs.keep _ _ (fun hc=>HM15_34_bk9.out hc.symm) HX9_5;have HX10_6:=hs.keep _ _ (en3 HL11_20 HL13_27 HL15_34) HX10_6;have HX11_20:=hs.keep _ _ (en2 HL13_27 HL15_34) HX11_20;have HX13_27:=hs.keep _ _ (en1 HL15_34) HX13_27;have HBr:=hs.bel HGb15_34.out HBr;clear hs;obtain ⟨k36a,k36b,k36c⟩:=c3 HX9_5;go_wp2_with fail;clear hW20 hbk15 f35a f35b f35c k35a k35b k35c hW21 k36a k36b k36c;refine (C2.out _).mono ?_;rintro e w22 ⟨rfl,hb⟩;have HX4_1:=uH hb HX4_1;have HX5_2:=uH hb HX5_2;have HX8_3:=uH hb HX8_3;have HX9_5:=uH hb HX9_5;have HX10_6:=uH hb HX10_6;have HX11_20:=uH hb HX11_20
   have HX13_27:=uH hb HX13_27;have HX15_34:=uH hb HX15_34;have HBr:=mH HBr hb;have HB:=mH HB hb;clear hb
   by_cases hlow:sgx≤0
   ·have hq:decide (sgx≤0)=true:=decide_eq_true hlow;have eva:=HLX.out (by omega);subst eva;clear hlow;go_wp2_with fail;clear hq
    by_cases hy1:0<sgy
    ·have HQ:Hid (decide (0<sgy)=true):=hD (decide_eq_true hy1);clear hy1;refine wpVl (w:=w22) (by kernel_rfl) (fun ix v _=>v=Epieces_law_12_2 y va sgy ix) (fun t=>(decide (6≤t)&&decide (t<7))||(decide (71≤t)&&decide (t<87))) (by kernel_rfl) (by kernel_rfl) (by kernel_rfl) (fun _ _ _ _ _ h=>h) ?_ ?_
     ·intro i hi ov_ listed av_ w hR K hK;have ho:=hR.at_;have hi:i<17:=hi;have hii:i=0∨i=1∨i=2∨i=3∨i=4∨i=5∨i=6∨i=7∨i=8∨i=9∨i=10∨i=11∨i=12∨i=13∨i=14∨i=15∨i=16:=by omega
      rcases hii with rfl|rfl|rfl|rfl|rfl|rfl|rfl|rfl|rfl|rfl|rfl|rfl|rfl|rfl|rfl|rfl|rfl<;>(simp at ho;subst ho)
      ·have b7:av_.tmps.getD 7 undef=.bool true:=hR.b 7;refine pSq ?_;go_simp;exact hK _ _ rfl rB
      ·have e0:av_.tmps.getD 71 undef=.bool true:=hR.d 0;refine pSq ?_;go_simp;exact hK _ _ rfl rB
      ·have e1:av_.tmps.getD 72 undef=.bool true:=hR.g 1;have b11:av_.tmps.getD 11 undef=.pointer (some ⟨bk11,0,none⟩):=hR.b 11;obtain ⟨cx0,cx1,cx2⟩:=c3 (uH hR.below HX11_20);refine gSq (b:=true) e1 ?_;go_simp;exact hK _ _ rfl rB
      ·have e1:av_.tmps.getD 72 undef=.bool true:=hR.g 1;refine gSq (b:=true) e1 ?_;go_simp;refine (C4.out w).mono ?_;rintro e w' ⟨rfl,hb⟩;exact hK _ _ (rfl) hb
      ·have e2:av_.tmps.getD 73 undef=.agg #[.bool va.neg,.string (encS va.num),.string (encS va.den)]:=hR.d 2;have e3:av_.tmps.getD 74 undef=.agg #[.bool va.neg,.string (encS va.num),.string (encS va.den)]:=hR.d 3;have e1:av_.tmps.getD 72 undef=.bool true:=hR.g 1;have hq:=run_eqlR (eqR_iff.2 (rfl:va=va));refine gSq (b:=true) e1 ?_;go_simp;exact hK _ _ rfl rB
      ·have e1:av_.tmps.getD 72 undef=.bool true:=hR.d 1;have e4:av_.tmps.getD 75 undef=.bool true:=hR.d 4;refine pSq ?_;go_simp;exact hK _ _ rfl rB
      ·have e5:av_.tmps.getD 76 undef=.bool true:=hR.d 5;refine pSq ?_;go_simp;exact hK _ _ rfl rB
      ·have e6:av_.tmps.getD 77 undef=.bool true:=hR.g 6;have b10:av_.tmps.getD 10 undef=.pointer (some ⟨bk10,0,none⟩):=hR.b 10;obtain ⟨cx0,cx1,cx2⟩:=c3 (uH hR.below HX10_6);refine gSq (b:=true) e6 ?_;go_simp;exact hK _ _ rfl rB
      ·have e7:av_.tmps.getD 78 undef=.agg #[.bool y.neg,.string (encS y.num),.string (encS y.den)]:=hR.d 7;have e6:av_.tmps.getD 77 undef=.bool true:=hR.g 6;refine gSq (b:=true) e6 ?_;go_simp;refine (C3.out w).mono ?_;rintro e w' ⟨rfl,hb⟩;exact hK _ _ (rfl) hb
      ·have e8:av_.tmps.getD 79 undef=.int .i64 sgy:=hR.d 8;have e6:av_.tmps.getD 77 undef=.bool true:=hR.g 6;have hq:=HQ.out;refine gSq (b:=true) e6 ?_;go_simp;exact hK _ _ rfl rB
      ·have e9:av_.tmps.getD 80 undef=.bool true:=hR.d 9;have e6:av_.tmps.getD 77 undef=.bool true:=hR.g 6;refine gSq (b:=true) e6 ?_;go_simp;exact hK _ _ rfl rB
      ·have e10:av_.tmps.getD 81 undef=.bool true:=hR.g 10;refine gSkp rfl rfl rfl (b:=false) e10 (by decide) ?_;exact hK _ _ rfl rB
      ·have e10:av_.tmps.getD 81 undef=.bool true:=hR.g 10;refine gSkp rfl rfl rfl (b:=false) e10 (by decide) ?_;exact hK _ _ rfl rB
      ·have e10:av_.tmps.getD 81 undef=.bool true:=hR.g 10;refine gSkp rfl rfl rfl (b:=false) e10 (by decide) ?_;exact hK _ _ rfl rB
      ·have e10:av_.tmps.getD 81 undef=.bool true:=hR.d 10;have e13:av_.tmps.getD 84 undef=undef:=hR.d 13;have e6:av_.tmps.getD 77 undef=.bool true:=hR.g 6;refine gSq (b:=true) e6 ?_;go_simp;exact hK _ _ rfl rB
      ·have e6:av_.tmps.getD 77 undef=.bool true:=hR.d 6;have e14:av_.tmps.getD 85 undef=.bool true:=hR.d 14;refine pSq ?_;go_simp;exact hK _ _ rfl rB
      ·have e15:av_.tmps.getD 86 undef=.bool true:=hR.d 15;refine pSq ?_;go_simp;exact hK _ _ rfl rB
     ·intro sv_ w hS hb;have e16:sv_ 6=.bool true:=hS 16 (by decide);simp only [over,ovL,Nat.reduceAdd,Nat.reduceLeDiff,Nat.reduceLT];have HB:=mH HB hb;have HBr:=mH HBr hb;have HX4_1:=uH hb HX4_1;have HX5_2:=uH hb HX5_2;have HX8_3:=uH hb HX8_3;have HX9_5:=uH hb HX9_5;have HX10_6:=uH hb HX10_6;have HX11_20:=uH hb HX11_20;have HX13_27:=uH hb HX13_27;have HX15_34:=uH hb HX15_34;obtain ⟨w23,hw⟩:∃w8,w8=w:=⟨_,rfl⟩;subst hw;rw [e16];clear hS hb e16;go_wp2_with fail;go_ret;exact ⟨rfl,by rw [HN0.out];exact HB.out⟩
    ·have HQ:Hid (decide (0<sgy)=false):=hD (decide_eq_false hy1);have evb:=HLY.out (by omega);subst evb;clear hy1;refine wpVl (w:=w22) (by kernel_rfl) (fun ix v _=>v=Epieces_law_12_3 y vb sgy ix) (fun t=>(decide (6≤t)&&decide (t<7))||(decide (71≤t)&&decide (t<87))) (by kernel_rfl) (by kernel_rfl) (by kernel_rfl) (fun _ _ _ _ _ h=>h) ?_ ?_
     ·intro i hi ov_ listed av_ w hR K hK;have ho:=hR.at_;have hi:i<17:=hi;have hii:i=0∨i=1∨i=2∨i=3∨i=4∨i=5∨i=6∨i=7∨i=8∨i=9∨i=10∨i=11∨i=12∨i=13∨i=14∨i=15∨i=16:=by omega
      rcases hii with rfl|rfl|rfl|rfl|rfl|rfl|rfl|rfl|rfl|rfl|rfl|rfl|rfl|rfl|rfl|rfl|rfl<;>(simp at ho;subst ho)
      ·have b7:av_.tmps.getD 7 undef=.bool true:=hR.b 7;refine pSq ?_;go_simp;exact hK _ _ rfl rB
      ·have e0:av_.tmps.getD 71 undef=.bool true:=hR.d 0;refine pSq ?_;go_simp;exact hK _ _ rfl rB
      ·have e1:av_.tmps.getD 72 undef=.bool true:=hR.g 1;have b11:av_.tmps.getD 11 undef=.pointer (some ⟨bk11,0,none⟩):=hR.b 11;obtain ⟨cx0,cx1,cx2⟩:=c3 (uH hR.below HX11_20);refine gSq (b:=true) e1 ?_;go_simp;exact hK _ _ rfl rB
      ·have e1:av_.tmps.getD 72 undef=.bool true:=hR.g 1;refine gSq (b:=true) e1 ?_;go_simp;refine (C4.out w).mono ?_;rintro e w' ⟨rfl,hb⟩;exact hK _ _ (rfl) hb
      ·have e2:av_.tmps.getD 73 undef=.agg #[.bool vb.neg,.string (encS vb.num),.string (encS vb.den)]:=hR.d 2;have e3:av_.tmps.getD 74 undef=.agg #[.bool vb.neg,.string (encS vb.num),.string (encS vb.den)]:=hR.d 3;have e1:av_.tmps.getD 72 undef=.bool true:=hR.g 1;have hq:=run_eqlR (eqR_iff.2 (rfl:vb=vb));refine gSq (b:=true) e1 ?_;go_simp;exact hK _ _ rfl rB
      ·have e1:av_.tmps.getD 72 undef=.bool true:=hR.d 1;have e4:av_.tmps.getD 75 undef=.bool true:=hR.d 4;refine pSq ?_;go_simp;exact hK _ _ rfl rB
      ·have e5:av_.tmps.getD 76 undef=.bool true:=hR.d 5;refine pSq ?_;go_simp;exact hK _ _ rfl rB
      ·have e6:av_.tmps.getD 77 undef=.bool true:=hR.g 6;have b10:av_.tmps.getD 10 undef=.pointer (some ⟨bk10,0,none⟩):=hR.b 10;obtain ⟨cx0,cx1,cx2⟩:=c3 (uH hR.below HX10_6);refine gSq (b:=true) e6 ?_;go_simp;exact hK _ _ rfl rB
      ·have e7:av_.tmps.getD 78 undef=.agg #[.bool y.neg,.string (encS y.num),.string (encS y.den)]:=hR.d 7;have e6:av_.tmps.getD 77 undef=.bool true:=hR.g 6;refine gSq (b:=true) e6 ?_;go_simp;refine (C3.out w).mono ?_;rintro e w' ⟨rfl,hb⟩;exact hK _ _ (rfl) hb
      ·have e8:av_.tmps.getD 79 undef=.int .i64 sgy:=hR.d 8;have e6:av_.tmps.getD 77 undef=.bool true:=hR.g 6;have hq:=HQ.out;refine gSq (b:=true) e6 ?_;go_simp;exact hK _ _ rfl rB
      ·have e9:av_.tmps.getD 80 undef=.bool false:=hR.d 9;have e6:av_.tmps.getD 77 undef=.bool true:=hR.g 6;refine gSq (b:=true) e6 ?_;go_simp;exact hK _ _ rfl rB
      ·have e10:av_.tmps.getD 81 undef=.bool false:=hR.g 10;have b13:av_.tmps.getD 13 undef=.pointer (some ⟨bk13,0,none⟩):=hR.b 13;obtain ⟨cx0,cx1,cx2⟩:=c3 (uH hR.below HX13_27);refine gSq (b:=false) e10 ?_;go_simp;exact hK _ _ rfl rB
      ·have e10:av_.tmps.getD 81 undef=.bool false:=hR.g 10;have b11:av_.tmps.getD 11 undef=.pointer (some ⟨bk11,0,none⟩):=hR.b 11;obtain ⟨cx0,cx1,cx2⟩:=c3 (uH hR.below HX11_20);refine gSq (b:=false) e10 ?_;go_simp;exact hK _ _ rfl rB
      ·have e11:av_.tmps.getD 82 undef=.agg #[.bool vb.neg,.string (encS vb.num),.string (encS vb.den)]:=hR.d 11;have e12:av_.tmps.getD 83 undef=.agg #[.bool vb.neg,.string (encS vb.num),.string (encS vb.den)]:=hR.d 12;have e10:av_.tmps.getD 81 undef=.bool false:=hR.g 10;have hq:=run_eqlR (eqR_iff.2 (rfl:vb=vb));refine gSq (b:=false) e10 ?_;go_simp;exact hK _ _ rfl rB
      ·have e10:av_.tmps.getD 81 undef=.bool false:=hR.d 10;have e13:av_.tmps.getD 84 undef=.bool true:=hR.d 13;have e6:av_.tmps.getD 77 undef=.bool true:=hR.g 6;refine gSq (b:=true) e6 ?_;go_simp;exact hK _ _ rfl rB
      ·have e6:av_.tmps.getD 77 undef=.bool true:=hR.d 6;have e14:av_.tmps.getD 85 undef=.bool true:=hR.d 14;refine pSq ?_;go_simp;exact hK _ _ rfl rB
      ·have e15:av_.tmps.getD 86 undef=.bool true:=hR.d 15;refine pSq ?_;go_simp;exact hK _ _ rfl rB
     ·intro sv_ w hS hb;have e16:sv_ 6=.bool true:=hS 16 (by decide);simp only [over,ovL,Nat.reduceAdd,Nat.reduceLeDiff,Nat.reduceLT];have HB:=mH HB hb;have HBr:=mH HBr hb;have HX4_1:=uH hb HX4_1;have HX5_2:=uH hb HX5_2;have HX8_3:=uH hb HX8_3;have HX9_5:=uH hb HX9_5;have HX10_6:=uH hb HX10_6;have HX11_20:=uH hb HX11_20;have HX13_27:=uH hb HX13_27;have HX15_34:=uH hb HX15_34;obtain ⟨w24,hw⟩:∃w8,w8=w:=⟨_,rfl⟩;subst hw;rw [e16];clear hS hb e16;go_wp2_with fail;go_ret;exact ⟨rfl,by rw [HN0.out];exact HB.out⟩
   ·have hq:decide (sgx≤0)=false:=decide_eq_false hlow;have HSX:Hid (0<sgx):=hD (by omega);clear hlow;go_wp2_with fail;clear hq;have hat0:=HATM.out 0 HL0.out;rw [show om+0*6=om by omega] at hat0;have HE0:=hD hat0;have HPS:=hD (Pcs.start (x:=x) (y:=y) HS.out);obtain ⟨f0,kf⟩:∃z,frT m 0=z:=⟨_,rfl⟩;obtain ⟨r0,kr⟩:∃z,rtT m 0=z:=⟨_,rfl⟩;rw [kf,kr] at HE0;rw [kr] at HPS;clear hat0 kf kr;refine wp_region_two (w:=w22) (by kernel_rfl) (Epieces_law_14_4 r0 gm om cm m bk8) 10 11 12 13 (.cells #[.bool false,.string ⟨#[]⟩,.string ⟨#[]⟩] 29 (0,0)) (.cells #[.bool r0.neg,.string (encS r0.num),.string (encS r0.den)] 29 (0,0)) (.cells #[.bool r0.neg,.string (encS r0.num),.string (encS r0.den)] 29 (0,0)) (fun t=>(decide (18≤t)&&decide (t<20))||(decide (87≤t)&&decide (t<97))) (by decide) (by decide) (by kernel_rfl) (by kernel_rfl) (by kernel_rfl) (by kernel_rfl) (by kernel_rfl) ?_ ?_ ?_ ?_
    ·intro i hi h1 h2 h3 h4 ov_ listed av_ w hR K hK;have ho:=hR.at_;have hi:i<14:=hi;have hii:i=0∨i=1∨i=2∨i=3∨i=4∨i=5∨i=6∨i=7∨i=8∨i=9:=by omega
     clear h1 h2 h3 h4;rcases hii with rfl|rfl|rfl|rfl|rfl|rfl|rfl|rfl|rfl|rfl<;>(simp at ho;subst ho)
     ·have b8:av_.tmps.getD 8 undef=.pointer (some ⟨bk8,0,none⟩):=hR.b 8;refine pSq ?_;go_simp;exact hK _ _ rfl rfl
     ·have e0:av_.tmps.getD 87 undef=.pointer (some ⟨bk8,3,none⟩):=hR.dep ⟨0,.data⟩ (by simp) rfl (by decide) (by decide) (by decide) (by decide);have cx0:=k1_ (i:=3) (u:=.slice (some ⟨gm,om,none⟩) m.length cm) (uH hR.below HX8_3) rfl;refine pSq ?_;go_simp;exact hK _ _ rfl rfl
     ·have e1:av_.tmps.getD 88 undef=.slice (some ⟨gm,om,none⟩) m.length cm:=hR.dep ⟨1,.data⟩ (by simp) rfl (by decide) (by decide) (by decide) (by decide);have hk3:=HL0.out;refine pSq ?_;go_simp;exact hK _ _ rfl rfl
     ·have e2:av_.tmps.getD 89 undef=.pointer (some ⟨gm,om,none⟩):=hR.dep ⟨2,.data⟩ (by simp) rfl (by decide) (by decide) (by decide) (by decide);refine pSq ?_;go_simp;exact hK _ _ rfl rfl
     ·have e3:av_.tmps.getD 90 undef=.pointer (some ⟨gm,om+3,none⟩):=hR.dep ⟨3,.data⟩ (by simp) rfl (by decide) (by decide) (by decide) (by decide);obtain ⟨cx0,cx1,cx2,cx3,cx4,cx5⟩:=HE0.out _ (HBr.out.trans (hR.below.mono HBr.out.size));refine pSq ?_;go_simp;exact hK _ _ rfl rfl
     ·have b8:av_.tmps.getD 8 undef=.pointer (some ⟨bk8,0,none⟩):=hR.b 8;refine pSq ?_;go_simp;exact hK _ _ rfl rfl
     ·have e5:av_.tmps.getD 92 undef=.pointer (some ⟨bk8,3,none⟩):=hR.dep ⟨5,.data⟩ (by simp) rfl (by decide) (by decide) (by decide) (by decide);have cx0:=k1_ (i:=3) (u:=.slice (some ⟨gm,om,none⟩) m.length cm) (uH hR.below HX8_3) rfl;refine pSq ?_;go_simp;exact hK _ _ rfl rfl
     ·have e6:av_.tmps.getD 93 undef=.slice (some ⟨gm,om,none⟩) m.length cm:=hR.dep ⟨6,.data⟩ (by simp) rfl (by decide) (by decide) (by decide) (by decide);have hk3:=HL0.out;refine pSq ?_;go_simp;exact hK _ _ rfl rfl
     ·have e7:av_.tmps.getD 94 undef=.pointer (some ⟨gm,om,none⟩):=hR.dep ⟨7,.data⟩ (by simp) rfl (by decide) (by decide) (by decide) (by decide);refine pSq ?_;go_simp;exact hK _ _ rfl rfl
     ·have e8:av_.tmps.getD 95 undef=.pointer (some ⟨gm,om+3,none⟩):=hR.dep ⟨8,.data⟩ (by simp) rfl (by decide) (by decide) (by decide) (by decide);obtain ⟨cx0,cx1,cx2,cx3,cx4,cx5⟩:=HE0.out _ (HBr.out.trans (hR.below.mono HBr.out.size));refine pSq ?_;go_simp;exact hK _ _ rfl rfl
    ·intro i hii ov_ av_ w ho K hK;rcases hii with rfl|rfl<;>(simp at ho;subst ho;refine pSq ?_;go_simp;exact hK _ _ _ rfl rfl (heap_alloc_new _ _) (by simp [World.size_alloc]) (rB.alloc (Nat.le_refl _) _))
    ·intro i j N hij ov_ listed av_ w g hR hv hg hz K hK;have ho:=hR.at_;rcases hij with ⟨rfl,rfl,rfl⟩|⟨rfl,rfl,rfl⟩
     ·simp at ho;subst ho;have e10:av_.tmps.getD 18 undef=.pointer (some ⟨g,0,none⟩):=hv;have e4:av_.tmps.getD 91 undef=.agg #[.bool r0.neg,.string (encS r0.num),.string (encS r0.den)]:=hR.dep ⟨4,.data⟩ (by simp) rfl (by decide) (by decide) (by decide) (by decide);have cz0:=k1_ (i:=0) (u:=(.bool false)) (hD hz) rfl;have cz1:=k1_ (i:=1) (u:=(.string ⟨#[]⟩)) (hD hz) rfl;have cz2:=k1_ (i:=2) (u:=(.string ⟨#[]⟩)) (hD hz) rfl;have fz0:=frz0 hz 0;have fz1:=frz0 hz 1;have fz2:=frz0 hz 2;refine pSq ?_;go_simp;exact hK undef _ (by simp [World.setCell,Array.getElem?_modify,hz]) (fun c o hne h=>row_else (row_else (row_else h hne _) hne _) hne _) (by simp [World.setCell]) (((hR.below.setCell (p:=⟨g,0,none⟩) hg (.bool r0.neg)).setCell (p:=⟨g,1,none⟩) hg (.string (encS r0.num))).setCell (p:=⟨g,2,none⟩) hg (.string (encS r0.den)))
     ·simp at ho;subst ho;have e11:av_.tmps.getD 19 undef=.pointer (some ⟨g,0,none⟩):=hv;have e9:av_.tmps.getD 96 undef=.agg #[.bool r0.neg,.string (encS r0.num),.string (encS r0.den)]:=hR.dep ⟨9,.data⟩ (by simp) rfl (by decide) (by decide) (by decide) (by decide);have cz0:=k1_ (i:=0) (u:=(.bool false)) (hD hz) rfl;have cz1:=k1_ (i:=1) (u:=(.string ⟨#[]⟩)) (hD hz) rfl;have cz2:=k1_ (i:=2) (u:=(.string ⟨#[]⟩)) (hD hz) rfl;have fz0:=frz0 hz 0;have fz1:=frz0 hz 1;have fz2:=frz0 hz 2;refine pSq ?_;go_simp;exact hK undef _ (by simp [World.setCell,Array.getElem?_modify,hz]) (fun c o hne h=>row_else (row_else (row_else h hne _) hne _) hne _) (by simp [World.setCell]) (((hR.below.setCell (p:=⟨g,0,none⟩) hg (.bool r0.neg)).setCell (p:=⟨g,1,none⟩) hg (.string (encS r0.num))).setCell (p:=⟨g,2,none⟩) hg (.string (encS r0.den)))
    ·intro sv_ w bk18 bk19 hS hp1 hp2 hg1 hg2 hgg hN1 hN2 hb;have e10:sv_ 18=.pointer (some ⟨bk18,0,none⟩):=hp1;have e11:sv_ 19=.pointer (some ⟨bk19,0,none⟩):=hp2;simp only [over,ovL,Nat.reduceAdd,Nat.reduceLeDiff,Nat.reduceLT];have HG18_37:Hid (n0≤bk18):=hD (by rw [HN0.out];exact Nat.le_trans HB.out.size hg1);have HGb18_37:=hD (Nat.le_trans HBr.out.size hg1);have HM18_37_bk4:=hD (Nat.ne_of_lt (Nat.lt_of_lt_of_le (Array.getElem?_eq_some_iff.1 HX4_1.out).1 hg1));have HM18_37_bk5:=hD (Nat.ne_of_lt (Nat.lt_of_lt_of_le (Array.getElem?_eq_some_iff.1 HX5_2.out).1 hg1));have HM18_37_bk8:=hD (Nat.ne_of_lt (Nat.lt_of_lt_of_le (Array.getElem?_eq_some_iff.1 HX8_3.out).1 hg1));have HM18_37_bk9:=hD (Nat.ne_of_lt (Nat.lt_of_lt_of_le (Array.getElem?_eq_some_iff.1 HX9_5.out).1 hg1));have HM18_37_bk10:=hD (Nat.ne_of_lt (Nat.lt_of_lt_of_le (Array.getElem?_eq_some_iff.1 HX10_6.out).1 hg1))
     have HM18_37_bk11:=hD (Nat.ne_of_lt (Nat.lt_of_lt_of_le (Array.getElem?_eq_some_iff.1 HX11_20.out).1 hg1));have HM18_37_bk13:=hD (Nat.ne_of_lt (Nat.lt_of_lt_of_le (Array.getElem?_eq_some_iff.1 HX13_27.out).1 hg1));have HM18_37_bk15:=hD (Nat.ne_of_lt (Nat.lt_of_lt_of_le (Array.getElem?_eq_some_iff.1 HX15_34.out).1 hg1));have HX18_37:=hD hN1;have HG19_38:Hid (n0≤bk19):=hD (by rw [HN0.out];exact Nat.le_trans HB.out.size hg2);have HL19_38:=hD (Nat.lt_of_lt_of_le (Array.getElem?_eq_some_iff.1 HX15_34.out).1 hg2);have HGb19_38:=hD (Nat.le_trans HBr.out.size hg2);have HM19_38_bk9:=hD (Nat.ne_of_lt (Nat.lt_of_lt_of_le (Array.getElem?_eq_some_iff.1 HX9_5.out).1 hg2));have HX19_38:=hD hN2;have HQ18_37_19_38:=hD hgg;have HX4_1:=uH hb HX4_1;have HX5_2:=uH hb HX5_2;have HX8_3:=uH hb HX8_3;have HX9_5:=uH hb HX9_5;have HX10_6:=uH hb HX10_6;have HX11_20:=uH hb HX11_20;have HX13_27:=uH hb HX13_27
     have HX15_34:=uH hb HX15_34;have HB:=mH HB hb;have HBr:=mH HBr hb;obtain ⟨w25,hw⟩:∃w8,w8=w:=⟨_,rfl⟩;subst hw;rw [e10,e11];clear hS hb hp1 hp2 hg1 hg2 hgg hN1 hN2 e10 e11;go_wp2_with fail
     go_loopw [17,20] (fun u17 u20 wr=>∃(k:Nat) (bo:Rt) (tp:Rt) (bt:Bool),k≤m.length∧u17=.bool bt∧u20=.int .i64 (k:Int)∧Hid (Pcs m x y k bo tp bt)∧Hid (Below w4.heap.size w4 wr)∧Hid (wr.heap[bk4]? =some (.cells #[.int .i64 qa,.int .i64 qb,.int .i64 qc] 34 (0,0)))∧Hid (wr.heap[bk5]? =some (.cells #[.int .i64 ra,.int .i64 rb,.int .i64 rc] 34 (0,0)))∧Hid (wr.heap[bk8]? =some (.cells #[.string ⟨#[98,97,115,105,99]⟩,.int .i64 1,.int .i64 0,.slice (some ⟨gm,om,none⟩) m.length cm] 26 (0,0)))∧Hid (wr.heap[bk9]? =some (.cells #[.bool x.neg,.string (encS x.num),.string (encS x.den)] 29 (0,0)))∧Hid (wr.heap[bk10]? =some (.cells #[.bool y.neg,.string (encS y.num),.string (encS y.den)] 29 (0,0)))∧Hid (wr.heap[bk11]? =some (.cells #[.bool va.neg,.string (encS va.num),.string (encS va.den)] 29 (0,0)))∧Hid (wr.heap[bk13]? =some (.cells #[.bool vb.neg,.string (encS vb.num),.string (encS vb.den)] 29 (0,0)))∧Hid (wr.heap[bk15]? =some (.cells #[.bool mg.neg,.string (encS mg.num),.string (encS mg.den)] 29 (0,0)))∧Hid (wr.heap[bk18]? =some (.cells #[.bool bo.neg,.string (encS bo.num),.string (encS bo.den)] 29 (0,0)))∧Hid (wr.heap[bk19]? =some (.cells #[.bool tp.neg,.string (encS tp.num),.string (encS tp.den)] 29 (0,0)))∧Hid (Below wq.heap.size wq wr)) (fun _ u20 _=>m.length-(intOf u20).toNat)
     case atStart=>exact ⟨0,r0,r0,false,by omega,by first|rfl|go_num,by first|rfl|go_num,HPS,HBr,HX4_1,HX5_2,HX8_3,HX9_5,HX10_6,HX11_20,HX13_27,HX15_34,HX18_37,HX19_38,HB⟩
     case round =>
      obtain ⟨k,bo,tp,bt,hk,rfl,rfl,HPS,HBr,HX4_1,HX5_2,HX8_3,HX9_5,HX10_6,HX11_20,HX13_27,HX15_34,HX18_37,HX19_38,HB⟩:=hrel
      by_cases hlt:k<m.length
      ·have hlt' :(k:Int)<(m.length:Int):=by omega
       have HLT:=hD hlt;have hat:=HATM.out k hlt;have HPN:=hD (fun bo2 tp2 bt2=>Pcs.next (lo2:=bo2) (hi2:=tp2) (bt2:=bt2) HS.out HOX.out.1 HOY.out.1 HPS.out);have of_:=HS.out.frOk k;have zf:=HS.out.frSz k;have or_:=HS.out.rtOk k;have zr:=HS.out.rtSz k;obtain ⟨fk,kf⟩:∃z,frT m k=z:=⟨_,rfl⟩;obtain ⟨rk,kr⟩:∃z,rtT m k=z:=⟨_,rfl⟩;rw [kf] at hat HPN of_ zf;rw [kr] at hat HPN or_ zr;have HEK:=hD hat;have c1:=fun w=>rRatCmp_r (IsR.of of_ (zf.mono (show 50≤1000 by decide))) (IsR.of HOX.out.1 (fit_rz HOX.out.2.1)) (by decide) (by decide) w
       have c2:=fun w=>rRatCmp_r (IsR.of of_ (zf.mono (show 50≤1000 by decide))) (IsR.of HOY.out.1 (fit_rz HOY.out.2.1)) (by decide) (by decide) w
       have c3:=fun w=>rRatCmp_r (IsR.of or_ zr) (IsR.of HPS.out.lok HPS.out.lsz) (by decide) (by decide) w
       have c4:=fun w=>rRatCmp_r (IsR.of or_ zr) (IsR.of HPS.out.hok HPS.out.hsz) (by decide) (by decide) w
       obtain ⟨d1,g1⟩:∃z,cmpR fk x=z:=⟨_,rfl⟩;rw [g1] at c1 HPN;obtain ⟨d2,g2⟩:∃z,cmpR fk y=z:=⟨_,rfl⟩;rw [g2] at c2 HPN;obtain ⟨d3,g3⟩:∃z,cmpR rk bo=z:=⟨_,rfl⟩;rw [g3] at c3 HPN;obtain ⟨d4,g4⟩:∃z,cmpR rk tp=z:=⟨_,rfl⟩;rw [g4] at c4 HPN;obtain ⟨bo2,q1⟩:∃z,(if d3<0 then rk else bo)=z:=⟨_,rfl⟩;obtain ⟨tp2,q2⟩:∃z,(if 0<d4 then rk else tp)=z:=⟨_,rfl⟩;obtain ⟨bt2,q3⟩:∃z,(bt||(decide (0<d1)&&decide (d2<0)))=z:=⟨_,rfl⟩;have HPT:=hD (HPN.out bo2 tp2 bt2 q1 q2 q3);have HQ1:=hD q1;have HQ2:=hD q2;have HQ3:=hD q3;have HWI:Hid (IntKind.i64.wrap ((k:Int)+1)=((k+1:Nat):Int)):=hD (wrap_in (by have:=HS.out.le;omega) (by omega));clear hat HPN of_ zf or_ zr kf kr g1 g2 g3 g4 q1 q2 q3 hlt hk;have C14:Hid (∀w,Gv 24 #[rtV fk,rtV x] w (.int .i64 d1)):=hD c1;have C15:Hid (∀w,Gv 24 #[rtV fk,rtV y] w (.int .i64 d2)):=hD c2;have C16:Hid (∀w,Gv 24 #[rtV rk,rtV bo] w (.int .i64 d3)):=hD c3
       have C17:Hid (∀w,Gv 24 #[rtV rk,rtV tp] w (.int .i64 d4)):=hD c4;clear c1 c2 c3 c4;have k39:=k1_ (i:=3) (u:=.slice (some ⟨gm,om,none⟩) m.length cm) HX8_3 rfl;go_wp2_with fail;clear hlt' k39;refine wp_region_two (w:=wr) (by kernel_rfl) (Epieces_law_18_5 fk rk gm om cm m k bk8) 12 13 14 15 (.cells #[.bool false,.string ⟨#[]⟩,.string ⟨#[]⟩] 29 (0,0)) (.cells #[.bool fk.neg,.string (encS fk.num),.string (encS fk.den)] 29 (0,0)) (.cells #[.bool rk.neg,.string (encS rk.num),.string (encS rk.den)] 29 (0,0)) (fun t=>(decide (21≤t)&&decide (t<23))||(decide (104≤t)&&decide (t<116))) (by decide) (by decide) (by kernel_rfl) (by kernel_rfl) (by kernel_rfl) (by kernel_rfl) (by kernel_rfl) ?_ ?_ ?_ ?_
       ·intro i hi h1 h2 h3 h4 ov_ listed av_ w hR K hK;have ho:=hR.at_;have hi:i<16:=hi;have hii:i=0∨i=1∨i=2∨i=3∨i=4∨i=5∨i=6∨i=7∨i=8∨i=9∨i=10∨i=11:=by omega
        clear h1 h2 h3 h4;rcases hii with rfl|rfl|rfl|rfl|rfl|rfl|rfl|rfl|rfl|rfl|rfl|rfl<;>(simp at ho;subst ho)
        ·have b8:av_.tmps.getD 8 undef=.pointer (some ⟨bk8,0,none⟩):=hR.b 8;refine pSq ?_;go_simp;exact hK _ _ rfl rfl
        ·have e0:av_.tmps.getD 104 undef=.pointer (some ⟨bk8,3,none⟩):=hR.dep ⟨0,.data⟩ (by simp) rfl (by decide) (by decide) (by decide) (by decide);have cx0:=k1_ (i:=3) (u:=.slice (some ⟨gm,om,none⟩) m.length cm) (uH hR.below HX8_3) rfl;refine pSq ?_;go_simp;exact hK _ _ rfl rfl
        ·have b20:av_.tmps.getD 20 undef=.int .i64 (k:Int):=hR.b 20;refine pSq ?_;go_simp;exact hK _ _ rfl rfl
        ·have e1:av_.tmps.getD 105 undef=.slice (some ⟨gm,om,none⟩) m.length cm:=hR.dep ⟨1,.data⟩ (by simp) rfl (by decide) (by decide) (by decide) (by decide);have e2:av_.tmps.getD 106 undef=.int .i64 (k:Int):=hR.dep ⟨2,.data⟩ (by simp) rfl (by decide) (by decide) (by decide) (by decide);have hk3:(k:Int)<(m.length:Int):=by have:=HLT.out;omega
         refine pSq ?_;go_simp;exact hK _ _ rfl rfl
        ·have e3:av_.tmps.getD 107 undef=.pointer (some ⟨gm,om+k*6,none⟩):=hR.dep ⟨3,.data⟩ (by simp) rfl (by decide) (by decide) (by decide) (by decide);refine pSq ?_;go_simp;exact hK _ _ rfl rfl
        ·have e4:av_.tmps.getD 108 undef=.pointer (some ⟨gm,om+k*6,none⟩):=hR.dep ⟨4,.data⟩ (by simp) rfl (by decide) (by decide) (by decide) (by decide);obtain ⟨cx0,cx1,cx2,cx3,cx4,cx5⟩:=HEK.out _ (HBr.out.trans (hR.below.mono HBr.out.size));refine pSq ?_;go_simp;exact hK _ _ rfl rfl
        ·have b8:av_.tmps.getD 8 undef=.pointer (some ⟨bk8,0,none⟩):=hR.b 8;refine pSq ?_;go_simp;exact hK _ _ rfl rfl
        ·have e6:av_.tmps.getD 110 undef=.pointer (some ⟨bk8,3,none⟩):=hR.dep ⟨6,.data⟩ (by simp) rfl (by decide) (by decide) (by decide) (by decide);have cx0:=k1_ (i:=3) (u:=.slice (some ⟨gm,om,none⟩) m.length cm) (uH hR.below HX8_3) rfl;refine pSq ?_;go_simp;exact hK _ _ rfl rfl
        ·have b20:av_.tmps.getD 20 undef=.int .i64 (k:Int):=hR.b 20;refine pSq ?_;go_simp;exact hK _ _ rfl rfl
        ·have e7:av_.tmps.getD 111 undef=.slice (some ⟨gm,om,none⟩) m.length cm:=hR.dep ⟨7,.data⟩ (by simp) rfl (by decide) (by decide) (by decide) (by decide);have e8:av_.tmps.getD 112 undef=.int .i64 (k:Int):=hR.dep ⟨8,.data⟩ (by simp) rfl (by decide) (by decide) (by decide) (by decide);have hk3:(k:Int)<(m.length:Int):=by have:=HLT.out;omega
         refine pSq ?_;go_simp;exact hK _ _ rfl rfl
        ·have e9:av_.tmps.getD 113 undef=.pointer (some ⟨gm,om+k*6,none⟩):=hR.dep ⟨9,.data⟩ (by simp) rfl (by decide) (by decide) (by decide) (by decide);refine pSq ?_;go_simp;exact hK _ _ rfl rfl
        ·have e10:av_.tmps.getD 114 undef=.pointer (some ⟨gm,om+k*6+3,none⟩):=hR.dep ⟨10,.data⟩ (by simp) rfl (by decide) (by decide) (by decide) (by decide);obtain ⟨cx0,cx1,cx2,cx3,cx4,cx5⟩:=HEK.out _ (HBr.out.trans (hR.below.mono HBr.out.size));refine pSq ?_;go_simp;exact hK _ _ rfl rfl
       ·intro i hii ov_ av_ w ho K hK;rcases hii with rfl|rfl<;>(simp at ho;subst ho;refine pSq ?_;go_simp;exact hK _ _ _ rfl rfl (heap_alloc_new _ _) (by simp [World.size_alloc]) (rB.alloc (Nat.le_refl _) _))
       ·intro i j N hij ov_ listed av_ w g hR hv hg hz K hK;have ho:=hR.at_;rcases hij with ⟨rfl,rfl,rfl⟩|⟨rfl,rfl,rfl⟩
        ·simp at ho;subst ho;have e12:av_.tmps.getD 21 undef=.pointer (some ⟨g,0,none⟩):=hv;have e5:av_.tmps.getD 109 undef=.agg #[.bool fk.neg,.string (encS fk.num),.string (encS fk.den)]:=hR.dep ⟨5,.data⟩ (by simp) rfl (by decide) (by decide) (by decide) (by decide);have cz0:=k1_ (i:=0) (u:=(.bool false)) (hD hz) rfl;have cz1:=k1_ (i:=1) (u:=(.string ⟨#[]⟩)) (hD hz) rfl;have cz2:=k1_ (i:=2) (u:=(.string ⟨#[]⟩)) (hD hz) rfl;have fz0:=frz0 hz 0;have fz1:=frz0 hz 1;have fz2:=frz0 hz 2;refine pSq ?_;go_simp;exact hK undef _ (by simp [World.setCell,Array.getElem?_modify,hz]) (fun c o hne h=>row_else (row_else (row_else h hne _) hne _) hne _) (by simp [World.setCell]) (((hR.below.setCell (p:=⟨g,0,none⟩) hg (.bool fk.neg)).setCell (p:=⟨g,1,none⟩) hg (.string (encS fk.num))).setCell (p:=⟨g,2,none⟩) hg (.string (encS fk.den)))
        ·simp at ho;subst ho;have e13:av_.tmps.getD 22 undef=.pointer (some ⟨g,0,none⟩):=hv;have e11:av_.tmps.getD 115 undef=.agg #[.bool rk.neg,.string (encS rk.num),.string (encS rk.den)]:=hR.dep ⟨11,.data⟩ (by simp) rfl (by decide) (by decide) (by decide) (by decide);have cz0:=k1_ (i:=0) (u:=(.bool false)) (hD hz) rfl;have cz1:=k1_ (i:=1) (u:=(.string ⟨#[]⟩)) (hD hz) rfl;have cz2:=k1_ (i:=2) (u:=(.string ⟨#[]⟩)) (hD hz) rfl;have fz0:=frz0 hz 0;have fz1:=frz0 hz 1;have fz2:=frz0 hz 2;refine pSq ?_;go_simp;exact hK undef _ (by simp [World.setCell,Array.getElem?_modify,hz]) (fun c o hne h=>row_else (row_else (row_else h hne _) hne _) hne _) (by simp [World.setCell]) (((hR.below.setCell (p:=⟨g,0,none⟩) hg (.bool rk.neg)).setCell (p:=⟨g,1,none⟩) hg (.string (encS rk.num))).setCell (p:=⟨g,2,none⟩) hg (.string (encS rk.den)))
       ·intro sv_ w bk21 bk22 hS hp1 hp2 hg1 hg2 hgg hN1 hN2 hb;have e12:sv_ 21=.pointer (some ⟨bk21,0,none⟩):=hp1;have e13:sv_ 22=.pointer (some ⟨bk22,0,none⟩):=hp2;simp only [over,ovL,Nat.reduceAdd,Nat.reduceLeDiff,Nat.reduceLT];have HG21_40:Hid (n0≤bk21):=hD (by rw [HN0.out];exact Nat.le_trans HB.out.size hg1);have HGb21_40:=hD (Nat.le_trans HBr.out.size hg1);have HM21_40_bk4:=hD (Nat.ne_of_lt (Nat.lt_of_lt_of_le (Array.getElem?_eq_some_iff.1 HX4_1.out).1 hg1));have HM21_40_bk5:=hD (Nat.ne_of_lt (Nat.lt_of_lt_of_le (Array.getElem?_eq_some_iff.1 HX5_2.out).1 hg1));have HM21_40_bk8:=hD (Nat.ne_of_lt (Nat.lt_of_lt_of_le (Array.getElem?_eq_some_iff.1 HX8_3.out).1 hg1));have HM21_40_bk9:=hD (Nat.ne_of_lt (Nat.lt_of_lt_of_le (Array.getElem?_eq_some_iff.1 HX9_5.out).1 hg1));have HM21_40_bk10:=hD (Nat.ne_of_lt (Nat.lt_of_lt_of_le (Array.getElem?_eq_some_iff.1 HX10_6.out).1 hg1))
        have HM21_40_bk11:=hD (Nat.ne_of_lt (Nat.lt_of_lt_of_le (Array.getElem?_eq_some_iff.1 HX11_20.out).1 hg1));have HM21_40_bk13:=hD (Nat.ne_of_lt (Nat.lt_of_lt_of_le (Array.getElem?_eq_some_iff.1 HX13_27.out).1 hg1));have HM21_40_bk15:=hD (Nat.ne_of_lt (Nat.lt_of_lt_of_le (Array.getElem?_eq_some_iff.1 HX15_34.out).1 hg1));have HM21_40_bk18:=hD (Nat.ne_of_lt (Nat.lt_of_lt_of_le (Array.getElem?_eq_some_iff.1 HX18_37.out).1 hg1));have HM21_40_bk19:=hD (Nat.ne_of_lt (Nat.lt_of_lt_of_le (Array.getElem?_eq_some_iff.1 HX19_38.out).1 hg1));have HX21_40:=hD hN1;have HG22_41:Hid (n0≤bk22):=hD (by rw [HN0.out];exact Nat.le_trans HB.out.size hg2);have HL22_41:=hD (Nat.lt_of_lt_of_le (Array.getElem?_eq_some_iff.1 HX19_38.out).1 hg2);have HGb22_41:=hD (Nat.le_trans HBr.out.size hg2);have HM22_41_bk9:=hD (Nat.ne_of_lt (Nat.lt_of_lt_of_le (Array.getElem?_eq_some_iff.1 HX9_5.out).1 hg2))
        have HM22_41_bk18:=hD (Nat.ne_of_lt (Nat.lt_of_lt_of_le (Array.getElem?_eq_some_iff.1 HX18_37.out).1 hg2));have HX22_41:=hD hN2;have HQ21_40_22_41:=hD hgg;have HX4_1:=uH hb HX4_1;have HX5_2:=uH hb HX5_2;have HX8_3:=uH hb HX8_3;have HX9_5:=uH hb HX9_5;have HX10_6:=uH hb HX10_6;have HX11_20:=uH hb HX11_20;have HX13_27:=uH hb HX13_27;have HX15_34:=uH hb HX15_34;have HX18_37:=uH hb HX18_37;have HX19_38:=uH hb HX19_38;have HB:=mH HB hb;have HBr:=mH HBr hb;obtain ⟨w26,hw⟩:∃w8,w8=w:=⟨_,rfl⟩;subst hw;rw [e12,e13];clear hS hb hp1 hp2 hg1 hg2 hgg hN1 hN2 e12 e13
        go_upto_region 19 with fail
        go_cut [17] from 97 to 138 (fun s17 wx=>s17=.bool bt2∧Hid (wx.heap[bk4]? =some (.cells #[.int .i64 qa,.int .i64 qb,.int .i64 qc] 34 (0,0)))∧Hid (wx.heap[bk5]? =some (.cells #[.int .i64 ra,.int .i64 rb,.int .i64 rc] 34 (0,0)))∧Hid (wx.heap[bk8]? =some (.cells #[.string ⟨#[98,97,115,105,99]⟩,.int .i64 1,.int .i64 0,.slice (some ⟨gm,om,none⟩) m.length cm] 26 (0,0)))∧Hid (wx.heap[bk9]? =some (.cells #[.bool x.neg,.string (encS x.num),.string (encS x.den)] 29 (0,0)))∧Hid (wx.heap[bk10]? =some (.cells #[.bool y.neg,.string (encS y.num),.string (encS y.den)] 29 (0,0)))∧Hid (wx.heap[bk11]? =some (.cells #[.bool va.neg,.string (encS va.num),.string (encS va.den)] 29 (0,0)))∧Hid (wx.heap[bk13]? =some (.cells #[.bool vb.neg,.string (encS vb.num),.string (encS vb.den)] 29 (0,0)))∧Hid (wx.heap[bk15]? =some (.cells #[.bool mg.neg,.string (encS mg.num),.string (encS mg.den)] 29 (0,0)))∧Hid (wx.heap[bk18]? =some (.cells #[.bool bo.neg,.string (encS bo.num),.string (encS bo.den)] 29 (0,0)))∧Hid (wx.heap[bk19]? =some (.cells #[.bool tp.neg,.string (encS tp.num),.string (encS tp.den)] 29 (0,0)))∧Hid (wx.heap[bk21]? =some (.cells #[.bool fk.neg,.string (encS fk.num),.string (encS fk.den)] 29 (0,0)))∧Hid (wx.heap[bk22]? =some (.cells #[.bool rk.neg,.string (encS rk.num),.string (encS rk.den)] 29 (0,0)))∧Hid (Below w4.heap.size w4 wx)∧Hid (Below wq.heap.size wq wx))
        case first =>
         cases bt
         case false =>
          by_cases h1:0<d1
          ·by_cases h2:d2<0
           ·have e3:true=bt2:=by have h:=HQ3.out;rwa [decide_eq_true h1,decide_eq_true h2] at h
            subst e3;have hd1:decide (0<d1)=true:=decide_eq_true h1;have hd2:decide (d2<0)=true:=decide_eq_true h2;clear h1 h2;obtain ⟨k42a,k42b,k42c⟩:=c3 HX21_40;obtain ⟨k43a,k43b,k43c⟩:=c3 HX9_5;go_wp2_with fail;clear k42a k42b k42c k43a k43b k43c;refine (C14.out _).mono ?_;rintro e w27 ⟨rfl,hb⟩;have HX4_1:=uH hb HX4_1;have HX5_2:=uH hb HX5_2;have HX8_3:=uH hb HX8_3;have HX9_5:=uH hb HX9_5;have HX10_6:=uH hb HX10_6;have HX11_20:=uH hb HX11_20;have HX13_27:=uH hb HX13_27;have HX15_34:=uH hb HX15_34;have HX18_37:=uH hb HX18_37;have HX19_38:=uH hb HX19_38;have HX21_40:=uH hb HX21_40;have HX22_41:=uH hb HX22_41;have HBr:=mH HBr hb;have HB:=mH HB hb;clear hb;obtain ⟨k44a,k44b,k44c⟩:=c3 HX21_40;obtain ⟨k45a,k45b,k45c⟩:=c3 HX10_6;go_wp2_with fail;clear k44a k44b k44c k45a k45b k45c;refine (C15.out _).mono ?_;rintro e w28 ⟨rfl,hb⟩;have HX4_1:=uH hb HX4_1;have HX5_2:=uH hb HX5_2
            have HX8_3:=uH hb HX8_3;have HX9_5:=uH hb HX9_5;have HX10_6:=uH hb HX10_6;have HX11_20:=uH hb HX11_20;have HX13_27:=uH hb HX13_27;have HX15_34:=uH hb HX15_34;have HX18_37:=uH hb HX18_37;have HX19_38:=uH hb HX19_38;have HX21_40:=uH hb HX21_40;have HX22_41:=uH hb HX22_41;have HBr:=mH HBr hb;have HB:=mH HB hb;clear hb;go_wp2_with fail;clear hd1 hd2
            go_meet
            exact ⟨rfl,HX4_1,HX5_2,HX8_3,HX9_5,HX10_6,HX11_20,HX13_27,HX15_34,HX18_37,HX19_38,HX21_40,HX22_41,HBr,HB⟩
           ·have e3:false=bt2:=by have h:=HQ3.out;rwa [decide_eq_true h1,decide_eq_false h2] at h
            subst e3;have hd1:decide (0<d1)=true:=decide_eq_true h1;have hd2:decide (d2<0)=false:=decide_eq_false h2;clear h1 h2;obtain ⟨k46a,k46b,k46c⟩:=c3 HX21_40;obtain ⟨k47a,k47b,k47c⟩:=c3 HX9_5;go_wp2_with fail;clear k46a k46b k46c k47a k47b k47c;refine (C14.out _).mono ?_;rintro e w29 ⟨rfl,hb⟩;have HX4_1:=uH hb HX4_1;have HX5_2:=uH hb HX5_2;have HX8_3:=uH hb HX8_3;have HX9_5:=uH hb HX9_5;have HX10_6:=uH hb HX10_6;have HX11_20:=uH hb HX11_20;have HX13_27:=uH hb HX13_27;have HX15_34:=uH hb HX15_34;have HX18_37:=uH hb HX18_37;have HX19_38:=uH hb HX19_38;have HX21_40:=uH hb HX21_40;have HX22_41:=uH hb HX22_41;have HBr:=mH HBr hb;have HB:=mH HB hb;clear hb;obtain ⟨k48a,k48b,k48c⟩:=c3 HX21_40;obtain ⟨k49a,k49b,k49c⟩:=c3 HX10_6;go_wp2_with fail;clear k48a k48b k48c k49a k49b k49c;refine (C15.out _).mono ?_;rintro e w30 ⟨rfl,hb⟩;have HX4_1:=uH hb HX4_1;have HX5_2:=uH hb HX5_2
            have HX8_3:=uH hb HX8_3;have HX9_5:=uH hb HX9_5;have HX10_6:=uH hb HX10_6;have HX11_20:=uH hb HX11_20;have HX13_27:=uH hb HX13_27;have HX15_34:=uH hb HX15_34;have HX18_37:=uH hb HX18_37;have HX19_38:=uH hb HX19_38;have HX21_40:=uH hb HX21_40;have HX22_41:=uH hb HX22_41;have HBr:=mH HBr hb;have HB:=mH HB hb;clear hb;go_wp2_with fail;clear hd1 hd2
            go_meet
            exact ⟨rfl,HX4_1,HX5_2,HX8_3,HX9_5,HX10_6,HX11_20,HX13_27,HX15_34,HX18_37,HX19_38,HX21_40,HX22_41,HBr,HB⟩
          ·have e3:false=bt2:=by have h:=HQ3.out;rwa [decide_eq_false h1] at h
           subst e3;have hd1:decide (0<d1)=false:=decide_eq_false h1;clear h1;obtain ⟨k50a,k50b,k50c⟩:=c3 HX21_40;obtain ⟨k51a,k51b,k51c⟩:=c3 HX9_5;go_wp2_with fail;clear k50a k50b k50c k51a k51b k51c;refine (C14.out _).mono ?_;rintro e w31 ⟨rfl,hb⟩;have HX4_1:=uH hb HX4_1;have HX5_2:=uH hb HX5_2;have HX8_3:=uH hb HX8_3;have HX9_5:=uH hb HX9_5;have HX10_6:=uH hb HX10_6;have HX11_20:=uH hb HX11_20;have HX13_27:=uH hb HX13_27;have HX15_34:=uH hb HX15_34;have HX18_37:=uH hb HX18_37;have HX19_38:=uH hb HX19_38;have HX21_40:=uH hb HX21_40;have HX22_41:=uH hb HX22_41;have HBr:=mH HBr hb;have HB:=mH HB hb;clear hb;go_wp2_with fail;clear hd1
           go_meet
           exact ⟨rfl,HX4_1,HX5_2,HX8_3,HX9_5,HX10_6,HX11_20,HX13_27,HX15_34,HX18_37,HX19_38,HX21_40,HX22_41,HBr,HB⟩
         case true =>
          have e3:true=bt2:=HQ3.out;subst e3;go_wp2_with fail
          go_meet
          exact ⟨rfl,HX4_1,HX5_2,HX8_3,HX9_5,HX10_6,HX11_20,HX13_27,HX15_34,HX18_37,HX19_38,HX21_40,HX22_41,HBr,HB⟩
        case rest =>
         obtain ⟨rfl,HX4_1,HX5_2,HX8_3,HX9_5,HX10_6,HX11_20,HX13_27,HX15_34,HX18_37,HX19_38,HX21_40,HX22_41,HBr,HB⟩:=hcut;obtain ⟨k52a,k52b,k52c⟩:=c3 HX22_41;obtain ⟨k53a,k53b,k53c⟩:=c3 HX18_37;go_wp2_with fail;clear k52a k52b k52c k53a k53b k53c;refine (C16.out _).mono ?_;rintro e w32 ⟨rfl,hb⟩;have HX4_1:=uH hb HX4_1;have HX5_2:=uH hb HX5_2;have HX8_3:=uH hb HX8_3;have HX9_5:=uH hb HX9_5;have HX10_6:=uH hb HX10_6;have HX11_20:=uH hb HX11_20;have HX13_27:=uH hb HX13_27;have HX15_34:=uH hb HX15_34;have HX18_37:=uH hb HX18_37;have HX19_38:=uH hb HX19_38;have HX21_40:=uH hb HX21_40;have HX22_41:=uH hb HX22_41;have HBr:=mH HBr hb;have HB:=mH HB hb;clear hb
         go_upto_if 132 with fail
         go_cut [] from 97 to 138 (fun wx=>Hid (wx.heap[bk4]? =some (.cells #[.int .i64 qa,.int .i64 qb,.int .i64 qc] 34 (0,0)))∧Hid (wx.heap[bk5]? =some (.cells #[.int .i64 ra,.int .i64 rb,.int .i64 rc] 34 (0,0)))∧Hid (wx.heap[bk8]? =some (.cells #[.string ⟨#[98,97,115,105,99]⟩,.int .i64 1,.int .i64 0,.slice (some ⟨gm,om,none⟩) m.length cm] 26 (0,0)))∧Hid (wx.heap[bk9]? =some (.cells #[.bool x.neg,.string (encS x.num),.string (encS x.den)] 29 (0,0)))∧Hid (wx.heap[bk10]? =some (.cells #[.bool y.neg,.string (encS y.num),.string (encS y.den)] 29 (0,0)))∧Hid (wx.heap[bk11]? =some (.cells #[.bool va.neg,.string (encS va.num),.string (encS va.den)] 29 (0,0)))∧Hid (wx.heap[bk13]? =some (.cells #[.bool vb.neg,.string (encS vb.num),.string (encS vb.den)] 29 (0,0)))∧Hid (wx.heap[bk15]? =some (.cells #[.bool mg.neg,.string (encS mg.num),.string (encS mg.den)] 29 (0,0)))∧Hid (wx.heap[bk18]? =some (.cells #[.bool bo2.neg,.string (encS bo2.num),.string (encS bo2.den)] 29 (0,0)))∧Hid (wx.heap[bk19]? =some (.cells #[.bool tp.neg,.string (encS tp.num),.string (encS tp.den)] 29 (0,0)))∧Hid (wx.heap[bk21]? =some (.cells #[.bool fk.neg,.string (encS fk.num),.string (encS fk.den)] 29 (0,0)))∧Hid (wx.heap[bk22]? =some (.cells #[.bool rk.neg,.string (encS rk.num),.string (encS rk.den)] 29 (0,0)))∧Hid (Below w4.heap.size w4 wx)∧Hid (Below wq.heap.size wq wx))
         case first =>
          by_cases h3:d3<0
          ·have e4:rk=bo2:=by have h:=HQ1.out;rwa [if_pos h3] at h
           subst e4;have hd3:decide (d3<0)=true:=decide_eq_true h3;obtain ⟨k54a,k54b,k54c⟩:=c3 HX22_41;obtain ⟨W33,hW33,HX18_37,hs,f55a,f55b,f55c,k55a,k55b,k55c⟩:=put3_0_3 HX18_37 (.bool rk.neg) (.string (encS rk.num)) (.string (encS rk.den));have HB:=hs.bel (gN HN0 HG18_37) HB;have HX4_1:=hs.keep _ _ (fun hc=>HM18_37_bk4.out hc.symm) HX4_1;have HX5_2:=hs.keep _ _ (fun hc=>HM18_37_bk5.out hc.symm) HX5_2;have HX8_3:=hs.keep _ _ (fun hc=>HM18_37_bk8.out hc.symm) HX8_3;have HX9_5:=hs.keep _ _ (fun hc=>HM18_37_bk9.out hc.symm) HX9_5;have HX10_6:=hs.keep _ _ (fun hc=>HM18_37_bk10.out hc.symm) HX10_6;have HX11_20:=hs.keep _ _ (fun hc=>HM18_37_bk11.out hc.symm) HX11_20;have HX13_27:=hs.keep _ _ (fun hc=>HM18_37_bk13.out hc.symm) HX13_27;have HX15_34:=hs.keep _ _ (fun hc=>HM18_37_bk15.out hc.symm) HX15_34;have HX19_38:=hs.keep _ _ HQ18_37_19_38.out HX19_38
           have HX21_40:=hs.keep _ _ HM21_40_bk18.out HX21_40;have HX22_41:=hs.keep _ _ HM22_41_bk18.out HX22_41;have HBr:=hs.bel HGb18_37.out HBr;clear hs;go_wp2_with fail;clear hd3 h3 k54a k54b k54c f55a f55b f55c k55a k55b k55c hW33
           go_meet
           exact ⟨HX4_1,HX5_2,HX8_3,HX9_5,HX10_6,HX11_20,HX13_27,HX15_34,HX18_37,HX19_38,HX21_40,HX22_41,HBr,HB⟩
          ·have e4:bo=bo2:=by have h:=HQ1.out;rwa [if_neg h3] at h
           subst e4;have hd3:decide (d3<0)=false:=decide_eq_false h3;go_wp2_with fail;clear hd3 h3
           go_meet
           exact ⟨HX4_1,HX5_2,HX8_3,HX9_5,HX10_6,HX11_20,HX13_27,HX15_34,HX18_37,HX19_38,HX21_40,HX22_41,HBr,HB⟩
         case rest =>
          obtain ⟨HX4_1,HX5_2,HX8_3,HX9_5,HX10_6,HX11_20,HX13_27,HX15_34,HX18_37,HX19_38,HX21_40,HX22_41,HBr,HB⟩:=hcut;obtain ⟨k56a,k56b,k56c⟩:=c3 HX22_41;obtain ⟨k57a,k57b,k57c⟩:=c3 HX19_38;go_wp2_with fail;clear k56a k56b k56c k57a k57b k57c;refine (C17.out _).mono ?_;rintro e w34 ⟨rfl,hb⟩;have HX4_1:=uH hb HX4_1;have HX5_2:=uH hb HX5_2;have HX8_3:=uH hb HX8_3;have HX9_5:=uH hb HX9_5;have HX10_6:=uH hb HX10_6;have HX11_20:=uH hb HX11_20;have HX13_27:=uH hb HX13_27;have HX15_34:=uH hb HX15_34;have HX18_37:=uH hb HX18_37;have HX19_38:=uH hb HX19_38;have HX21_40:=uH hb HX21_40;have HX22_41:=uH hb HX22_41;have HBr:=mH HBr hb;have HB:=mH HB hb;clear hb
          by_cases h4:0<d4
          ·have e5:rk=tp2:=by have h:=HQ2.out;rwa [if_pos h4] at h
           have hd4:decide (0<d4)=true:=decide_eq_true h4;clear h4;subst e5;obtain ⟨k58a,k58b,k58c⟩:=c3 HX22_41;obtain ⟨W35,hW35,HX19_38,hs,f59a,f59b,f59c,k59a,k59b,k59c⟩:=put3_0_3 HX19_38 (.bool rk.neg) (.string (encS rk.num)) (.string (encS rk.den));have HB:=hs.bel (gN HN0 HG19_38) HB;have HX4_1:=hs.keep _ _ (by have h0:=HL5_2.out;have h1:=HL8_3.out;have h2:=HL10_6.out;have h3:=HL11_20.out;have h4:=HL13_27.out;have h5:=HL15_34.out;have h6:=HL19_38.out;omega) HX4_1;have HX5_2:=hs.keep _ _ (by have h1:=HL8_3.out;have h2:=HL10_6.out;have h3:=HL11_20.out;have h4:=HL13_27.out;have h5:=HL15_34.out;have h6:=HL19_38.out;omega) HX5_2;have HX8_3:=hs.keep _ _ (en5 HL10_6 HL11_20 HL13_27 HL15_34 HL19_38) HX8_3;have HX9_5:=hs.keep _ _ (fun hc=>HM19_38_bk9.out hc.symm) HX9_5;have HX10_6:=hs.keep _ _ (en4 HL11_20 HL13_27 HL15_34 HL19_38) HX10_6
           have HX11_20:=hs.keep _ _ (en3 HL13_27 HL15_34 HL19_38) HX11_20;have HX13_27:=hs.keep _ _ (en2 HL15_34 HL19_38) HX13_27;have HX15_34:=hs.keep _ _ (en1 HL19_38) HX15_34;have HX18_37:=hs.keep _ _ (fun hc=>HQ18_37_19_38.out hc.symm) HX18_37;have HX21_40:=hs.keep _ _ HM21_40_bk19.out HX21_40;have HX22_41:=hs.keep _ _ (ne1 HL22_41) HX22_41;have HBr:=hs.bel HGb19_38.out HBr;clear hs;have hwi:=HWI.out;go_wp2_with fail;clear hd4 k58a k58b k58c f59a f59b f59c k59a k59b k59c hW35 hwi
           go_roundw
           case rel=>exact ⟨k+1,bo2,rk,bt2,by have:=HLT.out;omega,by first|rfl|go_num,by first|rfl|go_num,HPT,HBr,HX4_1,HX5_2,HX8_3,HX9_5,HX10_6,HX11_20,HX13_27,HX15_34,HX18_37,HX19_38,HB⟩
           case measure=>have:=HLT.out;simp [intOf];omega
          ·have e5:tp=tp2:=by have h:=HQ2.out;rwa [if_neg h4] at h
           have hd4:decide (0<d4)=false:=decide_eq_false h4;clear h4;subst e5;have hwi:=HWI.out;go_wp2_with fail;clear hd4 hwi
           go_roundw
           case rel=>exact ⟨k+1,bo2,tp,bt2,by have:=HLT.out;omega,by first|rfl|go_num,by first|rfl|go_num,HPT,HBr,HX4_1,HX5_2,HX8_3,HX9_5,HX10_6,HX11_20,HX13_27,HX15_34,HX18_37,HX19_38,HB⟩
           case measure=>have:=HLT.out;simp [intOf];omega
      ·have hge:¬(k:Int)<(m.length:Int):=by omega
       have HPK:Hid (Pcs m x y m.length bo tp bt):=hD (by have h:=HPS.out;rwa [show k=m.length by omega] at h);obtain ⟨h1,h2,h3⟩:=HPE.out bo tp bt HSX.out HPK.out;have cl:=fun w=>rRatMul_r (IsR.of HPK.out.lok (HPK.out.lsz.mono (show 50≤1000 by decide))) (IsR.of HDZ.out.1 (HDZ.out.2.1.mono (show 101≤1000 by decide))) (by decide) (by decide) w
       have ch:=fun w=>rRatMul_r (IsR.of HPK.out.hok (HPK.out.hsz.mono (show 50≤1000 by decide))) (IsR.of HDZ.out.1 (HDZ.out.2.1.mono (show 101≤1000 by decide))) (by decide) (by decide) w
       have ol:=mulR_ok HPK.out.lok HDZ.out.1;have oh:=mulR_ok HPK.out.hok HDZ.out.1;have zl:=mulR_sz HPK.out.lsz HDZ.out.2.1;have zh:=mulR_sz HPK.out.hsz HDZ.out.2.1;have cc1:=fun w=>rRatCmp_r (IsR.of HDZ.out.2.2.1 (HDZ.out.2.2.2.mono (show 101≤1000 by decide))) (IsR.of ol (zl.mono (by decide))) (by decide) (by decide) w
       have cc2:=fun w=>rRatCmp_r (IsR.of HDZ.out.2.2.1 (HDZ.out.2.2.2.mono (show 101≤1000 by decide))) (IsR.of oh (zh.mono (by decide))) (by decide) (by decide) w
       obtain ⟨bdd,g1⟩:∃z,mulR bo d=z:=⟨_,rfl⟩;rw [g1] at cl cc1 h2;obtain ⟨tdd,g2⟩:∃z,mulR tp d=z:=⟨_,rfl⟩;rw [g2] at ch cc2 h3;obtain ⟨ca,g3⟩:∃z,cmpR gr bdd=z:=⟨_,rfl⟩;rw [g3] at cc1 h2;obtain ⟨cb,g4⟩:∃z,cmpR gr tdd=z:=⟨_,rfl⟩;rw [g4] at cc2 h3;have HQA:Hid (decide (0≤ca)=true):=hD (decide_eq_true h2);have HQB:Hid (decide (cb≤0)=true):=hD (decide_eq_true h3);have HQC:=hD h1;clear h1 h2 h3 ol oh zl zh g1 g2 g3 g4;have C14:Hid (∀w,Gv 28 #[rtV bo,rtV d] w (.agg #[.bool bdd.neg,.string (encS bdd.num),.string (encS bdd.den)])):=hD cl;have C15:Hid (∀w,Gv 28 #[rtV tp,rtV d] w (.agg #[.bool tdd.neg,.string (encS tdd.num),.string (encS tdd.den)])):=hD ch;have C16:Hid (∀w,Gv 24 #[rtV gr,rtV bdd] w (.int .i64 ca)):=hD cc1;have C17:Hid (∀w,Gv 24 #[rtV gr,rtV tdd] w (.int .i64 cb)):=hD cc2;clear cl ch cc1 cc2;have k60:=k1_ (i:=3) (u:=.slice (some ⟨gm,om,none⟩) m.length cm) HX8_3 rfl
       obtain ⟨k61a,k61b,k61c⟩:=c3 HX10_6;obtain ⟨k62a,k62b,k62c⟩:=c3 HX9_5;go_wp2_with fail;clear hge k60 k61a k61b k61c k62a k62b k62c;refine (C5.out _).mono ?_;rintro e w36 ⟨rfl,hb⟩;have HX4_1:=uH hb HX4_1;have HX5_2:=uH hb HX5_2;have HX8_3:=uH hb HX8_3;have HX9_5:=uH hb HX9_5;have HX10_6:=uH hb HX10_6;have HX11_20:=uH hb HX11_20;have HX13_27:=uH hb HX13_27;have HX15_34:=uH hb HX15_34;have HX18_37:=uH hb HX18_37;have HX19_38:=uH hb HX19_38;have HBr:=mH HBr hb;have HB:=mH HB hb;clear hb;obtain ⟨W37,bk23,hW37,hbk23,HX23_63,HB,HG23_63,hup⟩:=boxZ HB HN0;obtain ⟨HBr,HGb23_63⟩:=allB hW37 hbk23 HBr;have HL23_63:=(hup _ _ HX19_38).2;have HM23_63_bk9:=hD (Nat.ne_of_lt (hup _ _ HX9_5).2.out);have HM23_63_bk18:=hD (Nat.ne_of_lt (hup _ _ HX18_37).2.out);have HX4_1:=(hup _ _ HX4_1).1;have HX5_2:=(hup _ _ HX5_2).1;have HX8_3:=(hup _ _ HX8_3).1;have HX9_5:=(hup _ _ HX9_5).1
       have HX10_6:=(hup _ _ HX10_6).1;have HX11_20:=(hup _ _ HX11_20).1;have HX13_27:=(hup _ _ HX13_27).1;have HX15_34:=(hup _ _ HX15_34).1;have HX18_37:=(hup _ _ HX18_37).1;have HX19_38:=(hup _ _ HX19_38).1;clear hup;obtain ⟨W38,hW38,HX23_63,hs,f64a,f64b,f64c,k64a,k64b,k64c⟩:=put3_0_3 HX23_63 (.bool d.neg) (.string (encS d.num)) (.string (encS d.den));have HB:=hs.bel (gN HN0 HG23_63) HB;have HX4_1:=hs.keep _ _ (by have h0:=HL5_2.out;have h1:=HL8_3.out;have h2:=HL10_6.out;have h3:=HL11_20.out;have h4:=HL13_27.out;have h5:=HL15_34.out;have h6:=HL19_38.out;have h7:=HL23_63.out;omega) HX4_1;have HX5_2:=hs.keep _ _ (by have h1:=HL8_3.out;have h2:=HL10_6.out;have h3:=HL11_20.out;have h4:=HL13_27.out;have h5:=HL15_34.out;have h6:=HL19_38.out;have h7:=HL23_63.out;omega) HX5_2
       have HX8_3:=hs.keep _ _ (by have h2:=HL10_6.out;have h3:=HL11_20.out;have h4:=HL13_27.out;have h5:=HL15_34.out;have h6:=HL19_38.out;have h7:=HL23_63.out;omega) HX8_3;have HX9_5:=hs.keep _ _ (fun hc=>HM23_63_bk9.out hc.symm) HX9_5;have HX10_6:=hs.keep _ _ (en5 HL11_20 HL13_27 HL15_34 HL19_38 HL23_63) HX10_6;have HX11_20:=hs.keep _ _ (en4 HL13_27 HL15_34 HL19_38 HL23_63) HX11_20;have HX13_27:=hs.keep _ _ (en3 HL15_34 HL19_38 HL23_63) HX13_27;have HX15_34:=hs.keep _ _ (en2 HL19_38 HL23_63) HX15_34;have HX18_37:=hs.keep _ _ (fun hc=>HM23_63_bk18.out hc.symm) HX18_37;have HX19_38:=hs.keep _ _ (en1 HL23_63) HX19_38;have HBr:=hs.bel HGb23_63.out HBr;clear hs;obtain ⟨k65a,k65b,k65c⟩:=c3 HX13_27;obtain ⟨k66a,k66b,k66c⟩:=c3 HX11_20;go_wp2_with fail;clear hW37 hbk23 f64a f64b f64c k64a k64b k64c hW38 k65a k65b k65c k66a k66b k66c;refine (C6.out _).mono ?_;rintro e w39 ⟨rfl,hb⟩
       have HX4_1:=uH hb HX4_1;have HX5_2:=uH hb HX5_2;have HX8_3:=uH hb HX8_3;have HX9_5:=uH hb HX9_5;have HX10_6:=uH hb HX10_6;have HX11_20:=uH hb HX11_20;have HX13_27:=uH hb HX13_27;have HX15_34:=uH hb HX15_34;have HX18_37:=uH hb HX18_37;have HX19_38:=uH hb HX19_38;have HX23_63:=uH hb HX23_63;have HBr:=mH HBr hb;have HB:=mH HB hb;clear hb;obtain ⟨W40,bk24,hW40,hbk24,HX24_67,HB,HG24_67,hup⟩:=boxZ HB HN0;obtain ⟨HBr,HGb24_67⟩:=allB hW40 hbk24 HBr;have HL24_67:=(hup _ _ HX23_63).2;have HM24_67_bk9:=hD (Nat.ne_of_lt (hup _ _ HX9_5).2.out);have HM24_67_bk18:=hD (Nat.ne_of_lt (hup _ _ HX18_37).2.out);have HX4_1:=(hup _ _ HX4_1).1;have HX5_2:=(hup _ _ HX5_2).1;have HX8_3:=(hup _ _ HX8_3).1;have HX9_5:=(hup _ _ HX9_5).1;have HX10_6:=(hup _ _ HX10_6).1;have HX11_20:=(hup _ _ HX11_20).1;have HX13_27:=(hup _ _ HX13_27).1;have HX15_34:=(hup _ _ HX15_34).1;have HX18_37:=(hup _ _ HX18_37).1
       have HX19_38:=(hup _ _ HX19_38).1;have HX23_63:=(hup _ _ HX23_63).1;clear hup;obtain ⟨W41,hW41,HX24_67,hs,f68a,f68b,f68c,k68a,k68b,k68c⟩:=put3_0_3 HX24_67 (.bool gr.neg) (.string (encS gr.num)) (.string (encS gr.den));have HB:=hs.bel (gN HN0 HG24_67) HB;have HX4_1:=hs.keep _ _ (by have h0:=HL5_2.out;have h1:=HL8_3.out;have h2:=HL10_6.out;have h3:=HL11_20.out;have h4:=HL13_27.out;have h5:=HL15_34.out;have h6:=HL19_38.out;have h7:=HL23_63.out;have h8:=HL24_67.out;omega) HX4_1;have HX5_2:=hs.keep _ _ (by have h1:=HL8_3.out;have h2:=HL10_6.out;have h3:=HL11_20.out;have h4:=HL13_27.out;have h5:=HL15_34.out;have h6:=HL19_38.out;have h7:=HL23_63.out;have h8:=HL24_67.out;omega) HX5_2;have HX8_3:=hs.keep _ _ (by have h2:=HL10_6.out;have h3:=HL11_20.out;have h4:=HL13_27.out;have h5:=HL15_34.out;have h6:=HL19_38.out;have h7:=HL23_63.out;have h8:=HL24_67.out;omega) HX8_3
       have HX9_5:=hs.keep _ _ (fun hc=>HM24_67_bk9.out hc.symm) HX9_5;have HX10_6:=hs.keep _ _ (by have h3:=HL11_20.out;have h4:=HL13_27.out;have h5:=HL15_34.out;have h6:=HL19_38.out;have h7:=HL23_63.out;have h8:=HL24_67.out;omega) HX10_6;have HX11_20:=hs.keep _ _ (en5 HL13_27 HL15_34 HL19_38 HL23_63 HL24_67) HX11_20;have HX13_27:=hs.keep _ _ (en4 HL15_34 HL19_38 HL23_63 HL24_67) HX13_27;have HX15_34:=hs.keep _ _ (en3 HL19_38 HL23_63 HL24_67) HX15_34;have HX18_37:=hs.keep _ _ (fun hc=>HM24_67_bk18.out hc.symm) HX18_37;have HX19_38:=hs.keep _ _ (en2 HL23_63 HL24_67) HX19_38;have HX23_63:=hs.keep _ _ (en1 HL24_67) HX23_63;have HBr:=hs.bel HGb24_67.out HBr;clear hs;cases bt
       case false =>
        have e6:gr=md:=HQC.out rfl;subst e6;go_wp2_with fail;clear hW40 hbk24 f68a f68b f68c k68a k68b k68c hW41;refine wpVl (w:=W41) (by kernel_rfl) (fun ix v _=>v=Epieces_law_27_6 mg d gr ix) (fun t=>(decide (6≤t)&&decide (t<7))||(decide (147≤t)&&decide (t<155))) (by kernel_rfl) (by kernel_rfl) (by kernel_rfl) (fun _ _ _ _ _ h=>h) ?_ ?_
        ·intro i hi ov_ listed av_ w hR K hK;have ho:=hR.at_;have hi:i<9:=hi;have hii:i=0∨i=1∨i=2∨i=3∨i=4∨i=5∨i=6∨i=7∨i=8:=by omega
         rcases hii with rfl|rfl|rfl|rfl|rfl|rfl|rfl|rfl|rfl<;>(simp at ho;subst ho)
         ·have b7:av_.tmps.getD 7 undef=.bool true:=hR.b 7;refine pSq ?_;go_simp;exact hK _ _ rfl rB
         ·have e0:av_.tmps.getD 147 undef=.bool true:=hR.d 0;refine pSq ?_;go_simp;exact hK _ _ rfl rB
         ·have e1:av_.tmps.getD 148 undef=.bool true:=hR.g 1;have b24:av_.tmps.getD 24 undef=.pointer (some ⟨bk24,0,none⟩):=hR.b 24;obtain ⟨cx0,cx1,cx2⟩:=c3 (uH hR.below HX24_67);refine gSq (b:=true) e1 ?_;go_simp;exact hK _ _ rfl rB
         ·have e1:av_.tmps.getD 148 undef=.bool true:=hR.g 1;have b15:av_.tmps.getD 15 undef=.pointer (some ⟨bk15,0,none⟩):=hR.b 15;obtain ⟨cx0,cx1,cx2⟩:=c3 (uH hR.below HX15_34);refine gSq (b:=true) e1 ?_;go_simp;exact hK _ _ rfl rB
         ·have e1:av_.tmps.getD 148 undef=.bool true:=hR.g 1;have b23:av_.tmps.getD 23 undef=.pointer (some ⟨bk23,0,none⟩):=hR.b 23;obtain ⟨cx0,cx1,cx2⟩:=c3 (uH hR.below HX23_63);refine gSq (b:=true) e1 ?_;go_simp;exact hK _ _ rfl rB
         ·have e3:av_.tmps.getD 150 undef=.agg #[.bool mg.neg,.string (encS mg.num),.string (encS mg.den)]:=hR.d 3;have e4:av_.tmps.getD 151 undef=.agg #[.bool d.neg,.string (encS d.num),.string (encS d.den)]:=hR.d 4;have e1:av_.tmps.getD 148 undef=.bool true:=hR.g 1;refine gSq (b:=true) e1 ?_;go_simp;refine (C7.out w).mono ?_;rintro e w' ⟨rfl,hb⟩;exact hK _ _ (rfl) hb
         ·have e2:av_.tmps.getD 149 undef=.agg #[.bool gr.neg,.string (encS gr.num),.string (encS gr.den)]:=hR.d 2;have e5:av_.tmps.getD 152 undef=.agg #[.bool gr.neg,.string (encS gr.num),.string (encS gr.den)]:=hR.d 5;have e1:av_.tmps.getD 148 undef=.bool true:=hR.g 1;have hq:=run_eqlR (eqR_iff.2 (rfl:gr=gr));refine gSq (b:=true) e1 ?_;go_simp;exact hK _ _ rfl rB
         ·have e1:av_.tmps.getD 148 undef=.bool true:=hR.d 1;have e6:av_.tmps.getD 153 undef=.bool true:=hR.d 6;refine pSq ?_;go_simp;exact hK _ _ rfl rB
         ·have e7:av_.tmps.getD 154 undef=.bool true:=hR.d 7;refine pSq ?_;go_simp;exact hK _ _ rfl rB
        ·intro sv_ w hS hb;have e8:sv_ 6=.bool true:=hS 8 (by decide);simp only [over,ovL,Nat.reduceAdd,Nat.reduceLeDiff,Nat.reduceLT];have HB:=mH HB hb;have HBr:=mH HBr hb;have HX4_1:=uH hb HX4_1;have HX5_2:=uH hb HX5_2;have HX8_3:=uH hb HX8_3;have HX9_5:=uH hb HX9_5;have HX10_6:=uH hb HX10_6;have HX11_20:=uH hb HX11_20;have HX13_27:=uH hb HX13_27;have HX15_34:=uH hb HX15_34;have HX18_37:=uH hb HX18_37;have HX19_38:=uH hb HX19_38;have HX23_63:=uH hb HX23_63;have HX24_67:=uH hb HX24_67;obtain ⟨w42,hw⟩:∃w8,w8=w:=⟨_,rfl⟩;subst hw;rw [e8];clear hS hb e8;go_wp2_with fail;go_ret;exact ⟨rfl,by rw [HN0.out];exact HB.out⟩
       case true =>
        go_wp2_with fail;clear hW40 hbk24 f68a f68b f68c k68a k68b k68c hW41;refine wpVl (w:=W41) (by kernel_rfl) (fun ix v _=>v=Epieces_law_28_7 d gr bo tp bdd tdd ca cb ix) (fun t=>(decide (6≤t)&&decide (t<7))||(decide (155≤t)&&decide (t<172))) (by kernel_rfl) (by kernel_rfl) (by kernel_rfl) (fun _ _ _ _ _ h=>h) ?_ ?_
        ·intro i hi ov_ listed av_ w hR K hK;have ho:=hR.at_;have hi:i<18:=hi;have hii:i=0∨i=1∨i=2∨i=3∨i=4∨i=5∨i=6∨i=7∨i=8∨i=9∨i=10∨i=11∨i=12∨i=13∨i=14∨i=15∨i=16∨i=17:=by omega
         rcases hii with rfl|rfl|rfl|rfl|rfl|rfl|rfl|rfl|rfl|rfl|rfl|rfl|rfl|rfl|rfl|rfl|rfl|rfl<;>(simp at ho;subst ho)
         ·have b7:av_.tmps.getD 7 undef=.bool true:=hR.b 7;refine pSq ?_;go_simp;exact hK _ _ rfl rB
         ·have e0:av_.tmps.getD 155 undef=.bool true:=hR.d 0;refine pSq ?_;go_simp;exact hK _ _ rfl rB
         ·have e1:av_.tmps.getD 156 undef=.bool true:=hR.g 1;have b24:av_.tmps.getD 24 undef=.pointer (some ⟨bk24,0,none⟩):=hR.b 24;obtain ⟨cx0,cx1,cx2⟩:=c3 (uH hR.below HX24_67);refine gSq (b:=true) e1 ?_;go_simp;exact hK _ _ rfl rB
         ·have e1:av_.tmps.getD 156 undef=.bool true:=hR.g 1;have b18:av_.tmps.getD 18 undef=.pointer (some ⟨bk18,0,none⟩):=hR.b 18;obtain ⟨cx0,cx1,cx2⟩:=c3 (uH hR.below HX18_37);refine gSq (b:=true) e1 ?_;go_simp;exact hK _ _ rfl rB
         ·have e1:av_.tmps.getD 156 undef=.bool true:=hR.g 1;have b23:av_.tmps.getD 23 undef=.pointer (some ⟨bk23,0,none⟩):=hR.b 23;obtain ⟨cx0,cx1,cx2⟩:=c3 (uH hR.below HX23_63);refine gSq (b:=true) e1 ?_;go_simp;exact hK _ _ rfl rB
         ·have e3:av_.tmps.getD 158 undef=.agg #[.bool bo.neg,.string (encS bo.num),.string (encS bo.den)]:=hR.d 3;have e4:av_.tmps.getD 159 undef=.agg #[.bool d.neg,.string (encS d.num),.string (encS d.den)]:=hR.d 4;have e1:av_.tmps.getD 156 undef=.bool true:=hR.g 1;refine gSq (b:=true) e1 ?_;go_simp;refine (C14.out w).mono ?_;rintro e w' ⟨rfl,hb⟩;exact hK _ _ (rfl) hb
         ·have e2:av_.tmps.getD 157 undef=.agg #[.bool gr.neg,.string (encS gr.num),.string (encS gr.den)]:=hR.d 2;have e5:av_.tmps.getD 160 undef=.agg #[.bool bdd.neg,.string (encS bdd.num),.string (encS bdd.den)]:=hR.d 5;have e1:av_.tmps.getD 156 undef=.bool true:=hR.g 1;refine gSq (b:=true) e1 ?_;go_simp;refine (C16.out w).mono ?_;rintro e w' ⟨rfl,hb⟩;exact hK _ _ (rfl) hb
         ·have e6:av_.tmps.getD 161 undef=.int .i64 ca:=hR.d 6;have e1:av_.tmps.getD 156 undef=.bool true:=hR.g 1;have hq:=HQA.out;refine gSq (b:=true) e1 ?_;go_simp;exact hK _ _ rfl rB
         ·have e1:av_.tmps.getD 156 undef=.bool true:=hR.d 1;have e7:av_.tmps.getD 162 undef=.bool true:=hR.d 7;refine pSq ?_;go_simp;exact hK _ _ rfl rB
         ·have e8:av_.tmps.getD 163 undef=.bool true:=hR.d 8;refine pSq ?_;go_simp;exact hK _ _ rfl rB
         ·have e9:av_.tmps.getD 164 undef=.bool true:=hR.g 9;have b24:av_.tmps.getD 24 undef=.pointer (some ⟨bk24,0,none⟩):=hR.b 24;obtain ⟨cx0,cx1,cx2⟩:=c3 (uH hR.below HX24_67);refine gSq (b:=true) e9 ?_;go_simp;exact hK _ _ rfl rB
         ·have e9:av_.tmps.getD 164 undef=.bool true:=hR.g 9;have b19:av_.tmps.getD 19 undef=.pointer (some ⟨bk19,0,none⟩):=hR.b 19;obtain ⟨cx0,cx1,cx2⟩:=c3 (uH hR.below HX19_38);refine gSq (b:=true) e9 ?_;go_simp;exact hK _ _ rfl rB
         ·have e9:av_.tmps.getD 164 undef=.bool true:=hR.g 9;have b23:av_.tmps.getD 23 undef=.pointer (some ⟨bk23,0,none⟩):=hR.b 23;obtain ⟨cx0,cx1,cx2⟩:=c3 (uH hR.below HX23_63);refine gSq (b:=true) e9 ?_;go_simp;exact hK _ _ rfl rB
         ·have e11:av_.tmps.getD 166 undef=.agg #[.bool tp.neg,.string (encS tp.num),.string (encS tp.den)]:=hR.d 11;have e12:av_.tmps.getD 167 undef=.agg #[.bool d.neg,.string (encS d.num),.string (encS d.den)]:=hR.d 12;have e9:av_.tmps.getD 164 undef=.bool true:=hR.g 9;refine gSq (b:=true) e9 ?_;go_simp;refine (C15.out w).mono ?_;rintro e w' ⟨rfl,hb⟩;exact hK _ _ (rfl) hb
         ·have e10:av_.tmps.getD 165 undef=.agg #[.bool gr.neg,.string (encS gr.num),.string (encS gr.den)]:=hR.d 10;have e13:av_.tmps.getD 168 undef=.agg #[.bool tdd.neg,.string (encS tdd.num),.string (encS tdd.den)]:=hR.d 13;have e9:av_.tmps.getD 164 undef=.bool true:=hR.g 9;refine gSq (b:=true) e9 ?_;go_simp;refine (C17.out w).mono ?_;rintro e w' ⟨rfl,hb⟩;exact hK _ _ (rfl) hb
         ·have e14:av_.tmps.getD 169 undef=.int .i64 cb:=hR.d 14;have e9:av_.tmps.getD 164 undef=.bool true:=hR.g 9;have hq:=HQB.out;refine gSq (b:=true) e9 ?_;go_simp;exact hK _ _ rfl rB
         ·have e9:av_.tmps.getD 164 undef=.bool true:=hR.d 9;have e15:av_.tmps.getD 170 undef=.bool true:=hR.d 15;refine pSq ?_;go_simp;exact hK _ _ rfl rB
         ·have e16:av_.tmps.getD 171 undef=.bool true:=hR.d 16;refine pSq ?_;go_simp;exact hK _ _ rfl rB
        ·intro sv_ w hS hb;have e17:sv_ 6=.bool true:=hS 17 (by decide);simp only [over,ovL,Nat.reduceAdd,Nat.reduceLeDiff,Nat.reduceLT];have HB:=mH HB hb;have HBr:=mH HBr hb;have HX4_1:=uH hb HX4_1;have HX5_2:=uH hb HX5_2;have HX8_3:=uH hb HX8_3;have HX9_5:=uH hb HX9_5;have HX10_6:=uH hb HX10_6;have HX11_20:=uH hb HX11_20;have HX13_27:=uH hb HX13_27;have HX15_34:=uH hb HX15_34;have HX18_37:=uH hb HX18_37;have HX19_38:=uH hb HX19_38;have HX23_63:=uH hb HX23_63;have HX24_67:=uH hb HX24_67;obtain ⟨w43,hw⟩:∃w8,w8=w:=⟨_,rfl⟩;subst hw;rw [e17];clear hS hb e17;go_wp2_with fail;go_ret;exact ⟨rfl,by rw [HN0.out];exact HB.out⟩
end Go.Proofs.YtblgfmjlajhipaaGreatDoor
