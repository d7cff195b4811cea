/- RatePieces: contracts and the law's walk. Each theorem names its conditions. -/
import Derived.WalkKit
import Derived.Deep.LoopGhost
import Derived.Deep.QuietTactic
import Derived.BigQuiet
import Derived.Test.YtblgfmjlajhipaaGreatDoorProg
import Derived.WalkSpells
import Derived.WalkLawsBesides
import Derived.IntWalk
import Derived.Lib.Hide
import Derived.Laws.BitsAllLaws
import Derived.StillTailTactics
import Derived.Deep.OwnRows
import Derived.Lib.ConvBytes
import Derived.Below
import Derived.Shelf.Strings.Trim
import Derived.Shelf.Small.Utf8
import Derived.Shelf.Small.Bits
import Derived.Shelf.Small.Strs
import Derived.Shelf.Strconv.Itoa0
import Derived.Shelf.Strings.Search1
import Derived.Shelf.Strings.Runes
import Derived.Shelf.Strings.AsciiSet
import Derived.Shelf.Unicode.DecodeSlow
import Derived.Shelf.Unicode.DecodeAny
import Derived.Ground.SlgmProg
import Derived.Shelf.SortM.Plain
import Derived.Shelf.SortM.SortNone
import Derived.Test.YtblgfmjlajhipaaGreatDoorKpa2
import Derived.Test.YtblgfmjlajhipaaGreatDoorZb5
import Derived.Test.YtblgfmjlajhipaaGreatDoorZa7
import Derived.Test.YtblgfmjlajhipaaGreatDoorZa6
import Derived.Test.YtblgfmjlajhipaaGreatDoorZa5
import Derived.Test.YtblgfmjlajhipaaGreatDoorZa4
import Derived.Test.YtblgfmjlajhipaaGreatDoorZa3
import Derived.Test.YtblgfmjlajhipaaGreatDoorZa0
import Derived.Test.YtblgfmjlajhipaaGreatDoorZa1
import Derived.Test.YtblgfmjlajhipaaGreatDoorKpa0
import Derived.Test.YtblgfmjlajhipaaGreatDoorZa2
set_option maxHeartbeats 16000000
set_option linter.unusedVariables false
namespace Go.Proofs.YtblgfmjlajhipaaGreatDoor
open Go.RowKit Go.Shelf
open Dgt
def Cut3 (W:World) (v:Value) (n:Nat) (l:List T3):Prop:=CutC 3 8 W v n (l.map fun q=>[.int .i64 q.1,.int .i64 q.2.1,.int .i64 q.2.2])
def I3 (l:List T3):Prop:=∀q ∈ l,I64 q.1∧I64 q.2.1∧I64 q.2.2
theorem Cut3.open {A:World} {p:Option Addr} {n cap:Nat} {l:List T3} (h:Cut3 A (.slice p n cap) n l):n≤9223372036854775807∧l.length=min n 8∧∀i (h:i<l.length),∃g off,p=some ⟨g,off,none⟩∧∀W,Below A.heap.size A W→W.cell? ⟨g,off+i*3,none⟩=some (.int .i64 l[i].1)∧W.cell? ⟨g,off+i*3+1,none⟩=some (.int .i64 l[i].2.1)∧W.cell? ⟨g,off+i*3+2,none⟩=some (.int .i64 l[i].2.2):=by
 obtain ⟨p',cap',h1,h2,h3,h4,h5⟩:=h;simp only [Value.slice.injEq] at h1;obtain ⟨rfl,-,rfl⟩:=h1;rw [List.length_map] at h4;refine ⟨h3,h4,fun i hi=> ?_⟩;obtain ⟨g,off,k1,k2,k3⟩:=h5 i (by rwa [List.length_map]);refine ⟨g,off,k1,fun W hb=> ?_⟩;rw [List.getElem_map] at k3;have key:∀j u,([.int .i64 l[i].1,.int .i64 l[i].2.1,.int .i64 l[i].2.2]:List Value)[j]? =some u→W.cell? ⟨g,off+i*3+j,none⟩=some u:=fun j u hu=>by rw [clU hb k2];exact k3 j u hu
 exact ⟨key 0 _ rfl,key 1 _ rfl,key 2 _ rfl⟩
theorem mnum_in {l:List T3} {k:Nat} (h:k<l.length):mnum l k=l[k]:=by unfold mnum;rw [List.getD_eq_getElem?_getD,List.getElem?_eq_getElem h];rfl
theorem mnum_i3 {l:List T3} (h:I3 l) (k:Nat):I64 (mnum l k).1∧I64 (mnum l k).2.1∧I64 (mnum l k).2.2:=by
 rcases Nat.lt_or_ge k l.length with hk|hk
 ·rw [mnum_in hk];exact h _ (List.getElem_mem hk)
 ·unfold mnum;rw [List.getD_eq_getElem?_getD,List.getElem?_eq_none hk];exact ⟨⟨by decide,by decide⟩,⟨by decide,by decide⟩,⟨by decide,by decide⟩⟩
theorem wrap_in {x y:Int} (h: -9223372036854775808≤x∧x≤9223372036854775807) (e:x=y):IntKind.i64.wrap x=y:=by rw [IntWalk.i64_in _ (by omega)];exact e
theorem app_bkG {w:World} {B g n:Nat} {v:Value} {xs:List Value} {a b c d e f:Value} (h:w.ownsRow B 42 6 v n xs) (h6:w.heap[g]? =some (.cells #[a,b,c,d,e,f] 42 (0,0))) (h1:∀u ∈ [a,b,c,d,e,f],u.oneCell' =true) (hw:B≤w.heap.size∨0<n) (hl:n≤1000) :
  ∃v' w',(Builtin.append_ #[24,24] 24 #[v,.slice (some ⟨g,0,none⟩) 1 1]).run Tryz.prog w=.ok v' w' ∧w'.ownsRow B 42 6 v' (n+1) (xs++[a,b,c,d,e,f]) ∧
   (∀b o,Hid (b<B)→Hid (w.heap[b]? =some o)→Hid (w'.heap[b]? =some o))∧(∀(m:Nat) (A:World),m≤B→Hid (Below m A w)→Hid (Below m A w'))∧∀b o,Hid (∀g,v.ownBlock=some g→b≠g)→Hid (w.heap[b]? =some o)→Hid (w'.heap[b]? =some o):=by
 have hw:=own_room h hw;obtain ⟨i0,hi,hz0,hz1,hz2⟩:=info_partsN infoBk;obtain ⟨v',w',hr,r1,r2,-⟩:=run_append_own (P:=Tryz.prog) w B 24 24 42 i0 (.agg #[.bool false,.string ⟨#[]⟩,.string ⟨#[]⟩,.bool false,.string ⟨#[]⟩,.string ⟨#[]⟩]) 6 80 Tryz.underlying24 hi hz0 hz1 hz2 rfl (by decide)
  v n xs h ⟨g,0,none⟩ 1 1 [a,b,c,d,e,f] rfl (fun j u hj=>by
   have e:(⟨g,0,none⟩:Addr).add j=⟨g,j,none⟩:=by cases j<;>simp [Addr.add]
   rw [e,Lib.cell_of_heap h6];simpa using hj) h1 (by unfold maxLen;omega) (by omega) hw
 have hb:=own_base_b h;exact ⟨v',w',hr,r1,fun b o hbB hx=>hD (grown_box r2 hb hbB.out hx.out),fun m A hm hA=>hD (grown_below r2 hb hm hA.out (Nat.le_trans hm hw)),fun b o hne hx=>hD ((r2.block b (Array.getElem?_eq_some_iff.1 hx.out).1 (fun e=>hne.out b e.symm rfl)).trans hx.out)⟩
def EMade_own_9_1 (bk6:Nat) (qa:Int) (qc:Int) (ma:Int) (na:Int) (mc:Int) (mt:Int) (nc:Int) (oa:Rt) (oc:Rt) (x:Rt):Nat→Value
 | 0=>.pointer (some ⟨bk6,0,none⟩)
 | 1=>.int .i64 qa
 | 2=>.int .i64 ma
 | 3=>.int .i64 na
 | 4=>.agg #[.bool oa.neg,.string (encS oa.num),.string (encS oa.den)]
 | 5=>.pointer (some ⟨bk6,2,none⟩)
 | 6=>.int .i64 qc
 | 7=>.int .i64 mc
 | 8=>.int .i64 mt
 | 9=>.int .i64 nc
 | 10=>.agg #[.bool oc.neg,.string (encS oc.num),.string (encS oc.den)]
 | 11=>.tuple #[.agg #[.bool x.neg,.string (encS x.num),.string (encS x.den)],.bool true]
 | 12=>.tuple #[.agg #[.bool x.neg,.string (encS x.num),.string (encS x.den)],.bool true]
 | 13=>.agg #[.bool x.neg,.string (encS x.num),.string (encS x.den)]
 | 14=>.bool true
 | 15=>undef
 | 16=>undef
 | 17=>.bool true
 | _=>undef
def EMade_own_11_2 (bk6:Nat) (qb:Int) (qc:Int) (mb:Int) (nb:Int) (md:Int) (nd:Int) (ob:Rt) (od:Rt) (y:Rt):Nat→Value
 | 0=>.pointer (some ⟨bk6,1,none⟩)
 | 1=>.int .i64 qb
 | 2=>.int .i64 mb
 | 3=>.int .i64 nb
 | 4=>.agg #[.bool ob.neg,.string (encS ob.num),.string (encS ob.den)]
 | 5=>.pointer (some ⟨bk6,2,none⟩)
 | 6=>.int .i64 qc
 | 7=>.int .i64 md
 | 8=>.int .i64 nd
 | 9=>.agg #[.bool od.neg,.string (encS od.num),.string (encS od.den)]
 | 10=>.tuple #[.agg #[.bool y.neg,.string (encS y.num),.string (encS y.den)],.bool true]
 | 11=>.tuple #[.agg #[.bool y.neg,.string (encS y.num),.string (encS y.den)],.bool true]
 | 12=>.agg #[.bool y.neg,.string (encS y.num),.string (encS y.den)]
 | 13=>.bool true
 | 14=>undef
 | 15=>undef
 | 16=>.bool true
 | _=>undef
def EMade_own_9_3 (bk6:Nat) (ma:Int) (na:Int) (mc:Int) (mt:Int) (nc:Int) (oa:Rt) (oc:Rt) (x:Rt):Nat→Value
 | 0=>.pointer (some ⟨bk6,0,none⟩)
 | 1=>.int .i64 0
 | 2=>.int .i64 ma
 | 3=>.int .i64 na
 | 4=>.agg #[.bool oa.neg,.string (encS oa.num),.string (encS oa.den)]
 | 5=>.pointer (some ⟨bk6,2,none⟩)
 | 6=>.int .i64 0
 | 7=>.int .i64 mc
 | 8=>.int .i64 mt
 | 9=>.int .i64 nc
 | 10=>.agg #[.bool oc.neg,.string (encS oc.num),.string (encS oc.den)]
 | 11=>.tuple #[.agg #[.bool x.neg,.string (encS x.num),.string (encS x.den)],.bool true]
 | 12=>.tuple #[.agg #[.bool x.neg,.string (encS x.num),.string (encS x.den)],.bool true]
 | 13=>.agg #[.bool x.neg,.string (encS x.num),.string (encS x.den)]
 | 14=>.bool true
 | 15=>undef
 | 16=>undef
 | 17=>.bool true
 | _=>undef
def EMade_own_11_4 (bk6:Nat) (mb:Int) (nb:Int) (md:Int) (nd:Int) (ob:Rt) (od:Rt) (y:Rt):Nat→Value
 | 0=>.pointer (some ⟨bk6,1,none⟩)
 | 1=>.int .i64 0
 | 2=>.int .i64 mb
 | 3=>.int .i64 nb
 | 4=>.agg #[.bool ob.neg,.string (encS ob.num),.string (encS ob.den)]
 | 5=>.pointer (some ⟨bk6,2,none⟩)
 | 6=>.int .i64 0
 | 7=>.int .i64 md
 | 8=>.int .i64 nd
 | 9=>.agg #[.bool od.neg,.string (encS od.num),.string (encS od.den)]
 | 10=>.tuple #[.agg #[.bool y.neg,.string (encS y.num),.string (encS y.den)],.bool true]
 | 11=>.tuple #[.agg #[.bool y.neg,.string (encS y.num),.string (encS y.den)],.bool true]
 | 12=>.agg #[.bool y.neg,.string (encS y.num),.string (encS y.den)]
 | 13=>.bool true
 | 14=>undef
 | 15=>undef
 | 16=>.bool true
 | _=>undef
set_option maxRecDepth 100000 in
theorem Made_own (p:Option Addr) (n cap:Nat) (l:List T3) (hi:I3 l) (wq:World) (hl:Cut3 wq (.slice p n cap) n l) :
  Calls Tryz.prog 15 #[.slice p n cap] wq fun e w' =>∃v',e=.returned (.agg #[.string ⟨#[98,97,115,105,99]⟩,.int .i64 1,.int .i64 0,v'])∧w'.ownsRow wq.heap.size 42 6 v' (madeN l) (cells6 ((madeB l).map rawB))∧Below wq.heap.size wq w' :=by
 obtain ⟨hn,hll,hat⟩:=hl.open;have HAT:=hD hat;have HI:=hD (mnum_i3 hi);have HLN:Hid (n≤9223372036854775807∧l.length=min n 8∧madeN l=if n=0 then 1 else min n 8):=hD ⟨hn,hll,by unfold madeN;split<;>split<;>omega⟩;have c0:=fun w=>rRatOf_any 0 w (by decide) (by decide)
 obtain ⟨f0,hf0⟩:∃x,ofR 0=x:=⟨_,rfl⟩;rw [hf0] at c0;have HF0:Hid (mfrom l 0=f0):=hD hf0;clear hn hll hat hi hl hf0;have C1:Hid (∀w,Gv 14 #[.int .i64 0] w (.agg #[.bool f0.neg,.string (encS f0.num),.string (encS f0.den)])):=hD c0;clear c0;have HB:=hD (Below.refl wq.heap.size wq);obtain ⟨n0,hn0⟩:∃n,n=wq.heap.size:=⟨_,rfl⟩;rw [←hn0];have HN0:=hD hn0;clear hn0;go_enter Tryz.func15,Tryz.ntmps15;obtain ⟨W1,bk2,hW1,hbk2,HX2_1,HB,HG2_1,hup⟩:=boxn HB HN0 (.cells #[.string ⟨#[]⟩,.int .i64 0,.int .i64 0,.slice none 0 0] 26);clear hup;obtain ⟨W2,bk3,hW2,hbk3,HX3_2,HB,HG3_2,hup⟩:=boxn HB HN0 (.cells #[.string ⟨#[]⟩,.int .i64 0,.int .i64 0,.slice none 0 0] 26);have HL3_2:=(hup _ _ HX2_1).2;have HX2_1:=(hup _ _ HX2_1).1;clear hup;obtain ⟨W3,hW3,HX3_2,hs,f3a,f3b,f3c,f3d,k3a,k3b,k3c,k3d⟩:=put4_0_4 HX3_2 (.string ⟨#[98,97,115,105,99]⟩) (.int .i64 1) (.int .i64 0) (.slice none 0 0)
 have HB:=hs.bel (gN HN0 HG3_2) HB;have HX2_1:=hs.keep _ _ (en1 HL3_2) HX2_1;clear hs;go_wp2_with fail;clear hW1 hbk2 hW2 hbk3 f3a f3b f3c f3d k3a k3b k3c k3d hW3;refine (C1.out _).mono ?_;rintro e w4 ⟨rfl,hb⟩;have HX2_1:=uH hb HX2_1;have HX3_2:=uH hb HX3_2;have HB:=mH HB hb;clear hb;obtain ⟨W5,bk4,hW5,hbk4,HX4_4,HB,HG4_4,hup⟩:=boxZ HB HN0;have HL4_4:=(hup _ _ HX3_2).2;have HX2_1:=(hup _ _ HX2_1).1;have HX3_2:=(hup _ _ HX3_2).1;clear hup;obtain ⟨W6,hW6,HX4_4,hs,f5a,f5b,f5c,k5a,k5b,k5c⟩:=put3_0_3 HX4_4 (.bool f0.neg) (.string (encS f0.num)) (.string (encS f0.den));have HB:=hs.bel (gN HN0 HG4_4) HB;have HX2_1:=hs.keep _ _ (en2 HL3_2 HL4_4) HX2_1;have HX3_2:=hs.keep _ _ (en1 HL4_4) HX3_2;clear hs;have HLB4:Hid (bk4<bk4+1):=hD (Nat.lt_succ_self _);have HLB3:Hid (bk3<bk4+1):=hD (by have:=HL4_4.out;omega);have HLB2:Hid (bk2<bk4+1):=hD (by have:=HL4_4.out;have:=HL3_2.out;omega)
 have HO:Hid (W6.ownsRow (bk4+1) 42 6 (.slice none 0 0) 0 (cells6 ((madeK l 0).map rawB))):=hD own_new_row;go_wp2_with fail;clear hW5 hbk4 f5a f5b f5c k5a k5b k5c hW6
 go_loopw [5] (fun u5 wr=>∃(k:Nat) (vv:Value) (fk:Rt),k≤madeN l∧u5=.int .i64 (k:Int)∧Hid (wr.ownsRow (bk4+1) 42 6 vv k (cells6 ((madeK l k).map rawB)))∧Hid (mfrom l k=fk)∧Hid (wr.heap[bk2]? =some (.cells #[.string ⟨#[]⟩,.int .i64 0,.int .i64 0,.slice none 0 0] 26 (0,0)))∧Hid (wr.heap[bk3]? =some (.cells #[.string ⟨#[98,97,115,105,99]⟩,.int .i64 1,.int .i64 0,vv] 26 (0,0)))∧Hid (wr.heap[bk4]? =some (.cells #[.bool fk.neg,.string (encS fk.num),.string (encS fk.den)] 29 (0,0)))∧Hid (Below wq.heap.size wq wr)) (fun u5 _=>madeN l-(intOf u5).toNat)
 case atStart=>exact ⟨0,(.slice none 0 0),f0,by omega,by first|rfl|go_num,HO,HF0,HX2_1,HX3_2,HX4_4,HB⟩
 case round =>
  obtain ⟨k,vv,fk,hk,rfl,HO3,HS,HX2_1,HX3_2,HX4_4,HB⟩:=hrel
  by_cases hlt:k<madeN l
  ·have hlt' :(k:Int)<(madeN l:Int):=by omega
   obtain ⟨p0,c0,rfl⟩:=own_slice HO3.out;have HLT:=hD hlt;have hi3:=HI.out k;have HSK:=hD (madeK_s l k);have hfs:mfrom l (k+1)=addR (mfrom l k) (mstep (mnum l k)):=rfl;have hst:=mstep_gd (mnum l k);have hfk:=mfrom_gd l k;have hNL:=HLN.out;have hk8:k≤8:=by have:=hNL.2.2;split at this<;>omega
   have zf:=fitT_sz (fit_from hfk.1 hk8 hfk.2);have zy:=fitT_sz (fit_from (k:=1) hst.1 (by decide) (by simpa using hst.2.1));rw [HS.out] at HSK hfs hfk zf;have HNU:Hid (mnum l k=mnum l k):=hD rfl;obtain ⟨⟨qa,qb,qc⟩,hq⟩:∃q,mnum l k=q:=⟨_,rfl⟩;have HQ:=hD hq;rw [hq] at hi3 hfs hst zy HSK;obtain ⟨ia,ib,ic⟩:=hi3;have i1:=ia.1;have i2:=ia.2;have i3:=ib.1;have i4:=ib.2;have i5:=ic.1;have i6:=ic.2;simp only at i1 i2 i3 i4 i5 i6;have c1:=fun w=>mod2 qa 61 w i1 i2 (by decide) (by decide)
   have c2:=fun w=>mod2 qc 3 w i5 i6 (by decide) (by decide)
   have c3:=fun w=>mod2 qb 40 w i3 i4 (by decide) (by decide)
   have c4:=fun w=>mod2 qc 4 w i5 i6 (by decide) (by decide)
   have r1:=mod_in qa (show (0:Int)<61 by decide);have r2:=mod_in qc (show (0:Int)<3 by decide);have r3:=mod_in qb (show (0:Int)<40 by decide);have r4:=mod_in qc (show (0:Int)<4 by decide);have hx:mrate (qa,qb,qc)=quoR (ofR (qa%61-10)) (ofR (qc%3*30+20)):=rfl;have hy:mstep (qa,qb,qc)=quoR (ofR (qb%40+1)) (ofR (qc%4+1)):=rfl;obtain ⟨ma,h1⟩:∃x,qa%61=x:=⟨_,rfl⟩;rw [h1] at c1 r1 hx;obtain ⟨mc,h2⟩:∃x,qc%3=x:=⟨_,rfl⟩;rw [h2] at c2 r2 hx;obtain ⟨mb,h3⟩:∃x,qb%40=x:=⟨_,rfl⟩;rw [h3] at c3 r3 hy;obtain ⟨md,h4⟩:∃x,qc%4=x:=⟨_,rfl⟩;rw [h4] at c4 r4 hy;obtain ⟨mt,g2⟩:∃x,mc*30=x:=⟨_,rfl⟩;rw [g2] at hx;obtain ⟨na,g1⟩:∃x,ma-10=x:=⟨_,rfl⟩;rw [g1] at hx;obtain ⟨nc,g3⟩:∃x,mt+20=x:=⟨_,rfl⟩;rw [g3] at hx;obtain ⟨nb,g4⟩:∃x,mb+1=x:=⟨_,rfl⟩;rw [g4] at hy;obtain ⟨nd,g5⟩:∃x,md+1=x:=⟨_,rfl⟩;rw [g5] at hy
   have HW1:Hid (IntKind.i64.wrap (ma-10)=na∧IntKind.i64.wrap (mc*30)=mt∧IntKind.i64.wrap (mt+20)=nc):=hD ⟨wrap_in (by omega) g1,wrap_in (by omega) g2,wrap_in (by omega) g3⟩;have HW2:Hid (IntKind.i64.wrap (mb+1)=nb∧IntKind.i64.wrap (md+1)=nd):=hD ⟨wrap_in (by omega) g4,wrap_in (by omega) g5⟩;have b1: -100≤na∧na≤100:=by omega
   have b2:1≤nc∧nc≤100:=by omega
   have b3:1≤nb∧nb≤100:=by omega
   have b4:1≤nd∧nd≤100:=by omega
   have c5:=fun w=>rRatOf_any na w (by omega) (by omega)
   have c6:=fun w=>rRatOf_any nc w (by omega) (by omega)
   have c7:=fun w=>rRatOf_any nb w (by omega) (by omega)
   have c8:=fun w=>rRatOf_any nd w (by omega) (by omega)
   have c9:=fun w=>rRatQuo_r (IsR.of (ofR_ok na) (ofR_sz (n:=na) (by omega) (by omega))) (IsR.of (ofR_ok nc) (ofR_sz (n:=nc) (by omega) (by omega))) (by decide) (by decide) w
   unfold quoV at c9;rw [if_neg (of_num (by omega))] at c9;have c10:=fun w=>rRatQuo_r (IsR.of (ofR_ok nb) (ofR_sz (n:=nb) (by omega) (by omega))) (IsR.of (ofR_ok nd) (ofR_sz (n:=nd) (by omega) (by omega))) (by decide) (by decide) w
   unfold quoV at c10;rw [if_neg (of_num (by omega))] at c10;rw [←hx] at c9;rw [←hy] at c10;have c11:=fun w=>rRatAdd_r (IsR.of hfk.1 zf) (IsR.of hst.1 zy) (by decide) (by decide) w
   rw [←hfs] at c11;obtain ⟨x,k1⟩:∃x,mrate (qa,qb,qc)=x:=⟨_,rfl⟩;rw [k1] at c9 HSK;obtain ⟨y,k2⟩:∃x,mstep (qa,qb,qc)=x:=⟨_,rfl⟩;rw [k2] at c10 c11;obtain ⟨oa,k3⟩:∃x,ofR na=x:=⟨_,rfl⟩;rw [k3] at c5 c9;obtain ⟨oc,k4⟩:∃x,ofR nc=x:=⟨_,rfl⟩;rw [k4] at c6 c9;obtain ⟨ob,k5⟩:∃x,ofR nb=x:=⟨_,rfl⟩;rw [k5] at c7 c10;obtain ⟨od,k6⟩:∃x,ofR nd=x:=⟨_,rfl⟩;rw [k6] at c8 c10;obtain ⟨f2,k7⟩:∃x,mfrom l (k+1)=x:=⟨_,rfl⟩;rw [k7] at c11;have HF2:=hD k7;have HWI:Hid (IntKind.i64.wrap ((k:Int)+1)=((k+1:Nat):Int)):=hD (wrap_in (by omega) (by omega));clear hfs hst hfk zf zy hq ia ib ic i1 i2 i3 i4 i5 i6 r1 r2 r3 r4 hx hy h1 h2 h3 h4 g1 g2 g3 g4 g5 b1 b2 b3 b4 k1 k2 k3 k4 k5 k6 k7 hNL hk8 hk HNU hlt hlt';have C2:Hid (∀w,Gv 18 #[.int .i64 qa,.int .i64 61] w (.int .i64 ma)):=hD c1;have C3:Hid (∀w,Gv 18 #[.int .i64 qc,.int .i64 3] w (.int .i64 mc)):=hD c2
   have C4:Hid (∀w,Gv 18 #[.int .i64 qb,.int .i64 40] w (.int .i64 mb)):=hD c3;have C5:Hid (∀w,Gv 18 #[.int .i64 qc,.int .i64 4] w (.int .i64 md)):=hD c4;have C6:Hid (∀w,Gv 14 #[.int .i64 na] w (.agg #[.bool oa.neg,.string (encS oa.num),.string (encS oa.den)])):=hD c5;have C7:Hid (∀w,Gv 14 #[.int .i64 nc] w (.agg #[.bool oc.neg,.string (encS oc.num),.string (encS oc.den)])):=hD c6;have C8:Hid (∀w,Gv 14 #[.int .i64 nb] w (.agg #[.bool ob.neg,.string (encS ob.num),.string (encS ob.den)])):=hD c7;have C9:Hid (∀w,Gv 14 #[.int .i64 nd] w (.agg #[.bool od.neg,.string (encS od.num),.string (encS od.den)])):=hD c8;have C10:Hid (∀w,Gv 49 #[rtV oa,rtV oc] w (.tuple #[.agg #[.bool x.neg,.string (encS x.num),.string (encS x.den)],.bool true])):=hD c9;have C11:Hid (∀w,Gv 49 #[rtV ob,rtV od] w (.tuple #[.agg #[.bool y.neg,.string (encS y.num),.string (encS y.den)],.bool true])):=hD c10
   have C12:Hid (∀w,Gv 19 #[rtV fk,rtV y] w (.agg #[.bool f2.neg,.string (encS f2.num),.string (encS f2.den)])):=hD c11;clear c1 c2 c3 c4 c5 c6 c7 c8 c9 c10 c11;have HO5:=HO3;clear HO3
   by_cases hkn:k<n
   ·have hkl:k<l.length:=by have h1:=HLN.out.2.1;have h2:=HLN.out.2.2;have h3:=HLT.out;split at h2<;>omega
    obtain ⟨gl,off,rfl,hat⟩:=HAT.out k hkl;have hq:=HQ.out;rw [mnum_in hkl] at hq;simp only [hq] at hat;have HE:=hD hat;have hlt' :(k:Int)<(n:Int):=by omega
    have hlt8:(k:Int)<8:=by have:=HLN.out.2.1;omega
    clear hq hat hkl hkn;have HR5_bk2:=hD (own_old HO5.out HLB2.out);have HR5_bk3:=hD (own_old HO5.out HLB3.out);have HR5_bk4:=hD (own_old HO5.out HLB4.out);obtain ⟨W7,bk6,hW7,hbk6,HX6_6,HB,HG6_6,hup⟩:=boxn HB HN0 (.cells #[.int .i64 0,.int .i64 0,.int .i64 0] 34);obtain ⟨HO5,HR5_bk6⟩:=allR hW7 hbk6 HO5;have HL6_6:=(hup _ _ HX4_4).2;have HX2_1:=(hup _ _ HX2_1).1;have HX3_2:=(hup _ _ HX3_2).1;have HX4_4:=(hup _ _ HX4_4).1;clear hup;obtain ⟨W8,hW8,HX6_6,hs,f7a,f7b,f7c,k7a,k7b,k7c⟩:=put3_0_3 HX6_6 (.int .i64 0) (.int .i64 0) (.int .i64 0);have HB:=hs.bel (gN HN0 HG6_6) HB;have HX2_1:=hs.keep _ _ (en3 HL3_2 HL4_4 HL6_6) HX2_1;have HX3_2:=hs.keep _ _ (en2 HL4_4 HL6_6) HX3_2;have HX4_4:=hs.keep _ _ (en1 HL6_6) HX4_4;have HO5:=hs.row HO5 HR5_bk6;clear hs;obtain ⟨k8e0,k8e1,k8e2⟩:=HE.out _ HB.out
    obtain ⟨W9,hW9,HX6_6,hs,f9a,f9b,f9c,k9a,k9b,k9c⟩:=put3_0_3 HX6_6 (.int .i64 qa) (.int .i64 qb) (.int .i64 qc);have HB:=hs.bel (gN HN0 HG6_6) HB;have HX2_1:=hs.keep _ _ (en3 HL3_2 HL4_4 HL6_6) HX2_1;have HX3_2:=hs.keep _ _ (en2 HL4_4 HL6_6) HX3_2;have HX4_4:=hs.keep _ _ (en1 HL6_6) HX4_4;have HO5:=hs.row HO5 HR5_bk6;clear hs;go_wp2_with fail;clear hlt' hlt8 hW7 hbk6 f7a f7b f7c k7a k7b k7c hW8 k8e0 k8e1 k8e2 f9a f9b f9c k9a k9b k9c hW9;refine wp_region_box (w0:=W9) (by kernel_rfl) (fun ix v _=>v=EMade_own_9_1 bk6 qa qc ma na mc mt nc oa oc x ix) 15 16 (.cells #[.bool false,.string ⟨#[]⟩,.string ⟨#[]⟩] 29 (0,0)) (.cells #[.bool x.neg,.string (encS x.num),.string (encS x.den)] 29 (0,0)) (fun t=>(decide (7≤t)&&decide (t<9))||(decide (37≤t)&&decide (t<52))) (by kernel_rfl) (by kernel_rfl) (by kernel_rfl) (by decide) (by decide) (by kernel_rfl) rfl (fun _ _ _ _ _ h=>h) ?_ ?_ ?_ ?_
    ·intro i hi hia his ov_ listed av_ w hR K hK;have ho:=hR.at_;have hi:i<18:=hi;have hii:i=0∨i=1∨i=2∨i=3∨i=4∨i=5∨i=6∨i=7∨i=8∨i=9∨i=10∨i=11∨i=12∨i=13∨i=14∨i=17:=by omega
     rcases hii with rfl|rfl|rfl|rfl|rfl|rfl|rfl|rfl|rfl|rfl|rfl|rfl|rfl|rfl|rfl|rfl
     ·simp at ho;subst ho;have b6:av_.tmps.getD 6 undef=.pointer (some ⟨bk6,0,none⟩):=hR.b 6;refine pSq ?_;go_simp;exact hK _ _ rfl rB
     ·simp at ho;subst ho;have e0:av_.tmps.getD 38 undef=.pointer (some ⟨bk6,0,none⟩):=hR.dep ⟨0,.data⟩ (by simp) rfl (by decide) (by decide);have cx0:w.cell? ⟨bk6,0,none⟩=some (.int .i64 qa):=by rw [Lib.cell_of_heap (hpU hR.below HX6_6.out)];rfl
      refine pSq ?_;go_simp;exact hK _ _ rfl rB
     ·simp at ho;subst ho;have e1:av_.tmps.getD 39 undef=.int .i64 qa:=hR.dep ⟨1,.data⟩ (by simp) rfl (by decide) (by decide);refine pSq ?_;go_simp;refine (C2.out w).mono ?_;rintro e w' ⟨rfl,hb⟩;exact hK _ _ (rfl) hb
     ·simp at ho;subst ho;have e2:av_.tmps.getD 40 undef=.int .i64 ma:=hR.dep ⟨2,.data⟩ (by simp) rfl (by decide) (by decide);obtain ⟨hw1,hw2,hw3⟩:=HW1.out;refine pSq ?_;go_simp;exact hK _ _ rfl rB
     ·simp at ho;subst ho;have e3:av_.tmps.getD 41 undef=.int .i64 na:=hR.dep ⟨3,.data⟩ (by simp) rfl (by decide) (by decide);refine pSq ?_;go_simp;refine (C6.out w).mono ?_;rintro e w' ⟨rfl,hb⟩;exact hK _ _ (rfl) hb
     ·simp at ho;subst ho;have b6:av_.tmps.getD 6 undef=.pointer (some ⟨bk6,0,none⟩):=hR.b 6;refine pSq ?_;go_simp;exact hK _ _ rfl rB
     ·simp at ho;subst ho;have e5:av_.tmps.getD 43 undef=.pointer (some ⟨bk6,2,none⟩):=hR.dep ⟨5,.data⟩ (by simp) rfl (by decide) (by decide);have cx0:w.cell? ⟨bk6,2,none⟩=some (.int .i64 qc):=by rw [Lib.cell_of_heap (hpU hR.below HX6_6.out)];rfl
      refine pSq ?_;go_simp;exact hK _ _ rfl rB
     ·simp at ho;subst ho;have e6:av_.tmps.getD 44 undef=.int .i64 qc:=hR.dep ⟨6,.data⟩ (by simp) rfl (by decide) (by decide);refine pSq ?_;go_simp;refine (C3.out w).mono ?_;rintro e w' ⟨rfl,hb⟩;exact hK _ _ (rfl) hb
     ·simp at ho;subst ho;have e7:av_.tmps.getD 45 undef=.int .i64 mc:=hR.dep ⟨7,.data⟩ (by simp) rfl (by decide) (by decide);obtain ⟨hw1,hw2,hw3⟩:=HW1.out;refine pSq ?_;go_simp;exact hK _ _ rfl rB
     ·simp at ho;subst ho;have e8:av_.tmps.getD 46 undef=.int .i64 mt:=hR.dep ⟨8,.data⟩ (by simp) rfl (by decide) (by decide);obtain ⟨hw1,hw2,hw3⟩:=HW1.out;refine pSq ?_;go_simp;exact hK _ _ rfl rB
     ·simp at ho;subst ho;have e9:av_.tmps.getD 47 undef=.int .i64 nc:=hR.dep ⟨9,.data⟩ (by simp) rfl (by decide) (by decide);refine pSq ?_;go_simp;refine (C7.out w).mono ?_;rintro e w' ⟨rfl,hb⟩;exact hK _ _ (rfl) hb
     ·simp at ho;subst ho;have e4:av_.tmps.getD 42 undef=.agg #[.bool oa.neg,.string (encS oa.num),.string (encS oa.den)]:=hR.dep ⟨4,.data⟩ (by simp) rfl (by decide) (by decide);have e10:av_.tmps.getD 48 undef=.agg #[.bool oc.neg,.string (encS oc.num),.string (encS oc.den)]:=hR.dep ⟨10,.data⟩ (by simp) rfl (by decide) (by decide);refine pSq ?_;go_simp;refine (C10.out w).mono ?_;rintro e w' ⟨rfl,hb⟩;exact hK _ _ (rfl) hb
     ·simp at ho;subst ho;have e11:av_.tmps.getD 49 undef=.tuple #[.agg #[.bool x.neg,.string (encS x.num),.string (encS x.den)],.bool true]:=hR.dep ⟨11,.data⟩ (by simp) rfl (by decide) (by decide);refine pSq ?_;go_simp;exact hK _ _ rfl rB
     ·simp at ho;subst ho;have e12:av_.tmps.getD 37 undef=.tuple #[.agg #[.bool x.neg,.string (encS x.num),.string (encS x.den)],.bool true]:=hR.dep ⟨12,.data⟩ (by simp) rfl (by decide) (by decide);refine pSq ?_;go_simp;exact hK _ _ rfl rB
     ·simp at ho;subst ho;have e12:av_.tmps.getD 37 undef=.tuple #[.agg #[.bool x.neg,.string (encS x.num),.string (encS x.den)],.bool true]:=hR.dep ⟨12,.data⟩ (by simp) rfl (by decide) (by decide);refine pSq ?_;go_simp;exact hK _ _ rfl rB
     ·simp at ho;subst ho;have e14:av_.tmps.getD 51 undef=.bool true:=hR.dep ⟨14,.data⟩ (by simp) rfl (by decide) (by decide);refine pSq ?_;go_simp;exact hK _ _ rfl rB
    ·intro ov_ av_ w ho K hK;simp at ho;subst ho;refine pSq ?_;go_simp;exact hK _ _ _ rfl (Nat.le_refl _) (heap_alloc_new _ _) (rB.alloc (Nat.le_refl _) _)
    ·intro ov_ listed av_ w g hR hv hg hz K hK;have ho:=hR.at_;simp at ho;subst ho;have e15:av_.tmps.getD 7 undef=.pointer (some ⟨g,0,none⟩):=hv;have e13:av_.tmps.getD 50 undef=.agg #[.bool x.neg,.string (encS x.num),.string (encS x.den)]:=hR.dep ⟨13,.data⟩ (by simp) rfl (by decide) (by decide);have cz0:w.cell? ⟨g,0,none⟩=some (.bool false):=by rw [Lib.cell_of_heap hz];rfl
     have fz0:w.frozen? ⟨g,0,none⟩=false:=frz0 hz 0;have cz1:w.cell? ⟨g,1,none⟩=some (.string ⟨#[]⟩):=by rw [Lib.cell_of_heap hz];rfl
     have fz1:w.frozen? ⟨g,1,none⟩=false:=frz0 hz 1;have cz2:w.cell? ⟨g,2,none⟩=some (.string ⟨#[]⟩):=by rw [Lib.cell_of_heap hz];rfl
     have fz2:w.frozen? ⟨g,2,none⟩=false:=frz0 hz 2;refine pSq ?_;go_simp;exact hK _ (by simp [World.setCell,Array.getElem?_modify,hz]) (((rB.setCell (p:=⟨g,0,none⟩) hg (.bool x.neg)).setCell (p:=⟨g,1,none⟩) hg (.string (encS x.num))).setCell (p:=⟨g,2,none⟩) hg (.string (encS x.den)))
    ·intro sv_ w g hS hg0 hge hN hb;have e15:sv_ 7=.pointer (some ⟨g,0,none⟩):=hg0;simp only [over,ovL,Nat.reduceAdd,Nat.reduceLeDiff,Nat.reduceLT];obtain ⟨bk7,hg1⟩:∃b,g=b:=⟨_,rfl⟩;rw [hg1] at e15 hge hN;clear hg1;have HG7_10:Hid (n0≤bk7):=hD (by rw [HN0.out];exact Nat.le_trans HB.out.size hge);have HL7_10:=hD (Nat.lt_of_lt_of_le (Array.getElem?_eq_some_iff.1 HX6_6.out).1 hge);have HX7_10:=hD hN;have hge0:=hge;clear hN hge hg0;have HR5_7_10:=hD (own_ge HO5.out hge0);have HO5:=hD (own_up HO5.out hb);clear hge0;have HX2_1:=uH hb HX2_1;have HX3_2:=uH hb HX3_2;have HX4_4:=uH hb HX4_4;have HX6_6:=uH hb HX6_6;have HB:=mH HB hb;obtain ⟨w10,hw⟩:∃w8,w8=w:=⟨_,rfl⟩;subst hw;rw [e15];clear hS hb e15;have k11:=k1_ (i:=3) (u:=.slice p0 k c0) HX3_2 rfl;obtain ⟨k12a,k12b,k12c⟩:=c3 HX4_4;obtain ⟨k13a,k13b,k13c⟩:=c3 HX7_10
     obtain ⟨W11,bk57,hW11,hbk57,HX57_14,HB,HG57_14,hup⟩:=boxn HB HN0 (.cells #[.bool fk.neg,.string (encS fk.num),.string (encS fk.den),.bool x.neg,.string (encS x.num),.string (encS x.den)] 42);obtain ⟨HO5,HR5_bk57⟩:=allR hW11 hbk57 HO5;have HL57_14:=(hup _ _ HX7_10).2;have HX2_1:=(hup _ _ HX2_1).1;have HX3_2:=(hup _ _ HX3_2).1;have HX4_4:=(hup _ _ HX4_4).1;have HX6_6:=(hup _ _ HX6_6).1;have HX7_10:=(hup _ _ HX7_10).1;clear hup;obtain ⟨v15,w12,hrun15,hO,hkp,hbl,hkg⟩:=app_bkG HO5.out HX57_14.out (one6 _ _ _ _ _ _) (.inl (by have:=(Array.getElem?_eq_some_iff.1 HX4_4.out).1;omega)) (by have:=HLT.out;have:=(madeN_in l).2;omega);have HX2_1:=hkp _ _ HLB2 HX2_1;have HX3_2:=hkp _ _ HLB3 HX3_2;have HX4_4:=hkp _ _ HLB4 HX4_4;have HX6_6:=hkg _ _ HR5_bk6 HX6_6;have HB:=hbl _ _ (by have:=HG4_4.out;have:=HN0.out;omega) HB;have HO5:=hD hO;clear hO hkp hbl hkg
     obtain ⟨p1,c1,hv1⟩:=own_slice HO5.out;subst hv1;have HR5_bk2:=hD (own_old HO5.out HLB2.out);have HR5_bk3:=hD (own_old HO5.out HLB3.out);have HR5_bk4:=hD (own_old HO5.out HLB4.out);obtain ⟨W13,hW13,HX3_2,hs,f16a,k16a⟩:=put4_3_1 HX3_2 (.slice p1 (k+1) c1);have HB:=hs.bel (gN HN0 HG3_2) HB;have HX2_1:=hs.keep _ _ (en1 HL3_2) HX2_1;have HX4_4:=hs.keep _ _ (ne1 HL4_4) HX4_4;have HX6_6:=hs.keep _ _ (ne2 HL4_4 HL6_6) HX6_6;have HO5:=hs.row HO5 HR5_bk3;clear hs;go_wp2_with (first|(at_builtin;refine wpList_append_run rfl (.tmp 53) (.tmp 57) 24 rfl _ _ _ _ rfl rfl hrun15 ?_)|fail);clear k11 k12a k12b k12c k13a k13b k13c hW11 hbk57 hrun15 f16a k16a hW13
     refine wp_region_box (w0:=W13) (by kernel_rfl) (fun ix v _=>v=EMade_own_11_2 bk6 qb qc mb nb md nd ob od y ix) 14 15 (.cells #[.bool false,.string ⟨#[]⟩,.string ⟨#[]⟩] 29 (0,0)) (.cells #[.bool y.neg,.string (encS y.num),.string (encS y.den)] 29 (0,0)) (fun t=>(decide (9≤t)&&decide (t<11))||(decide (60≤t)&&decide (t<74))) (by kernel_rfl) (by kernel_rfl) (by kernel_rfl) (by decide) (by decide) (by kernel_rfl) rfl (fun _ _ _ _ _ h=>h) ?_ ?_ ?_ ?_
     ·intro i hi hia his ov_ listed av_ w hR K hK;have ho:=hR.at_;have hi:i<17:=hi;have hii:i=0∨i=1∨i=2∨i=3∨i=4∨i=5∨i=6∨i=7∨i=8∨i=9∨i=10∨i=11∨i=12∨i=13∨i=16:=by omega
      rcases hii with rfl|rfl|rfl|rfl|rfl|rfl|rfl|rfl|rfl|rfl|rfl|rfl|rfl|rfl|rfl
      ·simp at ho;subst ho;have b6:av_.tmps.getD 6 undef=.pointer (some ⟨bk6,0,none⟩):=hR.b 6;refine pSq ?_;go_simp;exact hK _ _ rfl rB
      ·simp at ho;subst ho;have e0:av_.tmps.getD 61 undef=.pointer (some ⟨bk6,1,none⟩):=hR.dep ⟨0,.data⟩ (by simp) rfl (by decide) (by decide);have cx0:w.cell? ⟨bk6,1,none⟩=some (.int .i64 qb):=by rw [Lib.cell_of_heap (hpU hR.below HX6_6.out)];rfl
       refine pSq ?_;go_simp;exact hK _ _ rfl rB
      ·simp at ho;subst ho;have e1:av_.tmps.getD 62 undef=.int .i64 qb:=hR.dep ⟨1,.data⟩ (by simp) rfl (by decide) (by decide);refine pSq ?_;go_simp;refine (C4.out w).mono ?_;rintro e w' ⟨rfl,hb⟩;exact hK _ _ (rfl) hb
      ·simp at ho;subst ho;have e2:av_.tmps.getD 63 undef=.int .i64 mb:=hR.dep ⟨2,.data⟩ (by simp) rfl (by decide) (by decide);obtain ⟨hw1,hw2⟩:=HW2.out;refine pSq ?_;go_simp;exact hK _ _ rfl rB
      ·simp at ho;subst ho;have e3:av_.tmps.getD 64 undef=.int .i64 nb:=hR.dep ⟨3,.data⟩ (by simp) rfl (by decide) (by decide);refine pSq ?_;go_simp;refine (C8.out w).mono ?_;rintro e w' ⟨rfl,hb⟩;exact hK _ _ (rfl) hb
      ·simp at ho;subst ho;have b6:av_.tmps.getD 6 undef=.pointer (some ⟨bk6,0,none⟩):=hR.b 6;refine pSq ?_;go_simp;exact hK _ _ rfl rB
      ·simp at ho;subst ho;have e5:av_.tmps.getD 66 undef=.pointer (some ⟨bk6,2,none⟩):=hR.dep ⟨5,.data⟩ (by simp) rfl (by decide) (by decide);have cx0:w.cell? ⟨bk6,2,none⟩=some (.int .i64 qc):=by rw [Lib.cell_of_heap (hpU hR.below HX6_6.out)];rfl
       refine pSq ?_;go_simp;exact hK _ _ rfl rB
      ·simp at ho;subst ho;have e6:av_.tmps.getD 67 undef=.int .i64 qc:=hR.dep ⟨6,.data⟩ (by simp) rfl (by decide) (by decide);refine pSq ?_;go_simp;refine (C5.out w).mono ?_;rintro e w' ⟨rfl,hb⟩;exact hK _ _ (rfl) hb
      ·simp at ho;subst ho;have e7:av_.tmps.getD 68 undef=.int .i64 md:=hR.dep ⟨7,.data⟩ (by simp) rfl (by decide) (by decide);obtain ⟨hw1,hw2⟩:=HW2.out;refine pSq ?_;go_simp;exact hK _ _ rfl rB
      ·simp at ho;subst ho;have e8:av_.tmps.getD 69 undef=.int .i64 nd:=hR.dep ⟨8,.data⟩ (by simp) rfl (by decide) (by decide);refine pSq ?_;go_simp;refine (C9.out w).mono ?_;rintro e w' ⟨rfl,hb⟩;exact hK _ _ (rfl) hb
      ·simp at ho;subst ho;have e4:av_.tmps.getD 65 undef=.agg #[.bool ob.neg,.string (encS ob.num),.string (encS ob.den)]:=hR.dep ⟨4,.data⟩ (by simp) rfl (by decide) (by decide);have e9:av_.tmps.getD 70 undef=.agg #[.bool od.neg,.string (encS od.num),.string (encS od.den)]:=hR.dep ⟨9,.data⟩ (by simp) rfl (by decide) (by decide);refine pSq ?_;go_simp;refine (C11.out w).mono ?_;rintro e w' ⟨rfl,hb⟩;exact hK _ _ (rfl) hb
      ·simp at ho;subst ho;have e10:av_.tmps.getD 71 undef=.tuple #[.agg #[.bool y.neg,.string (encS y.num),.string (encS y.den)],.bool true]:=hR.dep ⟨10,.data⟩ (by simp) rfl (by decide) (by decide);refine pSq ?_;go_simp;exact hK _ _ rfl rB
      ·simp at ho;subst ho;have e11:av_.tmps.getD 60 undef=.tuple #[.agg #[.bool y.neg,.string (encS y.num),.string (encS y.den)],.bool true]:=hR.dep ⟨11,.data⟩ (by simp) rfl (by decide) (by decide);refine pSq ?_;go_simp;exact hK _ _ rfl rB
      ·simp at ho;subst ho;have e11:av_.tmps.getD 60 undef=.tuple #[.agg #[.bool y.neg,.string (encS y.num),.string (encS y.den)],.bool true]:=hR.dep ⟨11,.data⟩ (by simp) rfl (by decide) (by decide);refine pSq ?_;go_simp;exact hK _ _ rfl rB
      ·simp at ho;subst ho;have e13:av_.tmps.getD 73 undef=.bool true:=hR.dep ⟨13,.data⟩ (by simp) rfl (by decide) (by decide);refine pSq ?_;go_simp;exact hK _ _ rfl rB
     ·intro ov_ av_ w ho K hK;simp at ho;subst ho;refine pSq ?_;go_simp;exact hK _ _ _ rfl (Nat.le_refl _) (heap_alloc_new _ _) (rB.alloc (Nat.le_refl _) _)
     ·intro ov_ listed av_ w g hR hv hg hz K hK;have ho:=hR.at_;simp at ho;subst ho;have e14:av_.tmps.getD 9 undef=.pointer (some ⟨g,0,none⟩):=hv;have e12:av_.tmps.getD 72 undef=.agg #[.bool y.neg,.string (encS y.num),.string (encS y.den)]:=hR.dep ⟨12,.data⟩ (by simp) rfl (by decide) (by decide);have cz0:w.cell? ⟨g,0,none⟩=some (.bool false):=by rw [Lib.cell_of_heap hz];rfl
      have fz0:w.frozen? ⟨g,0,none⟩=false:=frz0 hz 0;have cz1:w.cell? ⟨g,1,none⟩=some (.string ⟨#[]⟩):=by rw [Lib.cell_of_heap hz];rfl
      have fz1:w.frozen? ⟨g,1,none⟩=false:=frz0 hz 1;have cz2:w.cell? ⟨g,2,none⟩=some (.string ⟨#[]⟩):=by rw [Lib.cell_of_heap hz];rfl
      have fz2:w.frozen? ⟨g,2,none⟩=false:=frz0 hz 2;refine pSq ?_;go_simp;exact hK _ (by simp [World.setCell,Array.getElem?_modify,hz]) (((rB.setCell (p:=⟨g,0,none⟩) hg (.bool y.neg)).setCell (p:=⟨g,1,none⟩) hg (.string (encS y.num))).setCell (p:=⟨g,2,none⟩) hg (.string (encS y.den)))
     ·intro sv_ w g hS hg0 hge hN hb;have e14:sv_ 9=.pointer (some ⟨g,0,none⟩):=hg0;simp only [over,ovL,Nat.reduceAdd,Nat.reduceLeDiff,Nat.reduceLT];obtain ⟨bk9,hg1⟩:∃b,g=b:=⟨_,rfl⟩;rw [hg1] at e14 hge hN;clear hg1;have HG9_17:Hid (n0≤bk9):=hD (by rw [HN0.out];exact Nat.le_trans HB.out.size hge);have HL9_17:=hD (Nat.lt_of_lt_of_le (Array.getElem?_eq_some_iff.1 HX6_6.out).1 hge);have HX9_17:=hD hN;have hge0:=hge;clear hN hge hg0;have HR5_9_17:=hD (own_ge HO5.out hge0);have HO5:=hD (own_up HO5.out hb);clear hge0;have HX2_1:=uH hb HX2_1;have HX3_2:=uH hb HX3_2;have HX4_4:=uH hb HX4_4;have HX6_6:=uH hb HX6_6;have HB:=mH HB hb;obtain ⟨w14,hw⟩:∃w8,w8=w:=⟨_,rfl⟩;subst hw;rw [e14];clear hS hb e14;obtain ⟨k18a,k18b,k18c⟩:=c3 HX4_4;obtain ⟨k19a,k19b,k19c⟩:=c3 HX9_17;go_wp2_with fail;clear k18a k18b k18c k19a k19b k19c;refine (C12.out _).mono ?_;rintro e w15 ⟨rfl,hb⟩;have HX2_1:=uH hb HX2_1
      have HX3_2:=uH hb HX3_2;have HX4_4:=uH hb HX4_4;have HX6_6:=uH hb HX6_6;have HX9_17:=uH hb HX9_17;have HO5:=hD (own_up HO5.out hb);have HB:=mH HB hb;clear hb;obtain ⟨W16,hW16,HX4_4,hs,f20a,f20b,f20c,k20a,k20b,k20c⟩:=put3_0_3 HX4_4 (.bool f2.neg) (.string (encS f2.num)) (.string (encS f2.den));have HB:=hs.bel (gN HN0 HG4_4) HB;have HX2_1:=hs.keep _ _ (en2 HL3_2 HL4_4) HX2_1;have HX3_2:=hs.keep _ _ (en1 HL4_4) HX3_2;have HX6_6:=hs.keep _ _ (ne1 HL6_6) HX6_6;have HX9_17:=hs.keep _ _ (ne2 HL6_6 HL9_17) HX9_17;have HO5:=hs.row HO5 HR5_bk4;clear hs;have hwi:=HWI.out;go_wp2_with fail;clear f20a f20b f20c k20a k20b k20c hW16 hwi
      go_roundw
      case rel=>exact ⟨k+1,(.slice p1 (k+1) c1),f2,by have:=HLT.out;omega,by first|rfl|go_num,hD (by rw [HSK.out,List.map_append,List.map_singleton,cells6_snoc];exact HO5.out),HF2,HX2_1,HX3_2,HX4_4,HB⟩
      case measure=>have:=HLT.out;simp [intOf];omega
   ·have hk0:n=0∧k=0:=by have h1:=HLN.out.2.2;have h2:=HLT.out;split at h1<;>omega
    have hl0:l.length=0:=by have:=HLN.out.2.1;omega
    have hq:=HQ.out;unfold mnum at hq;rw [List.getD_eq_getElem?_getD,List.getElem?_eq_none (by omega)] at hq;simp only [Option.getD_none,Prod.mk.injEq] at hq;obtain ⟨rfl,rfl,rfl⟩:=hq;have hkn' :¬(k:Int)<(n:Int):=by omega
    have hz:((k:Int)==0)=true:=by rw [hk0.2];rfl
    clear hl0 hkn hk0;have HR5_bk2:=hD (own_old HO5.out HLB2.out);have HR5_bk3:=hD (own_old HO5.out HLB3.out);have HR5_bk4:=hD (own_old HO5.out HLB4.out);obtain ⟨W17,bk6,hW17,hbk6,HX6_21,HB,HG6_21,hup⟩:=boxn HB HN0 (.cells #[.int .i64 0,.int .i64 0,.int .i64 0] 34);obtain ⟨HO5,HR5_bk6⟩:=allR hW17 hbk6 HO5;have HL6_21:=(hup _ _ HX4_4).2;have HX2_1:=(hup _ _ HX2_1).1;have HX3_2:=(hup _ _ HX3_2).1;have HX4_4:=(hup _ _ HX4_4).1;clear hup;obtain ⟨W18,hW18,HX6_21,hs,f22a,f22b,f22c,k22a,k22b,k22c⟩:=put3_0_3 HX6_21 (.int .i64 0) (.int .i64 0) (.int .i64 0);have HB:=hs.bel (gN HN0 HG6_21) HB;have HX2_1:=hs.keep _ _ (en3 HL3_2 HL4_4 HL6_21) HX2_1;have HX3_2:=hs.keep _ _ (en2 HL4_4 HL6_21) HX3_2;have HX4_4:=hs.keep _ _ (en1 HL6_21) HX4_4;have HO5:=hs.row HO5 HR5_bk6;clear hs;go_wp2_with fail;clear hkn' hz hW17 hbk6 f22a f22b f22c k22a k22b k22c hW18
    refine wp_region_box (w0:=W18) (by kernel_rfl) (fun ix v _=>v=EMade_own_9_3 bk6 ma na mc mt nc oa oc x ix) 15 16 (.cells #[.bool false,.string ⟨#[]⟩,.string ⟨#[]⟩] 29 (0,0)) (.cells #[.bool x.neg,.string (encS x.num),.string (encS x.den)] 29 (0,0)) (fun t=>(decide (7≤t)&&decide (t<9))||(decide (37≤t)&&decide (t<52))) (by kernel_rfl) (by kernel_rfl) (by kernel_rfl) (by decide) (by decide) (by kernel_rfl) rfl (fun _ _ _ _ _ h=>h) ?_ ?_ ?_ ?_
    ·intro i hi hia his ov_ listed av_ w hR K hK;have ho:=hR.at_;have hi:i<18:=hi;have hii:i=0∨i=1∨i=2∨i=3∨i=4∨i=5∨i=6∨i=7∨i=8∨i=9∨i=10∨i=11∨i=12∨i=13∨i=14∨i=17:=by omega
     rcases hii with rfl|rfl|rfl|rfl|rfl|rfl|rfl|rfl|rfl|rfl|rfl|rfl|rfl|rfl|rfl|rfl
     ·simp at ho;subst ho;have b6:av_.tmps.getD 6 undef=.pointer (some ⟨bk6,0,none⟩):=hR.b 6;refine pSq ?_;go_simp;exact hK _ _ rfl rB
     ·simp at ho;subst ho;have e0:av_.tmps.getD 38 undef=.pointer (some ⟨bk6,0,none⟩):=hR.dep ⟨0,.data⟩ (by simp) rfl (by decide) (by decide);have cx0:w.cell? ⟨bk6,0,none⟩=some (.int .i64 0):=by rw [Lib.cell_of_heap (hpU hR.below HX6_21.out)];rfl
      refine pSq ?_;go_simp;exact hK _ _ rfl rB
     ·simp at ho;subst ho;have e1:av_.tmps.getD 39 undef=.int .i64 0:=hR.dep ⟨1,.data⟩ (by simp) rfl (by decide) (by decide);refine pSq ?_;go_simp;refine (C2.out w).mono ?_;rintro e w' ⟨rfl,hb⟩;exact hK _ _ (rfl) hb
     ·simp at ho;subst ho;have e2:av_.tmps.getD 40 undef=.int .i64 ma:=hR.dep ⟨2,.data⟩ (by simp) rfl (by decide) (by decide);obtain ⟨hw1,hw2,hw3⟩:=HW1.out;refine pSq ?_;go_simp;exact hK _ _ rfl rB
     ·simp at ho;subst ho;have e3:av_.tmps.getD 41 undef=.int .i64 na:=hR.dep ⟨3,.data⟩ (by simp) rfl (by decide) (by decide);refine pSq ?_;go_simp;refine (C6.out w).mono ?_;rintro e w' ⟨rfl,hb⟩;exact hK _ _ (rfl) hb
     ·simp at ho;subst ho;have b6:av_.tmps.getD 6 undef=.pointer (some ⟨bk6,0,none⟩):=hR.b 6;refine pSq ?_;go_simp;exact hK _ _ rfl rB
     ·simp at ho;subst ho;have e5:av_.tmps.getD 43 undef=.pointer (some ⟨bk6,2,none⟩):=hR.dep ⟨5,.data⟩ (by simp) rfl (by decide) (by decide);have cx0:w.cell? ⟨bk6,2,none⟩=some (.int .i64 0):=by rw [Lib.cell_of_heap (hpU hR.below HX6_21.out)];rfl
      refine pSq ?_;go_simp;exact hK _ _ rfl rB
     ·simp at ho;subst ho;have e6:av_.tmps.getD 44 undef=.int .i64 0:=hR.dep ⟨6,.data⟩ (by simp) rfl (by decide) (by decide);refine pSq ?_;go_simp;refine (C3.out w).mono ?_;rintro e w' ⟨rfl,hb⟩;exact hK _ _ (rfl) hb
     ·simp at ho;subst ho;have e7:av_.tmps.getD 45 undef=.int .i64 mc:=hR.dep ⟨7,.data⟩ (by simp) rfl (by decide) (by decide);obtain ⟨hw1,hw2,hw3⟩:=HW1.out;refine pSq ?_;go_simp;exact hK _ _ rfl rB
     ·simp at ho;subst ho;have e8:av_.tmps.getD 46 undef=.int .i64 mt:=hR.dep ⟨8,.data⟩ (by simp) rfl (by decide) (by decide);obtain ⟨hw1,hw2,hw3⟩:=HW1.out;refine pSq ?_;go_simp;exact hK _ _ rfl rB
     ·simp at ho;subst ho;have e9:av_.tmps.getD 47 undef=.int .i64 nc:=hR.dep ⟨9,.data⟩ (by simp) rfl (by decide) (by decide);refine pSq ?_;go_simp;refine (C7.out w).mono ?_;rintro e w' ⟨rfl,hb⟩;exact hK _ _ (rfl) hb
     ·simp at ho;subst ho;have e4:av_.tmps.getD 42 undef=.agg #[.bool oa.neg,.string (encS oa.num),.string (encS oa.den)]:=hR.dep ⟨4,.data⟩ (by simp) rfl (by decide) (by decide);have e10:av_.tmps.getD 48 undef=.agg #[.bool oc.neg,.string (encS oc.num),.string (encS oc.den)]:=hR.dep ⟨10,.data⟩ (by simp) rfl (by decide) (by decide);refine pSq ?_;go_simp;refine (C10.out w).mono ?_;rintro e w' ⟨rfl,hb⟩;exact hK _ _ (rfl) hb
     ·simp at ho;subst ho;have e11:av_.tmps.getD 49 undef=.tuple #[.agg #[.bool x.neg,.string (encS x.num),.string (encS x.den)],.bool true]:=hR.dep ⟨11,.data⟩ (by simp) rfl (by decide) (by decide);refine pSq ?_;go_simp;exact hK _ _ rfl rB
     ·simp at ho;subst ho;have e12:av_.tmps.getD 37 undef=.tuple #[.agg #[.bool x.neg,.string (encS x.num),.string (encS x.den)],.bool true]:=hR.dep ⟨12,.data⟩ (by simp) rfl (by decide) (by decide);refine pSq ?_;go_simp;exact hK _ _ rfl rB
     ·simp at ho;subst ho;have e12:av_.tmps.getD 37 undef=.tuple #[.agg #[.bool x.neg,.string (encS x.num),.string (encS x.den)],.bool true]:=hR.dep ⟨12,.data⟩ (by simp) rfl (by decide) (by decide);refine pSq ?_;go_simp;exact hK _ _ rfl rB
     ·simp at ho;subst ho;have e14:av_.tmps.getD 51 undef=.bool true:=hR.dep ⟨14,.data⟩ (by simp) rfl (by decide) (by decide);refine pSq ?_;go_simp;exact hK _ _ rfl rB
    ·intro ov_ av_ w ho K hK;simp at ho;subst ho;refine pSq ?_;go_simp;exact hK _ _ _ rfl (Nat.le_refl _) (heap_alloc_new _ _) (rB.alloc (Nat.le_refl _) _)
    ·intro ov_ listed av_ w g hR hv hg hz K hK;have ho:=hR.at_;simp at ho;subst ho;have e15:av_.tmps.getD 7 undef=.pointer (some ⟨g,0,none⟩):=hv;have e13:av_.tmps.getD 50 undef=.agg #[.bool x.neg,.string (encS x.num),.string (encS x.den)]:=hR.dep ⟨13,.data⟩ (by simp) rfl (by decide) (by decide);have cz0:w.cell? ⟨g,0,none⟩=some (.bool false):=by rw [Lib.cell_of_heap hz];rfl
     have fz0:w.frozen? ⟨g,0,none⟩=false:=frz0 hz 0;have cz1:w.cell? ⟨g,1,none⟩=some (.string ⟨#[]⟩):=by rw [Lib.cell_of_heap hz];rfl
     have fz1:w.frozen? ⟨g,1,none⟩=false:=frz0 hz 1;have cz2:w.cell? ⟨g,2,none⟩=some (.string ⟨#[]⟩):=by rw [Lib.cell_of_heap hz];rfl
     have fz2:w.frozen? ⟨g,2,none⟩=false:=frz0 hz 2;refine pSq ?_;go_simp;exact hK _ (by simp [World.setCell,Array.getElem?_modify,hz]) (((rB.setCell (p:=⟨g,0,none⟩) hg (.bool x.neg)).setCell (p:=⟨g,1,none⟩) hg (.string (encS x.num))).setCell (p:=⟨g,2,none⟩) hg (.string (encS x.den)))
    ·intro sv_ w g hS hg0 hge hN hb;have e15:sv_ 7=.pointer (some ⟨g,0,none⟩):=hg0;simp only [over,ovL,Nat.reduceAdd,Nat.reduceLeDiff,Nat.reduceLT];obtain ⟨bk7,hg1⟩:∃b,g=b:=⟨_,rfl⟩;rw [hg1] at e15 hge hN;clear hg1;have HG7_23:Hid (n0≤bk7):=hD (by rw [HN0.out];exact Nat.le_trans HB.out.size hge);have HL7_23:=hD (Nat.lt_of_lt_of_le (Array.getElem?_eq_some_iff.1 HX6_21.out).1 hge);have HX7_23:=hD hN;have hge0:=hge;clear hN hge hg0;have HR5_7_23:=hD (own_ge HO5.out hge0);have HO5:=hD (own_up HO5.out hb);clear hge0;have HX2_1:=uH hb HX2_1;have HX3_2:=uH hb HX3_2;have HX4_4:=uH hb HX4_4;have HX6_21:=uH hb HX6_21;have HB:=mH HB hb;obtain ⟨w19,hw⟩:∃w8,w8=w:=⟨_,rfl⟩;subst hw;rw [e15];clear hS hb e15;have k24:=k1_ (i:=3) (u:=.slice p0 k c0) HX3_2 rfl;obtain ⟨k25a,k25b,k25c⟩:=c3 HX4_4;obtain ⟨k26a,k26b,k26c⟩:=c3 HX7_23
     obtain ⟨W20,bk57,hW20,hbk57,HX57_27,HB,HG57_27,hup⟩:=boxn HB HN0 (.cells #[.bool fk.neg,.string (encS fk.num),.string (encS fk.den),.bool x.neg,.string (encS x.num),.string (encS x.den)] 42);obtain ⟨HO5,HR5_bk57⟩:=allR hW20 hbk57 HO5;have HL57_27:=(hup _ _ HX7_23).2;have HX2_1:=(hup _ _ HX2_1).1;have HX3_2:=(hup _ _ HX3_2).1;have HX4_4:=(hup _ _ HX4_4).1;have HX6_21:=(hup _ _ HX6_21).1;have HX7_23:=(hup _ _ HX7_23).1;clear hup;obtain ⟨v28,w21,hrun28,hO,hkp,hbl,hkg⟩:=app_bkG HO5.out HX57_27.out (one6 _ _ _ _ _ _) (.inl (by have:=(Array.getElem?_eq_some_iff.1 HX4_4.out).1;omega)) (by have:=HLT.out;have:=(madeN_in l).2;omega);have HX2_1:=hkp _ _ HLB2 HX2_1;have HX3_2:=hkp _ _ HLB3 HX3_2;have HX4_4:=hkp _ _ HLB4 HX4_4;have HX6_21:=hkg _ _ HR5_bk6 HX6_21;have HB:=hbl _ _ (by have:=HG4_4.out;have:=HN0.out;omega) HB;have HO5:=hD hO;clear hO hkp hbl hkg
     obtain ⟨p1,c1,hv1⟩:=own_slice HO5.out;subst hv1;have HR5_bk2:=hD (own_old HO5.out HLB2.out);have HR5_bk3:=hD (own_old HO5.out HLB3.out);have HR5_bk4:=hD (own_old HO5.out HLB4.out);obtain ⟨W22,hW22,HX3_2,hs,f29a,k29a⟩:=put4_3_1 HX3_2 (.slice p1 (k+1) c1);have HB:=hs.bel (gN HN0 HG3_2) HB;have HX2_1:=hs.keep _ _ (en1 HL3_2) HX2_1;have HX4_4:=hs.keep _ _ (ne1 HL4_4) HX4_4;have HX6_21:=hs.keep _ _ (ne2 HL4_4 HL6_21) HX6_21;have HO5:=hs.row HO5 HR5_bk3;clear hs;go_wp2_with (first|(at_builtin;refine wpList_append_run rfl (.tmp 53) (.tmp 57) 24 rfl _ _ _ _ rfl rfl hrun28 ?_)|fail);clear k24 k25a k25b k25c k26a k26b k26c hW20 hbk57 hrun28 f29a k29a hW22
     refine wp_region_box (w0:=W22) (by kernel_rfl) (fun ix v _=>v=EMade_own_11_4 bk6 mb nb md nd ob od y ix) 14 15 (.cells #[.bool false,.string ⟨#[]⟩,.string ⟨#[]⟩] 29 (0,0)) (.cells #[.bool y.neg,.string (encS y.num),.string (encS y.den)] 29 (0,0)) (fun t=>(decide (9≤t)&&decide (t<11))||(decide (60≤t)&&decide (t<74))) (by kernel_rfl) (by kernel_rfl) (by kernel_rfl) (by decide) (by decide) (by kernel_rfl) rfl (fun _ _ _ _ _ h=>h) ?_ ?_ ?_ ?_
     ·intro i hi hia his ov_ listed av_ w hR K hK;have ho:=hR.at_;have hi:i<17:=hi;have hii:i=0∨i=1∨i=2∨i=3∨i=4∨i=5∨i=6∨i=7∨i=8∨i=9∨i=10∨i=11∨i=12∨i=13∨i=16:=by omega
      rcases hii with rfl|rfl|rfl|rfl|rfl|rfl|rfl|rfl|rfl|rfl|rfl|rfl|rfl|rfl|rfl
      ·simp at ho;subst ho;have b6:av_.tmps.getD 6 undef=.pointer (some ⟨bk6,0,none⟩):=hR.b 6;refine pSq ?_;go_simp;exact hK _ _ rfl rB
      ·simp at ho;subst ho;have e0:av_.tmps.getD 61 undef=.pointer (some ⟨bk6,1,none⟩):=hR.dep ⟨0,.data⟩ (by simp) rfl (by decide) (by decide);have cx0:w.cell? ⟨bk6,1,none⟩=some (.int .i64 0):=by rw [Lib.cell_of_heap (hpU hR.below HX6_21.out)];rfl
       refine pSq ?_;go_simp;exact hK _ _ rfl rB
      ·simp at ho;subst ho;have e1:av_.tmps.getD 62 undef=.int .i64 0:=hR.dep ⟨1,.data⟩ (by simp) rfl (by decide) (by decide);refine pSq ?_;go_simp;refine (C4.out w).mono ?_;rintro e w' ⟨rfl,hb⟩;exact hK _ _ (rfl) hb
      ·simp at ho;subst ho;have e2:av_.tmps.getD 63 undef=.int .i64 mb:=hR.dep ⟨2,.data⟩ (by simp) rfl (by decide) (by decide);obtain ⟨hw1,hw2⟩:=HW2.out;refine pSq ?_;go_simp;exact hK _ _ rfl rB
      ·simp at ho;subst ho;have e3:av_.tmps.getD 64 undef=.int .i64 nb:=hR.dep ⟨3,.data⟩ (by simp) rfl (by decide) (by decide);refine pSq ?_;go_simp;refine (C8.out w).mono ?_;rintro e w' ⟨rfl,hb⟩;exact hK _ _ (rfl) hb
      ·simp at ho;subst ho;have b6:av_.tmps.getD 6 undef=.pointer (some ⟨bk6,0,none⟩):=hR.b 6;refine pSq ?_;go_simp;exact hK _ _ rfl rB
      ·simp at ho;subst ho;have e5:av_.tmps.getD 66 undef=.pointer (some ⟨bk6,2,none⟩):=hR.dep ⟨5,.data⟩ (by simp) rfl (by decide) (by decide);have cx0:w.cell? ⟨bk6,2,none⟩=some (.int .i64 0):=by rw [Lib.cell_of_heap (hpU hR.below HX6_21.out)];rfl
       refine pSq ?_;go_simp;exact hK _ _ rfl rB
      ·simp at ho;subst ho;have e6:av_.tmps.getD 67 undef=.int .i64 0:=hR.dep ⟨6,.data⟩ (by simp) rfl (by decide) (by decide);refine pSq ?_;go_simp;refine (C5.out w).mono ?_;rintro e w' ⟨rfl,hb⟩;exact hK _ _ (rfl) hb
      ·simp at ho;subst ho;have e7:av_.tmps.getD 68 undef=.int .i64 md:=hR.dep ⟨7,.data⟩ (by simp) rfl (by decide) (by decide);obtain ⟨hw1,hw2⟩:=HW2.out;refine pSq ?_;go_simp;exact hK _ _ rfl rB
      ·simp at ho;subst ho;have e8:av_.tmps.getD 69 undef=.int .i64 nd:=hR.dep ⟨8,.data⟩ (by simp) rfl (by decide) (by decide);refine pSq ?_;go_simp;refine (C9.out w).mono ?_;rintro e w' ⟨rfl,hb⟩;exact hK _ _ (rfl) hb
      ·simp at ho;subst ho;have e4:av_.tmps.getD 65 undef=.agg #[.bool ob.neg,.string (encS ob.num),.string (encS ob.den)]:=hR.dep ⟨4,.data⟩ (by simp) rfl (by decide) (by decide);have e9:av_.tmps.getD 70 undef=.agg #[.bool od.neg,.string (encS od.num),.string (encS od.den)]:=hR.dep ⟨9,.data⟩ (by simp) rfl (by decide) (by decide);refine pSq ?_;go_simp;refine (C11.out w).mono ?_;rintro e w' ⟨rfl,hb⟩;exact hK _ _ (rfl) hb
      ·simp at ho;subst ho;have e10:av_.tmps.getD 71 undef=.tuple #[.agg #[.bool y.neg,.string (encS y.num),.string (encS y.den)],.bool true]:=hR.dep ⟨10,.data⟩ (by simp) rfl (by decide) (by decide);refine pSq ?_;go_simp;exact hK _ _ rfl rB
      ·simp at ho;subst ho;have e11:av_.tmps.getD 60 undef=.tuple #[.agg #[.bool y.neg,.string (encS y.num),.string (encS y.den)],.bool true]:=hR.dep ⟨11,.data⟩ (by simp) rfl (by decide) (by decide);refine pSq ?_;go_simp;exact hK _ _ rfl rB
      ·simp at ho;subst ho;have e11:av_.tmps.getD 60 undef=.tuple #[.agg #[.bool y.neg,.string (encS y.num),.string (encS y.den)],.bool true]:=hR.dep ⟨11,.data⟩ (by simp) rfl (by decide) (by decide);refine pSq ?_;go_simp;exact hK _ _ rfl rB
      ·simp at ho;subst ho;have e13:av_.tmps.getD 73 undef=.bool true:=hR.dep ⟨13,.data⟩ (by simp) rfl (by decide) (by decide);refine pSq ?_;go_simp;exact hK _ _ rfl rB
     ·intro ov_ av_ w ho K hK;simp at ho;subst ho;refine pSq ?_;go_simp;exact hK _ _ _ rfl (Nat.le_refl _) (heap_alloc_new _ _) (rB.alloc (Nat.le_refl _) _)
     ·intro ov_ listed av_ w g hR hv hg hz K hK;have ho:=hR.at_;simp at ho;subst ho;have e14:av_.tmps.getD 9 undef=.pointer (some ⟨g,0,none⟩):=hv;have e12:av_.tmps.getD 72 undef=.agg #[.bool y.neg,.string (encS y.num),.string (encS y.den)]:=hR.dep ⟨12,.data⟩ (by simp) rfl (by decide) (by decide);have cz0:w.cell? ⟨g,0,none⟩=some (.bool false):=by rw [Lib.cell_of_heap hz];rfl
      have fz0:w.frozen? ⟨g,0,none⟩=false:=frz0 hz 0;have cz1:w.cell? ⟨g,1,none⟩=some (.string ⟨#[]⟩):=by rw [Lib.cell_of_heap hz];rfl
      have fz1:w.frozen? ⟨g,1,none⟩=false:=frz0 hz 1;have cz2:w.cell? ⟨g,2,none⟩=some (.string ⟨#[]⟩):=by rw [Lib.cell_of_heap hz];rfl
      have fz2:w.frozen? ⟨g,2,none⟩=false:=frz0 hz 2;refine pSq ?_;go_simp;exact hK _ (by simp [World.setCell,Array.getElem?_modify,hz]) (((rB.setCell (p:=⟨g,0,none⟩) hg (.bool y.neg)).setCell (p:=⟨g,1,none⟩) hg (.string (encS y.num))).setCell (p:=⟨g,2,none⟩) hg (.string (encS y.den)))
     ·intro sv_ w g hS hg0 hge hN hb;have e14:sv_ 9=.pointer (some ⟨g,0,none⟩):=hg0;simp only [over,ovL,Nat.reduceAdd,Nat.reduceLeDiff,Nat.reduceLT];obtain ⟨bk9,hg1⟩:∃b,g=b:=⟨_,rfl⟩;rw [hg1] at e14 hge hN;clear hg1;have HG9_30:Hid (n0≤bk9):=hD (by rw [HN0.out];exact Nat.le_trans HB.out.size hge);have HL9_30:=hD (Nat.lt_of_lt_of_le (Array.getElem?_eq_some_iff.1 HX6_21.out).1 hge);have HX9_30:=hD hN;have hge0:=hge;clear hN hge hg0;have HR5_9_30:=hD (own_ge HO5.out hge0);have HO5:=hD (own_up HO5.out hb);clear hge0;have HX2_1:=uH hb HX2_1;have HX3_2:=uH hb HX3_2;have HX4_4:=uH hb HX4_4;have HX6_21:=uH hb HX6_21;have HB:=mH HB hb;obtain ⟨w23,hw⟩:∃w8,w8=w:=⟨_,rfl⟩;subst hw;rw [e14];clear hS hb e14;obtain ⟨k31a,k31b,k31c⟩:=c3 HX4_4;obtain ⟨k32a,k32b,k32c⟩:=c3 HX9_30;go_wp2_with fail;clear k31a k31b k31c k32a k32b k32c;refine (C12.out _).mono ?_;rintro e w24 ⟨rfl,hb⟩;have HX2_1:=uH hb HX2_1
      have HX3_2:=uH hb HX3_2;have HX4_4:=uH hb HX4_4;have HX6_21:=uH hb HX6_21;have HX9_30:=uH hb HX9_30;have HO5:=hD (own_up HO5.out hb);have HB:=mH HB hb;clear hb;obtain ⟨W25,hW25,HX4_4,hs,f33a,f33b,f33c,k33a,k33b,k33c⟩:=put3_0_3 HX4_4 (.bool f2.neg) (.string (encS f2.num)) (.string (encS f2.den));have HB:=hs.bel (gN HN0 HG4_4) HB;have HX2_1:=hs.keep _ _ (en2 HL3_2 HL4_4) HX2_1;have HX3_2:=hs.keep _ _ (en1 HL4_4) HX3_2;have HX6_21:=hs.keep _ _ (ne1 HL6_21) HX6_21;have HX9_30:=hs.keep _ _ (ne2 HL6_21 HL9_30) HX9_30;have HO5:=hs.row HO5 HR5_bk4;clear hs;have hwi:=HWI.out;go_wp2_with fail;clear f33a f33b f33c k33a k33b k33c hW25 hwi
      go_roundw
      case rel=>exact ⟨k+1,(.slice p1 (k+1) c1),f2,by have:=HLT.out;omega,by first|rfl|go_num,hD (by rw [HSK.out,List.map_append,List.map_singleton,cells6_snoc];exact HO5.out),HF2,HX2_1,HX3_2,HX4_4,HB⟩
      case measure=>have:=HLT.out;simp [intOf];omega
  ·have hge:¬(k:Int)<(madeN l:Int):=by omega
   obtain ⟨p0,c0,rfl⟩:=own_slice HO3.out;have HKN:Hid (k=madeN l):=hD (by omega);have hz:((k:Int)==0)=false:=by have:=(madeN_in l).1;simp;omega
   clear hge hk hlt
   by_cases hkn:k<n
   ·have hlt' :(k:Int)<(n:Int):=by omega
    have hge8:¬(k:Int)<8:=by have h1:=HKN.out;have h2:=HLN.out.2.2;split at h2<;>omega
    clear hkn;have HR3_bk2:=hD (own_old HO3.out HLB2.out);have k34:=k1_ (i:=0) (u:=.string ⟨#[98,97,115,105,99]⟩) HX3_2 rfl;have k35:=k1_ (i:=1) (u:=.int .i64 1) HX3_2 rfl;have k36:=k1_ (i:=2) (u:=.int .i64 0) HX3_2 rfl;have k37:=k1_ (i:=3) (u:=.slice p0 k c0) HX3_2 rfl;obtain ⟨W26,hW26,HX2_1,hs,f38a,f38b,f38c,f38d,k38a,k38b,k38c,k38d⟩:=put4_0_4 HX2_1 (.string ⟨#[98,97,115,105,99]⟩) (.int .i64 1) (.int .i64 0) (.slice p0 k c0);have HB:=hs.bel (gN HN0 HG2_1) HB;have HX3_2:=hs.keep _ _ (ne1 HL3_2) HX3_2;have HX4_4:=hs.keep _ _ (ne2 HL3_2 HL4_4) HX4_4;have HO3:=hs.row HO3 HR3_bk2;clear hs;go_wp2_with fail;clear hlt' hge8 hz k34 k35 k36 k37 f38a f38b f38c f38d k38a k38b k38c k38d hW26;refine bodyPost_ret (results_cell_row rfl _ _ bk2 26 _ (0,0) _ rfl HX2_1.out Tryz.underlying26 rfl (by kernel_rfl)) rfl ?_
    exact ⟨_,rfl,by have e:=HKN.out;subst e;exact own_low HO3.out (by have:=HG4_4.out;omega),by rw [HN0.out];exact HB.out⟩
   ·have hge' :¬(k:Int)<(n:Int):=by omega
    clear hkn;have HR3_bk2:=hD (own_old HO3.out HLB2.out);have k39:=k1_ (i:=0) (u:=.string ⟨#[98,97,115,105,99]⟩) HX3_2 rfl;have k40:=k1_ (i:=1) (u:=.int .i64 1) HX3_2 rfl;have k41:=k1_ (i:=2) (u:=.int .i64 0) HX3_2 rfl;have k42:=k1_ (i:=3) (u:=.slice p0 k c0) HX3_2 rfl;obtain ⟨W27,hW27,HX2_1,hs,f43a,f43b,f43c,f43d,k43a,k43b,k43c,k43d⟩:=put4_0_4 HX2_1 (.string ⟨#[98,97,115,105,99]⟩) (.int .i64 1) (.int .i64 0) (.slice p0 k c0);have HB:=hs.bel (gN HN0 HG2_1) HB;have HX3_2:=hs.keep _ _ (ne1 HL3_2) HX3_2;have HX4_4:=hs.keep _ _ (ne2 HL3_2 HL4_4) HX4_4;have HO3:=hs.row HO3 HR3_bk2;clear hs;go_wp2_with fail;clear hge' hz k39 k40 k41 k42 f43a f43b f43c f43d k43a k43b k43c k43d hW27;refine bodyPost_ret (results_cell_row rfl _ _ bk2 26 _ (0,0) _ rfl HX2_1.out Tryz.underlying26 rfl (by kernel_rfl)) rfl ?_
    exact ⟨_,rfl,by have e:=HKN.out;subst e;exact own_low HO3.out (by have:=HG4_4.out;omega),by rw [HN0.out];exact HB.out⟩
end Go.Proofs.YtblgfmjlajhipaaGreatDoor
