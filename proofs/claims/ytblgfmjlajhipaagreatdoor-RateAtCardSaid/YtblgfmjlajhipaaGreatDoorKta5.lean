/- RateAt: contracts and the law's walk. Each theorem names its conditions. -/
import Derived.Deep.DeepCutAuto
import Derived.Laws.AppendOwn
import Derived.Deep.DeepAppendWide
import Derived.WalkKit
import Derived.Deep.LoopGhost
import Derived.Deep.QuietTactic
import Derived.BigQuiet
import Derived.Test.YtblgfmjlajhipaaGreatDoorProg
import Derived.WalkSpells
import Derived.WalkLawsBesides
import Derived.IntWalk
import Derived.Lib.Hide
import Derived.Laws.BitsAllLaws
import Derived.StillTailTactics
import Derived.Deep.OwnRows
import Derived.Lib.ConvBytes
import Derived.Below
import Derived.Shelf.Strings.Trim
import Derived.Shelf.Small.Utf8
import Derived.Shelf.Small.Bits
import Derived.Shelf.Small.Strs
import Derived.Shelf.Strconv.Itoa0
import Derived.Shelf.Strings.Search1
import Derived.Shelf.Strings.Runes
import Derived.Shelf.Strings.AsciiSet
import Derived.Shelf.Unicode.DecodeSlow
import Derived.Shelf.Unicode.DecodeAny
import Derived.Ground.SlgmProg
import Derived.Shelf.SortM.Plain
import Derived.Shelf.SortM.SortNone
import Derived.Test.YtblgfmjlajhipaaGreatDoorZc1
import Derived.Test.YtblgfmjlajhipaaGreatDoorZc0
import Derived.Test.YtblgfmjlajhipaaGreatDoorZb9
import Derived.Test.YtblgfmjlajhipaaGreatDoorKta4
import Derived.Test.YtblgfmjlajhipaaGreatDoorZb6
import Derived.Test.YtblgfmjlajhipaaGreatDoorKta2
import Derived.Test.YtblgfmjlajhipaaGreatDoorZa1
import Derived.Test.YtblgfmjlajhipaaGreatDoorKta0
import Derived.Test.YtblgfmjlajhipaaGreatDoorZa6
import Derived.Test.YtblgfmjlajhipaaGreatDoorZb5
import Derived.Test.YtblgfmjlajhipaaGreatDoorZa7
import Derived.Test.YtblgfmjlajhipaaGreatDoorZa5
import Derived.Test.YtblgfmjlajhipaaGreatDoorZa4
import Derived.Test.YtblgfmjlajhipaaGreatDoorZa3
import Derived.Test.YtblgfmjlajhipaaGreatDoorZa0
import Derived.Test.YtblgfmjlajhipaaGreatDoorZa2
import Derived.Test.YtblgfmjlajhipaaGreatDoorZc2
set_option maxHeartbeats 16000000
set_option linter.unusedVariables false
namespace Go.Proofs.YtblgfmjlajhipaaGreatDoor
open Go.RowKit Go.Shelf
open Dgt
def EPart_any_2_1 (ca:Nat) (m:List BT) (gl:Nat) (off:Nat) (j:Nat) (k:Nat) (cz:Int) (y:Rt) (fr2:Rt):Nat→Value
 | 0=>.int .i64 (k:Int)
 | 1=>.int .i64 (j:Int)
 | 2=>.slice (some ⟨gl,off,none⟩) m.length ca
 | 3=>.int .i64 (m.length:Int)
 | 4=>.bool true
 | 5=>.bool true
 | 6=>.slice (some ⟨gl,off,none⟩) m.length ca
 | 7=>.int .i64 (k:Int)
 | 8=>.int .i64 (j:Int)
 | 9=>.pointer (some ⟨gl,off+j*6,none⟩)
 | 10=>.pointer (some ⟨gl,off+j*6,none⟩)
 | 11=>.agg #[.bool fr2.neg,.string (encS fr2.num),.string (encS fr2.den)]
 | 12=>.agg #[.bool y.neg,.string (encS y.num),.string (encS y.den)]
 | 13=>.int .i64 cz
 | 14=>.bool false
 | 15=>.bool false
 | _=>undef
def EPart_any_4_2 (ca:Nat) (m:List BT) (gl:Nat) (off:Nat) (k:Nat) (fr:Rt) (df:Rt) (en:Rt):Nat→Value
 | 0=>.agg #[.bool en.neg,.string (encS en.num),.string (encS en.den)]
 | 1=>.slice (some ⟨gl,off,none⟩) m.length ca
 | 2=>.int .i64 (k:Int)
 | 3=>.pointer (some ⟨gl,off+k*6,none⟩)
 | 4=>.pointer (some ⟨gl,off+k*6,none⟩)
 | 5=>.agg #[.bool fr.neg,.string (encS fr.num),.string (encS fr.den)]
 | 6=>.agg #[.bool df.neg,.string (encS df.num),.string (encS df.den)]
 | 7=>undef
 | 8=>undef
 | _=>undef
def EPart_any_2_3 (ca:Nat) (m:List BT) (gl:Nat) (off:Nat) (j:Nat) (k:Nat) (cz:Int) (y:Rt) (fr2:Rt):Nat→Value
 | 0=>.int .i64 (k:Int)
 | 1=>.int .i64 (j:Int)
 | 2=>.slice (some ⟨gl,off,none⟩) m.length ca
 | 3=>.int .i64 (m.length:Int)
 | 4=>.bool true
 | 5=>.bool true
 | 6=>.slice (some ⟨gl,off,none⟩) m.length ca
 | 7=>.int .i64 (k:Int)
 | 8=>.int .i64 (j:Int)
 | 9=>.pointer (some ⟨gl,off+j*6,none⟩)
 | 10=>.pointer (some ⟨gl,off+j*6,none⟩)
 | 11=>.agg #[.bool fr2.neg,.string (encS fr2.num),.string (encS fr2.den)]
 | 12=>.agg #[.bool y.neg,.string (encS y.num),.string (encS y.den)]
 | 13=>.int .i64 cz
 | 14=>.bool true
 | 15=>.bool true
 | _=>undef
def EPart_any_4_4 (ca:Nat) (m:List BT) (gl:Nat) (off:Nat) (k:Nat) (fr:Rt) (df:Rt) (en:Rt):Nat→Value
 | 0=>.agg #[.bool en.neg,.string (encS en.num),.string (encS en.den)]
 | 1=>.slice (some ⟨gl,off,none⟩) m.length ca
 | 2=>.int .i64 (k:Int)
 | 3=>.pointer (some ⟨gl,off+k*6,none⟩)
 | 4=>.pointer (some ⟨gl,off+k*6,none⟩)
 | 5=>.agg #[.bool fr.neg,.string (encS fr.num),.string (encS fr.den)]
 | 6=>.agg #[.bool df.neg,.string (encS df.num),.string (encS df.den)]
 | 7=>undef
 | 8=>undef
 | _=>undef
def EPart_any_2_5 (ca:Nat) (m:List BT) (gl:Nat) (off:Nat) (j:Nat) (k:Nat):Nat→Value
 | 0=>.int .i64 (k:Int)
 | 1=>.int .i64 (j:Int)
 | 2=>.slice (some ⟨gl,off,none⟩) m.length ca
 | 3=>.int .i64 (m.length:Int)
 | 4=>.bool false
 | 5=>.bool false
 | 6=>undef
 | 7=>undef
 | 8=>undef
 | 9=>undef
 | 10=>undef
 | 11=>undef
 | 12=>undef
 | 13=>undef
 | 14=>undef
 | 15=>.bool false
 | _=>undef
def EPart_any_4_6 (ca:Nat) (m:List BT) (gl:Nat) (off:Nat) (k:Nat) (fr:Rt) (df:Rt) (en:Rt):Nat→Value
 | 0=>.agg #[.bool en.neg,.string (encS en.num),.string (encS en.den)]
 | 1=>.slice (some ⟨gl,off,none⟩) m.length ca
 | 2=>.int .i64 (k:Int)
 | 3=>.pointer (some ⟨gl,off+k*6,none⟩)
 | 4=>.pointer (some ⟨gl,off+k*6,none⟩)
 | 5=>.agg #[.bool fr.neg,.string (encS fr.num),.string (encS fr.den)]
 | 6=>.agg #[.bool df.neg,.string (encS df.num),.string (encS df.den)]
 | 7=>undef
 | 8=>undef
 | _=>undef
set_option maxRecDepth 100000 in
theorem Part_any (v:Value) (m:List BT) (y:Rt) (k:Nat) (hS:Sch m) (hy:y.Ok) (hz:Rz y 50) (hk:k<m.length) (wq:World) (hl:LstK wq v (m.map rawB)) :
  Gv 113 #[v,.int .i64 (k:Int),.agg #[.bool y.neg,.string (encS y.num),.string (encS y.den)]] wq (.agg #[.bool (partT m k y).neg,.string (encS (partT m k y).num),.string (encS (partT m k y).den)]):=by
 unfold Gv;obtain ⟨gl,off,ca,rfl,hca2,hla,hca⟩:=hl.openS hS.pos;have HAT:=hD hca;have HLA:=hD hla;have HSC:=hD hS;have HY:=hD hy;have HYZ:=hD hz;have HKN:=hD hk;have HE:=hD (HAT.out k hk);have HPT:=hD (show partT m k y=if sgnR (subR (endT m k y) (frT m k))<0 then ofR 0 else subR (endT m k y) (frT m k) from rfl);have HEN:=hD (show endT m k y=if k+1<m.length∧cmpR (frT m (k+1)) y<0 then frT m (k+1) else y from rfl);have d1:=fun w=>rRatSub_r (IsR.of (end_ok hS hy k) (show Rz (endT m k y) 50 from by unfold endT;split;exact hS.frSz _;exact hz)) (IsR.of (hS.frOk k) (hS.frSz k)) (by decide) (by decide) w
 have d2:=fun w=>rRatSign_r (IsR.of (subR_ok (end_ok hS hy k) (hS.frOk k)) (subR_sz (show Rz (endT m k y) 50 from by unfold endT;split;exact hS.frSz _;exact hz) (hS.frSz k))) (by decide) w
 have d3:=fun w=>rRatOf_any 0 w (by decide) (by decide)
 have HD4:=hD (fun w=>rRatCmp_r (IsR.of (hS.frOk (k+1)) (hS.frSz (k+1))) (IsR.of hy hz) (by decide) (by decide) w);obtain ⟨fr,h1⟩:∃a,frT m k=a:=⟨_,rfl⟩;rw [h1] at d1 d2 HPT HE;obtain ⟨en,h2⟩:∃a,endT m k y=a:=⟨_,rfl⟩;rw [h2] at d1 d2 HPT HEN;obtain ⟨df,h3⟩:∃a,subR en fr=a:=⟨_,rfl⟩;rw [h3] at d1 d2 HPT;obtain ⟨z0,h4⟩:∃a,ofR 0=a:=⟨_,rfl⟩;rw [h4] at d3 HPT;obtain ⟨sg,h5⟩:∃a,sgnR df=a:=⟨_,rfl⟩;rw [h5] at d2 HPT;obtain ⟨rt,h6⟩:∃a,rtT m k=a:=⟨_,rfl⟩;rw [h6] at HE;obtain ⟨P,hP⟩:∃a,partT m k y=a:=⟨_,rfl⟩;rw [hP] at HPT ⊢;have HKW:Hid (IntKind.i64.wrap ((k:Int)+1)=((k+1:Nat):Int)):=hD (by rw [IntWalk.i64_in _ (by omega)];omega);have C1:Hid (∀w,Gv 27 #[rtV en,rtV fr] w (.agg #[.bool df.neg,.string (encS df.num),.string (encS df.den)])):=hD d1;have C2:Hid (∀w,Gv 26 #[rtV df] w (.int .i64 sg)):=hD d2
 have C3:Hid (∀w,Gv 14 #[.int .i64 0] w (.agg #[.bool z0.neg,.string (encS z0.num),.string (encS z0.den)])):=hD d3;clear d1 d2 d3 h1 h2 h3 h4 h5 h6 hP hca hla hl hca2 hS hy hz hk;have HB:=hD (Below.refl wq.heap.size wq);obtain ⟨n0,hn0⟩:∃n,n=wq.heap.size:=⟨_,rfl⟩;rw [←hn0];have HN0:=hD hn0;clear hn0;go_enter Tryz.func113,Tryz.ntmps113;obtain ⟨W1,bk5,hW1,hbk5,HX5_1,HB,HG5_1,hup⟩:=boxR HB HN0 y;clear hup;obtain ⟨W2,bk6,hW2,hbk6,HX6_2,HB,HG6_2,hup⟩:=boxZ HB HN0;have HL6_2:=(hup _ _ HX5_1).2;have HX5_1:=(hup _ _ HX5_1).1;clear hup;obtain ⟨k3a,k3b,k3c⟩:=c3 HX5_1;obtain ⟨W3,bk7,hW3,hbk7,HX7_4,HB,HG7_4,hup⟩:=boxZ HB HN0;have HL7_4:=(hup _ _ HX6_2).2;have HX5_1:=(hup _ _ HX5_1).1;have HX6_2:=(hup _ _ HX6_2).1;clear hup;obtain ⟨W4,hW4,HX7_4,HB,ho,f5a,f5b,f5c,k5a,k5b,k5c⟩:=putR HX7_4 HB HN0 HG7_4 y;have HX5_1:=ho _ _ (en2 HL6_2 HL7_4) HX5_1;have HX6_2:=ho _ _ (en1 HL7_4) HX6_2;clear ho
 go_wp2_with fail;clear hW1 hbk5 hW2 hbk6 k3a k3b k3c hW3 hbk7 f5a f5b f5c k5a k5b k5c hW4
 by_cases hk1:k+1<m.length
 ·have HE2:=hD (HAT.out (k+1) hk1);obtain ⟨j,hj⟩:∃j,k+1=j:=⟨_,rfl⟩;rw [hj] at HE2 HEN HD4 HKW;obtain ⟨fr2,h1⟩:∃a,frT m j=a:=⟨_,rfl⟩;obtain ⟨rt2,h2⟩:∃a,rtT m j=a:=⟨_,rfl⟩;rw [h1] at HEN HD4;rw [h1,h2] at HE2;have d4:=HD4.out;obtain ⟨cz,h3⟩:∃c,cmpR fr2 y=c:=⟨_,rfl⟩;rw [h3] at d4 HEN;have HK1:Hid ((j:Int)<(m.length:Int)∧IntKind.i64.wrap ((k:Int)+1)=(j:Int)):=hD ⟨by omega,HKW.out⟩;have C4:Hid (∀w,Gv 24 #[rtV fr2,rtV y] w (.int .i64 cz)):=hD d4;have HJN:=hD (show j<m.length by omega);clear d4 h1 h2 h3 hk1 hj HD4 HKW;obtain ⟨tz,htz⟩:∃xq,decide (cz<0)=xq:=⟨_,rfl⟩;have Htz:=hD htz;clear htz;cases tz
  case false =>
   refine wpVl (w:=W4) (by kernel_rfl) (fun ix v _=>v=EPart_any_2_1 ca m gl off j k cz y fr2 ix) (fun t=>(decide (10≤t)&&decide (t<26))) (by kernel_rfl) (by kernel_rfl) (by kernel_rfl) (fun _ _ _ _ _ h=>h) ?_ ?_
   ·intro i hi ov_ listed av_ w hR K hK;have ho:=hR.at_;have hi:i<16:=hi;have hii:i=0∨i=1∨i=2∨i=3∨i=4∨i=5∨i=6∨i=7∨i=8∨i=9∨i=10∨i=11∨i=12∨i=13∨i=14∨i=15:=by omega
    rcases hii with rfl|rfl|rfl|rfl|rfl|rfl|rfl|rfl|rfl|rfl|rfl|rfl|rfl|rfl|rfl|rfl<;>(simp at ho;subst ho)
    ·have b1:av_.tmps.getD 1 undef=.int .i64 (k:Int):=hR.b 1;refine pSq ?_;go_simp;exact hK _ _ rfl rB
    ·have e0:av_.tmps.getD 10 undef=.int .i64 (k:Int):=hR.d 0;have hk2:=HK1.out.2;refine pSq ?_;go_simp;exact hK _ _ rfl rB
    ·have b0:av_.tmps.getD 0 undef=.slice (some ⟨gl,off,none⟩) m.length ca:=hR.b 0;refine pSq ?_;go_simp;exact hK _ _ rfl rB
    ·have e2:av_.tmps.getD 12 undef=.slice (some ⟨gl,off,none⟩) m.length ca:=hR.d 2;refine pSq ?_;go_simp;exact hK _ _ rfl rB
    ·have e1:av_.tmps.getD 11 undef=.int .i64 (j:Int):=hR.d 1;have e3:av_.tmps.getD 13 undef=.int .i64 (m.length:Int):=hR.d 3;have hk4:=HK1.out.1;refine pSq ?_;go_simp;exact hK _ _ rfl rB
    ·have e4:av_.tmps.getD 14 undef=.bool true:=hR.d 4;refine pSq ?_;go_simp;exact hK _ _ rfl rB
    ·have e5:av_.tmps.getD 15 undef=.bool true:=hR.g 5;have b0:av_.tmps.getD 0 undef=.slice (some ⟨gl,off,none⟩) m.length ca:=hR.b 0;refine gSq (b:=true) e5 ?_;go_simp;exact hK _ _ rfl rB
    ·have e5:av_.tmps.getD 15 undef=.bool true:=hR.g 5;have b1:av_.tmps.getD 1 undef=.int .i64 (k:Int):=hR.b 1;refine gSq (b:=true) e5 ?_;go_simp;exact hK _ _ rfl rB
    ·have e7:av_.tmps.getD 17 undef=.int .i64 (k:Int):=hR.d 7;have e5:av_.tmps.getD 15 undef=.bool true:=hR.g 5;have hk2:=HK1.out.2;refine gSq (b:=true) e5 ?_;go_simp;exact hK _ _ rfl rB
    ·have e6:av_.tmps.getD 16 undef=.slice (some ⟨gl,off,none⟩) m.length ca:=hR.d 6;have e8:av_.tmps.getD 18 undef=.int .i64 (j:Int):=hR.d 8;have e5:av_.tmps.getD 15 undef=.bool true:=hR.g 5;have hk4:=HK1.out.1;refine gSq (b:=true) e5 ?_;go_simp;exact hK _ _ rfl rB
    ·have e9:av_.tmps.getD 19 undef=.pointer (some ⟨gl,off+j*6,none⟩):=hR.d 9;have e5:av_.tmps.getD 15 undef=.bool true:=hR.g 5;refine gSq (b:=true) e5 ?_;go_simp;exact hK _ _ rfl rB
    ·have e10:av_.tmps.getD 20 undef=.pointer (some ⟨gl,off+j*6,none⟩):=hR.d 10;have e5:av_.tmps.getD 15 undef=.bool true:=hR.g 5;obtain ⟨cx0,cx1,cx2,cx3,cx4,cx5⟩:=HE2.out _ (HB.out.trans (hR.below.mono HB.out.size));refine gSq (b:=true) e5 ?_;go_simp;exact hK _ _ rfl rB
    ·have e5:av_.tmps.getD 15 undef=.bool true:=hR.g 5;have b5:av_.tmps.getD 5 undef=.pointer (some ⟨bk5,0,none⟩):=hR.b 5;obtain ⟨cx0,cx1,cx2⟩:=c3 (uH hR.below HX5_1);refine gSq (b:=true) e5 ?_;go_simp;exact hK _ _ rfl rB
    ·have e11:av_.tmps.getD 21 undef=.agg #[.bool fr2.neg,.string (encS fr2.num),.string (encS fr2.den)]:=hR.d 11;have e12:av_.tmps.getD 22 undef=.agg #[.bool y.neg,.string (encS y.num),.string (encS y.den)]:=hR.d 12;have e5:av_.tmps.getD 15 undef=.bool true:=hR.g 5;refine gSq (b:=true) e5 ?_;go_simp;refine (C4.out w).mono ?_;rintro e w' ⟨rfl,hb⟩;exact hK _ _ (rfl) hb
    ·have e13:av_.tmps.getD 23 undef=.int .i64 cz:=hR.d 13;have e5:av_.tmps.getD 15 undef=.bool true:=hR.g 5;have htz:=Htz.out;refine gSq (b:=true) e5 ?_;go_simp;exact hK _ _ rfl rB
    ·have e5:av_.tmps.getD 15 undef=.bool true:=hR.d 5;have e14:av_.tmps.getD 24 undef=.bool false:=hR.d 14;refine pSq ?_;go_simp;exact hK _ _ rfl rB
   ·intro sv_ w hS hb;have e15:sv_ 25=.bool false:=hS 15 (by decide);simp only [over,ovL,Nat.reduceAdd,Nat.reduceLeDiff,Nat.reduceLT];have HB:=mH HB hb;have HX5_1:=uH hb HX5_1;have HX6_2:=uH hb HX6_2;have HX7_4:=uH hb HX7_4;obtain ⟨w5,hw⟩:∃w8,w8=w:=⟨_,rfl⟩;subst hw;rw [e15];clear hS hb e15;have hen:en=y:=by rw [HEN.out,if_neg (fun h=>absurd h.2 (by have:=Htz.out;simpa using this))]
    subst hen;clear Htz;go_wp2_with fail;refine wp_region_box (w0:=w5) (by kernel_rfl) (fun ix v _=>v=EPart_any_4_2 ca m gl off k fr df en ix) 7 8 (.cells #[.bool false,.string ⟨#[]⟩,.string ⟨#[]⟩] 29 (0,0)) (.cells #[.bool df.neg,.string (encS df.num),.string (encS df.den)] 29 (0,0)) (fun t=>(decide (8≤t)&&decide (t<9))||(decide (32≤t)&&decide (t<39))) (by kernel_rfl) (by kernel_rfl) (by kernel_rfl) (by decide) (by decide) (by kernel_rfl) rfl (fun _ _ _ _ _ h=>h) ?_ ?_ ?_ ?_
    ·intro i hi hia his ov_ listed av_ w hR K hK;have ho:=hR.at_;have hi:i<9:=hi;have hii:i=0∨i=1∨i=2∨i=3∨i=4∨i=5∨i=6:=by omega
     rcases hii with rfl|rfl|rfl|rfl|rfl|rfl|rfl
     ·simp at ho;subst ho;have b7:av_.tmps.getD 7 undef=.pointer (some ⟨bk7,0,none⟩):=hR.b 7;obtain ⟨cx0,cx1,cx2⟩:=c3 (uH hR.below HX7_4);refine pSq ?_;go_simp;exact hK _ _ rfl rB
     ·simp at ho;subst ho;have b0:av_.tmps.getD 0 undef=.slice (some ⟨gl,off,none⟩) m.length ca:=hR.b 0;refine pSq ?_;go_simp;exact hK _ _ rfl rB
     ·simp at ho;subst ho;have b1:av_.tmps.getD 1 undef=.int .i64 (k:Int):=hR.b 1;refine pSq ?_;go_simp;exact hK _ _ rfl rB
     ·simp at ho;subst ho;have e1:av_.tmps.getD 33 undef=.slice (some ⟨gl,off,none⟩) m.length ca:=hR.dep ⟨1,.data⟩ (by simp) rfl (by decide) (by decide);have e2:av_.tmps.getD 34 undef=.int .i64 (k:Int):=hR.dep ⟨2,.data⟩ (by simp) rfl (by decide) (by decide);have hk3:(k:Int)<(m.length:Int):=by have:=HKN.out;omega
      refine pSq ?_;go_simp;exact hK _ _ rfl rB
     ·simp at ho;subst ho;have e3:av_.tmps.getD 35 undef=.pointer (some ⟨gl,off+k*6,none⟩):=hR.dep ⟨3,.data⟩ (by simp) rfl (by decide) (by decide);refine pSq ?_;go_simp;exact hK _ _ rfl rB
     ·simp at ho;subst ho;have e4:av_.tmps.getD 36 undef=.pointer (some ⟨gl,off+k*6,none⟩):=hR.dep ⟨4,.data⟩ (by simp) rfl (by decide) (by decide);obtain ⟨cx0,cx1,cx2,cx3,cx4,cx5⟩:=HE.out _ (HB.out.trans (hR.below.mono HB.out.size));refine pSq ?_;go_simp;exact hK _ _ rfl rB
     ·simp at ho;subst ho;have e0:av_.tmps.getD 32 undef=.agg #[.bool en.neg,.string (encS en.num),.string (encS en.den)]:=hR.dep ⟨0,.data⟩ (by simp) rfl (by decide) (by decide);have e5:av_.tmps.getD 37 undef=.agg #[.bool fr.neg,.string (encS fr.num),.string (encS fr.den)]:=hR.dep ⟨5,.data⟩ (by simp) rfl (by decide) (by decide);refine pSq ?_;go_simp;refine (C1.out w).mono ?_;rintro e w' ⟨rfl,hb⟩;exact hK _ _ (rfl) hb
    ·intro ov_ av_ w ho K hK;simp at ho;subst ho;refine pSq ?_;go_simp;exact hK _ _ _ rfl (Nat.le_refl _) (heap_alloc_new _ _) (rB.alloc (Nat.le_refl _) _)
    ·intro ov_ listed av_ w g hR hv hg hz K hK;have ho:=hR.at_;simp at ho;subst ho;have e7:av_.tmps.getD 8 undef=.pointer (some ⟨g,0,none⟩):=hv;have e6:av_.tmps.getD 38 undef=.agg #[.bool df.neg,.string (encS df.num),.string (encS df.den)]:=hR.dep ⟨6,.data⟩ (by simp) rfl (by decide) (by decide);have cz0:w.cell? ⟨g,0,none⟩=some (.bool false):=by rw [Lib.cell_of_heap hz];rfl
     have fz0:w.frozen? ⟨g,0,none⟩=false:=frz0 hz 0;have cz1:w.cell? ⟨g,1,none⟩=some (.string ⟨#[]⟩):=by rw [Lib.cell_of_heap hz];rfl
     have fz1:w.frozen? ⟨g,1,none⟩=false:=frz0 hz 1;have cz2:w.cell? ⟨g,2,none⟩=some (.string ⟨#[]⟩):=by rw [Lib.cell_of_heap hz];rfl
     have fz2:w.frozen? ⟨g,2,none⟩=false:=frz0 hz 2;refine pSq ?_;go_simp;exact hK _ (by simp [World.setCell,Array.getElem?_modify,hz]) (((rB.setCell (p:=⟨g,0,none⟩) hg (.bool df.neg)).setCell (p:=⟨g,1,none⟩) hg (.string (encS df.num))).setCell (p:=⟨g,2,none⟩) hg (.string (encS df.den)))
    ·intro sv_ w g hS hg0 hge hN hb;have e7:sv_ 8=.pointer (some ⟨g,0,none⟩):=hg0;simp only [over,ovL,Nat.reduceAdd,Nat.reduceLeDiff,Nat.reduceLT];obtain ⟨bk8,hg1⟩:∃b,g=b:=⟨_,rfl⟩;rw [hg1] at e7 hge hN;clear hg1;have HG8_6:Hid (n0≤bk8):=hD (by rw [HN0.out];exact Nat.le_trans HB.out.size hge);have HL8_6:=hD (Nat.lt_of_lt_of_le (Array.getElem?_eq_some_iff.1 HX7_4.out).1 hge);have HX8_6:=hD hN;clear hN hge hg0;have HX5_1:=uH hb HX5_1;have HX6_2:=uH hb HX6_2;have HX7_4:=uH hb HX7_4;have HB:=mH HB hb;obtain ⟨w6,hw⟩:∃w8,w8=w:=⟨_,rfl⟩;subst hw;rw [e7];clear hS hb e7;obtain ⟨tz,htz⟩:∃xq,decide (sg<0)=xq:=⟨_,rfl⟩;have Htz:=hD htz;clear htz;obtain ⟨k7a,k7b,k7c⟩:=c3 HX8_6;go_wp2_with fail;clear k7a k7b k7c;refine (C2.out _).mono ?_;rintro e w7 ⟨rfl,hb⟩;have HX5_1:=uH hb HX5_1;have HX6_2:=uH hb HX6_2;have HX7_4:=uH hb HX7_4;have HX8_6:=uH hb HX8_6;have HB:=mH HB hb;clear hb;cases tz
     case false =>
      have q8:=Htz.out;have hP:P=df:=by rw [HPT.out,if_neg (by have:=Htz.out;simpa using this)]
      subst hP;obtain ⟨k9a,k9b,k9c⟩:=c3 HX8_6;obtain ⟨W8,hW8,HX6_2,HB,ho,f10a,f10b,f10c,k10a,k10b,k10c⟩:=putR HX6_2 HB HN0 HG6_2 P;have HX5_1:=ho _ _ (en1 HL6_2) HX5_1;have HX7_4:=ho _ _ (ne1 HL7_4) HX7_4;have HX8_6:=ho _ _ (ne2 HL7_4 HL8_6) HX8_6;clear ho;go_wp2_with fail;clear q8 k9a k9b k9c f10a f10b f10c k10a k10b k10c hW8;refine bodyPost_ret (rC1 HX6_2.out) rfl ?_;exact ⟨rfl,by rw [HN0.out];exact HB.out⟩
     case true =>
      have q11:=Htz.out;have hP:P=z0:=by rw [HPT.out,if_pos (by have:=Htz.out;simpa using this)]
      subst hP;go_wp2_with fail;clear q11;refine (C3.out _).mono ?_;rintro e w9 ⟨rfl,hb⟩;have HX5_1:=uH hb HX5_1;have HX6_2:=uH hb HX6_2;have HX7_4:=uH hb HX7_4;have HX8_6:=uH hb HX8_6;have HB:=mH HB hb;clear hb;obtain ⟨W10,hW10,HX6_2,HB,ho,f12a,f12b,f12c,k12a,k12b,k12c⟩:=putR HX6_2 HB HN0 HG6_2 P;have HX5_1:=ho _ _ (en1 HL6_2) HX5_1;have HX7_4:=ho _ _ (ne1 HL7_4) HX7_4;have HX8_6:=ho _ _ (ne2 HL7_4 HL8_6) HX8_6;clear ho;go_wp2_with fail;clear f12a f12b f12c k12a k12b k12c hW10;refine bodyPost_ret (rC1 HX6_2.out) rfl ?_;exact ⟨rfl,by rw [HN0.out];exact HB.out⟩
  case true =>
   refine wpVl (w:=W4) (by kernel_rfl) (fun ix v _=>v=EPart_any_2_3 ca m gl off j k cz y fr2 ix) (fun t=>(decide (10≤t)&&decide (t<26))) (by kernel_rfl) (by kernel_rfl) (by kernel_rfl) (fun _ _ _ _ _ h=>h) ?_ ?_
   ·intro i hi ov_ listed av_ w hR K hK;have ho:=hR.at_;have hi:i<16:=hi;have hii:i=0∨i=1∨i=2∨i=3∨i=4∨i=5∨i=6∨i=7∨i=8∨i=9∨i=10∨i=11∨i=12∨i=13∨i=14∨i=15:=by omega
    rcases hii with rfl|rfl|rfl|rfl|rfl|rfl|rfl|rfl|rfl|rfl|rfl|rfl|rfl|rfl|rfl|rfl<;>(simp at ho;subst ho)
    ·have b1:av_.tmps.getD 1 undef=.int .i64 (k:Int):=hR.b 1;refine pSq ?_;go_simp;exact hK _ _ rfl rB
    ·have e0:av_.tmps.getD 10 undef=.int .i64 (k:Int):=hR.d 0;have hk2:=HK1.out.2;refine pSq ?_;go_simp;exact hK _ _ rfl rB
    ·have b0:av_.tmps.getD 0 undef=.slice (some ⟨gl,off,none⟩) m.length ca:=hR.b 0;refine pSq ?_;go_simp;exact hK _ _ rfl rB
    ·have e2:av_.tmps.getD 12 undef=.slice (some ⟨gl,off,none⟩) m.length ca:=hR.d 2;refine pSq ?_;go_simp;exact hK _ _ rfl rB
    ·have e1:av_.tmps.getD 11 undef=.int .i64 (j:Int):=hR.d 1;have e3:av_.tmps.getD 13 undef=.int .i64 (m.length:Int):=hR.d 3;have hk4:=HK1.out.1;refine pSq ?_;go_simp;exact hK _ _ rfl rB
    ·have e4:av_.tmps.getD 14 undef=.bool true:=hR.d 4;refine pSq ?_;go_simp;exact hK _ _ rfl rB
    ·have e5:av_.tmps.getD 15 undef=.bool true:=hR.g 5;have b0:av_.tmps.getD 0 undef=.slice (some ⟨gl,off,none⟩) m.length ca:=hR.b 0;refine gSq (b:=true) e5 ?_;go_simp;exact hK _ _ rfl rB
    ·have e5:av_.tmps.getD 15 undef=.bool true:=hR.g 5;have b1:av_.tmps.getD 1 undef=.int .i64 (k:Int):=hR.b 1;refine gSq (b:=true) e5 ?_;go_simp;exact hK _ _ rfl rB
    ·have e7:av_.tmps.getD 17 undef=.int .i64 (k:Int):=hR.d 7;have e5:av_.tmps.getD 15 undef=.bool true:=hR.g 5;have hk2:=HK1.out.2;refine gSq (b:=true) e5 ?_;go_simp;exact hK _ _ rfl rB
    ·have e6:av_.tmps.getD 16 undef=.slice (some ⟨gl,off,none⟩) m.length ca:=hR.d 6;have e8:av_.tmps.getD 18 undef=.int .i64 (j:Int):=hR.d 8;have e5:av_.tmps.getD 15 undef=.bool true:=hR.g 5;have hk4:=HK1.out.1;refine gSq (b:=true) e5 ?_;go_simp;exact hK _ _ rfl rB
    ·have e9:av_.tmps.getD 19 undef=.pointer (some ⟨gl,off+j*6,none⟩):=hR.d 9;have e5:av_.tmps.getD 15 undef=.bool true:=hR.g 5;refine gSq (b:=true) e5 ?_;go_simp;exact hK _ _ rfl rB
    ·have e10:av_.tmps.getD 20 undef=.pointer (some ⟨gl,off+j*6,none⟩):=hR.d 10;have e5:av_.tmps.getD 15 undef=.bool true:=hR.g 5;obtain ⟨cx0,cx1,cx2,cx3,cx4,cx5⟩:=HE2.out _ (HB.out.trans (hR.below.mono HB.out.size));refine gSq (b:=true) e5 ?_;go_simp;exact hK _ _ rfl rB
    ·have e5:av_.tmps.getD 15 undef=.bool true:=hR.g 5;have b5:av_.tmps.getD 5 undef=.pointer (some ⟨bk5,0,none⟩):=hR.b 5;obtain ⟨cx0,cx1,cx2⟩:=c3 (uH hR.below HX5_1);refine gSq (b:=true) e5 ?_;go_simp;exact hK _ _ rfl rB
    ·have e11:av_.tmps.getD 21 undef=.agg #[.bool fr2.neg,.string (encS fr2.num),.string (encS fr2.den)]:=hR.d 11;have e12:av_.tmps.getD 22 undef=.agg #[.bool y.neg,.string (encS y.num),.string (encS y.den)]:=hR.d 12;have e5:av_.tmps.getD 15 undef=.bool true:=hR.g 5;refine gSq (b:=true) e5 ?_;go_simp;refine (C4.out w).mono ?_;rintro e w' ⟨rfl,hb⟩;exact hK _ _ (rfl) hb
    ·have e13:av_.tmps.getD 23 undef=.int .i64 cz:=hR.d 13;have e5:av_.tmps.getD 15 undef=.bool true:=hR.g 5;have htz:=Htz.out;refine gSq (b:=true) e5 ?_;go_simp;exact hK _ _ rfl rB
    ·have e5:av_.tmps.getD 15 undef=.bool true:=hR.d 5;have e14:av_.tmps.getD 24 undef=.bool true:=hR.d 14;refine pSq ?_;go_simp;exact hK _ _ rfl rB
   ·intro sv_ w hS hb;have e15:sv_ 25=.bool true:=hS 15 (by decide);simp only [over,ovL,Nat.reduceAdd,Nat.reduceLeDiff,Nat.reduceLT];have HB:=mH HB hb;have HX5_1:=uH hb HX5_1;have HX6_2:=uH hb HX6_2;have HX7_4:=uH hb HX7_4;obtain ⟨w11,hw⟩:∃w8,w8=w:=⟨_,rfl⟩;subst hw;rw [e15];clear hS hb e15;have hen:en=fr2:=by rw [HEN.out,if_pos ⟨HJN.out,by have:=Htz.out;simpa using this⟩]
    subst hen;clear Htz;have hk2:=HK1.out.2;have hk4:=HK1.out.1;obtain ⟨k13e0,k13e1,k13e2,k13e3,k13e4,k13e5⟩:=HE2.out _ HB.out;obtain ⟨W12,hW12,HX7_4,HB,ho,f14a,f14b,f14c,k14a,k14b,k14c⟩:=putR HX7_4 HB HN0 HG7_4 en;have HX5_1:=ho _ _ (en2 HL6_2 HL7_4) HX5_1;have HX6_2:=ho _ _ (en1 HL7_4) HX6_2;clear ho;go_wp2_with fail;clear hk2 hk4 k13e0 k13e1 k13e2 k13e3 k13e4 k13e5 f14a f14b f14c k14a k14b k14c hW12;refine wp_region_box (w0:=W12) (by kernel_rfl) (fun ix v _=>v=EPart_any_4_4 ca m gl off k fr df en ix) 7 8 (.cells #[.bool false,.string ⟨#[]⟩,.string ⟨#[]⟩] 29 (0,0)) (.cells #[.bool df.neg,.string (encS df.num),.string (encS df.den)] 29 (0,0)) (fun t=>(decide (8≤t)&&decide (t<9))||(decide (32≤t)&&decide (t<39))) (by kernel_rfl) (by kernel_rfl) (by kernel_rfl) (by decide) (by decide) (by kernel_rfl) rfl (fun _ _ _ _ _ h=>h) ?_ ?_ ?_ ?_
    ·intro i hi hia his ov_ listed av_ w hR K hK;have ho:=hR.at_;have hi:i<9:=hi;have hii:i=0∨i=1∨i=2∨i=3∨i=4∨i=5∨i=6:=by omega
     rcases hii with rfl|rfl|rfl|rfl|rfl|rfl|rfl
     ·simp at ho;subst ho;have b7:av_.tmps.getD 7 undef=.pointer (some ⟨bk7,0,none⟩):=hR.b 7;obtain ⟨cx0,cx1,cx2⟩:=c3 (uH hR.below HX7_4);refine pSq ?_;go_simp;exact hK _ _ rfl rB
     ·simp at ho;subst ho;have b0:av_.tmps.getD 0 undef=.slice (some ⟨gl,off,none⟩) m.length ca:=hR.b 0;refine pSq ?_;go_simp;exact hK _ _ rfl rB
     ·simp at ho;subst ho;have b1:av_.tmps.getD 1 undef=.int .i64 (k:Int):=hR.b 1;refine pSq ?_;go_simp;exact hK _ _ rfl rB
     ·simp at ho;subst ho;have e1:av_.tmps.getD 33 undef=.slice (some ⟨gl,off,none⟩) m.length ca:=hR.dep ⟨1,.data⟩ (by simp) rfl (by decide) (by decide);have e2:av_.tmps.getD 34 undef=.int .i64 (k:Int):=hR.dep ⟨2,.data⟩ (by simp) rfl (by decide) (by decide);have hk3:(k:Int)<(m.length:Int):=by have:=HKN.out;omega
      refine pSq ?_;go_simp;exact hK _ _ rfl rB
     ·simp at ho;subst ho;have e3:av_.tmps.getD 35 undef=.pointer (some ⟨gl,off+k*6,none⟩):=hR.dep ⟨3,.data⟩ (by simp) rfl (by decide) (by decide);refine pSq ?_;go_simp;exact hK _ _ rfl rB
     ·simp at ho;subst ho;have e4:av_.tmps.getD 36 undef=.pointer (some ⟨gl,off+k*6,none⟩):=hR.dep ⟨4,.data⟩ (by simp) rfl (by decide) (by decide);obtain ⟨cx0,cx1,cx2,cx3,cx4,cx5⟩:=HE.out _ (HB.out.trans (hR.below.mono HB.out.size));refine pSq ?_;go_simp;exact hK _ _ rfl rB
     ·simp at ho;subst ho;have e0:av_.tmps.getD 32 undef=.agg #[.bool en.neg,.string (encS en.num),.string (encS en.den)]:=hR.dep ⟨0,.data⟩ (by simp) rfl (by decide) (by decide);have e5:av_.tmps.getD 37 undef=.agg #[.bool fr.neg,.string (encS fr.num),.string (encS fr.den)]:=hR.dep ⟨5,.data⟩ (by simp) rfl (by decide) (by decide);refine pSq ?_;go_simp;refine (C1.out w).mono ?_;rintro e w' ⟨rfl,hb⟩;exact hK _ _ (rfl) hb
    ·intro ov_ av_ w ho K hK;simp at ho;subst ho;refine pSq ?_;go_simp;exact hK _ _ _ rfl (Nat.le_refl _) (heap_alloc_new _ _) (rB.alloc (Nat.le_refl _) _)
    ·intro ov_ listed av_ w g hR hv hg hz K hK;have ho:=hR.at_;simp at ho;subst ho;have e7:av_.tmps.getD 8 undef=.pointer (some ⟨g,0,none⟩):=hv;have e6:av_.tmps.getD 38 undef=.agg #[.bool df.neg,.string (encS df.num),.string (encS df.den)]:=hR.dep ⟨6,.data⟩ (by simp) rfl (by decide) (by decide);have cz0:w.cell? ⟨g,0,none⟩=some (.bool false):=by rw [Lib.cell_of_heap hz];rfl
     have fz0:w.frozen? ⟨g,0,none⟩=false:=frz0 hz 0;have cz1:w.cell? ⟨g,1,none⟩=some (.string ⟨#[]⟩):=by rw [Lib.cell_of_heap hz];rfl
     have fz1:w.frozen? ⟨g,1,none⟩=false:=frz0 hz 1;have cz2:w.cell? ⟨g,2,none⟩=some (.string ⟨#[]⟩):=by rw [Lib.cell_of_heap hz];rfl
     have fz2:w.frozen? ⟨g,2,none⟩=false:=frz0 hz 2;refine pSq ?_;go_simp;exact hK _ (by simp [World.setCell,Array.getElem?_modify,hz]) (((rB.setCell (p:=⟨g,0,none⟩) hg (.bool df.neg)).setCell (p:=⟨g,1,none⟩) hg (.string (encS df.num))).setCell (p:=⟨g,2,none⟩) hg (.string (encS df.den)))
    ·intro sv_ w g hS hg0 hge hN hb;have e7:sv_ 8=.pointer (some ⟨g,0,none⟩):=hg0;simp only [over,ovL,Nat.reduceAdd,Nat.reduceLeDiff,Nat.reduceLT];obtain ⟨bk8,hg1⟩:∃b,g=b:=⟨_,rfl⟩;rw [hg1] at e7 hge hN;clear hg1;have HG8_15:Hid (n0≤bk8):=hD (by rw [HN0.out];exact Nat.le_trans HB.out.size hge);have HL8_15:=hD (Nat.lt_of_lt_of_le (Array.getElem?_eq_some_iff.1 HX7_4.out).1 hge);have HX8_15:=hD hN;clear hN hge hg0;have HX5_1:=uH hb HX5_1;have HX6_2:=uH hb HX6_2;have HX7_4:=uH hb HX7_4;have HB:=mH HB hb;obtain ⟨w13,hw⟩:∃w8,w8=w:=⟨_,rfl⟩;subst hw;rw [e7];clear hS hb e7;obtain ⟨tz,htz⟩:∃xq,decide (sg<0)=xq:=⟨_,rfl⟩;have Htz:=hD htz;clear htz;obtain ⟨k16a,k16b,k16c⟩:=c3 HX8_15;go_wp2_with fail;clear k16a k16b k16c;refine (C2.out _).mono ?_;rintro e w14 ⟨rfl,hb⟩;have HX5_1:=uH hb HX5_1;have HX6_2:=uH hb HX6_2;have HX7_4:=uH hb HX7_4;have HX8_15:=uH hb HX8_15;have HB:=mH HB hb;clear hb;cases tz
     case false =>
      have q17:=Htz.out;have hP:P=df:=by rw [HPT.out,if_neg (by have:=Htz.out;simpa using this)]
      subst hP;obtain ⟨k18a,k18b,k18c⟩:=c3 HX8_15;obtain ⟨W15,hW15,HX6_2,HB,ho,f19a,f19b,f19c,k19a,k19b,k19c⟩:=putR HX6_2 HB HN0 HG6_2 P;have HX5_1:=ho _ _ (en1 HL6_2) HX5_1;have HX7_4:=ho _ _ (ne1 HL7_4) HX7_4;have HX8_15:=ho _ _ (ne2 HL7_4 HL8_15) HX8_15;clear ho;go_wp2_with fail;clear q17 k18a k18b k18c f19a f19b f19c k19a k19b k19c hW15;refine bodyPost_ret (rC1 HX6_2.out) rfl ?_;exact ⟨rfl,by rw [HN0.out];exact HB.out⟩
     case true =>
      have q20:=Htz.out;have hP:P=z0:=by rw [HPT.out,if_pos (by have:=Htz.out;simpa using this)]
      subst hP;go_wp2_with fail;clear q20;refine (C3.out _).mono ?_;rintro e w16 ⟨rfl,hb⟩;have HX5_1:=uH hb HX5_1;have HX6_2:=uH hb HX6_2;have HX7_4:=uH hb HX7_4;have HX8_15:=uH hb HX8_15;have HB:=mH HB hb;clear hb;obtain ⟨W17,hW17,HX6_2,HB,ho,f21a,f21b,f21c,k21a,k21b,k21c⟩:=putR HX6_2 HB HN0 HG6_2 P;have HX5_1:=ho _ _ (en1 HL6_2) HX5_1;have HX7_4:=ho _ _ (ne1 HL7_4) HX7_4;have HX8_15:=ho _ _ (ne2 HL7_4 HL8_15) HX8_15;clear ho;go_wp2_with fail;clear f21a f21b f21c k21a k21b k21c hW17;refine bodyPost_ret (rC1 HX6_2.out) rfl ?_;exact ⟨rfl,by rw [HN0.out];exact HB.out⟩
 ·have hen:en=y:=by rw [HEN.out,if_neg (fun h=>hk1 h.1)]
  subst hen;obtain ⟨j,hj⟩:∃j,k+1=j:=⟨_,rfl⟩;have HK1:Hid (¬(j:Int)<(m.length:Int)∧IntKind.i64.wrap ((k:Int)+1)=(j:Int)):=hD ⟨by omega,by rw [HKW.out,hj]⟩;clear hk1 HD4 HKW hj;refine wpVl (w:=W4) (by kernel_rfl) (fun ix v _=>v=EPart_any_2_5 ca m gl off j k ix) (fun t=>(decide (10≤t)&&decide (t<26))) (by kernel_rfl) (by kernel_rfl) (by kernel_rfl) (fun _ _ _ _ _ h=>h) ?_ ?_
  ·intro i hi ov_ listed av_ w hR K hK;have ho:=hR.at_;have hi:i<16:=hi;have hii:i=0∨i=1∨i=2∨i=3∨i=4∨i=5∨i=6∨i=7∨i=8∨i=9∨i=10∨i=11∨i=12∨i=13∨i=14∨i=15:=by omega
   rcases hii with rfl|rfl|rfl|rfl|rfl|rfl|rfl|rfl|rfl|rfl|rfl|rfl|rfl|rfl|rfl|rfl<;>(simp at ho;subst ho)
   ·have b1:av_.tmps.getD 1 undef=.int .i64 (k:Int):=hR.b 1;refine pSq ?_;go_simp;exact hK _ _ rfl rB
   ·have e0:av_.tmps.getD 10 undef=.int .i64 (k:Int):=hR.d 0;have hk2:=HK1.out.2;refine pSq ?_;go_simp;exact hK _ _ rfl rB
   ·have b0:av_.tmps.getD 0 undef=.slice (some ⟨gl,off,none⟩) m.length ca:=hR.b 0;refine pSq ?_;go_simp;exact hK _ _ rfl rB
   ·have e2:av_.tmps.getD 12 undef=.slice (some ⟨gl,off,none⟩) m.length ca:=hR.d 2;refine pSq ?_;go_simp;exact hK _ _ rfl rB
   ·have e1:av_.tmps.getD 11 undef=.int .i64 (j:Int):=hR.d 1;have e3:av_.tmps.getD 13 undef=.int .i64 (m.length:Int):=hR.d 3;have hk4:=HK1.out.1;refine pSq ?_;go_simp;exact hK _ _ rfl rB
   ·have e4:av_.tmps.getD 14 undef=.bool false:=hR.d 4;refine pSq ?_;go_simp;exact hK _ _ rfl rB
   ·have e5:av_.tmps.getD 15 undef=.bool false:=hR.g 5;refine gSkp rfl rfl rfl (b:=true) e5 (by decide) ?_;exact hK _ _ rfl rB
   ·have e5:av_.tmps.getD 15 undef=.bool false:=hR.g 5;refine gSkp rfl rfl rfl (b:=true) e5 (by decide) ?_;exact hK _ _ rfl rB
   ·have e5:av_.tmps.getD 15 undef=.bool false:=hR.g 5;refine gSkp rfl rfl rfl (b:=true) e5 (by decide) ?_;exact hK _ _ rfl rB
   ·have e5:av_.tmps.getD 15 undef=.bool false:=hR.g 5;refine gSkp rfl rfl rfl (b:=true) e5 (by decide) ?_;exact hK _ _ rfl rB
   ·have e5:av_.tmps.getD 15 undef=.bool false:=hR.g 5;refine gSkp rfl rfl rfl (b:=true) e5 (by decide) ?_;exact hK _ _ rfl rB
   ·have e5:av_.tmps.getD 15 undef=.bool false:=hR.g 5;refine gSkp rfl rfl rfl (b:=true) e5 (by decide) ?_;exact hK _ _ rfl rB
   ·have e5:av_.tmps.getD 15 undef=.bool false:=hR.g 5;refine gSkp rfl rfl rfl (b:=true) e5 (by decide) ?_;exact hK _ _ rfl rB
   ·have e5:av_.tmps.getD 15 undef=.bool false:=hR.g 5;refine gSkp rfl rfl rfl (b:=true) e5 (by decide) ?_;exact hK _ _ rfl rB
   ·have e5:av_.tmps.getD 15 undef=.bool false:=hR.g 5;refine gSkp rfl rfl rfl (b:=true) e5 (by decide) ?_;exact hK _ _ rfl rB
   ·have e5:av_.tmps.getD 15 undef=.bool false:=hR.d 5;have e14:av_.tmps.getD 24 undef=undef:=hR.d 14;refine pSq ?_;go_simp;exact hK _ _ rfl rB
  ·intro sv_ w hS hb;have e15:sv_ 25=.bool false:=hS 15 (by decide);simp only [over,ovL,Nat.reduceAdd,Nat.reduceLeDiff,Nat.reduceLT];have HB:=mH HB hb;have HX5_1:=uH hb HX5_1;have HX6_2:=uH hb HX6_2;have HX7_4:=uH hb HX7_4;obtain ⟨w18,hw⟩:∃w8,w8=w:=⟨_,rfl⟩;subst hw;rw [e15];clear hS hb e15;go_wp2_with fail;refine wp_region_box (w0:=w18) (by kernel_rfl) (fun ix v _=>v=EPart_any_4_6 ca m gl off k fr df en ix) 7 8 (.cells #[.bool false,.string ⟨#[]⟩,.string ⟨#[]⟩] 29 (0,0)) (.cells #[.bool df.neg,.string (encS df.num),.string (encS df.den)] 29 (0,0)) (fun t=>(decide (8≤t)&&decide (t<9))||(decide (32≤t)&&decide (t<39))) (by kernel_rfl) (by kernel_rfl) (by kernel_rfl) (by decide) (by decide) (by kernel_rfl) rfl (fun _ _ _ _ _ h=>h) ?_ ?_ ?_ ?_
   ·intro i hi hia his ov_ listed av_ w hR K hK;have ho:=hR.at_;have hi:i<9:=hi;have hii:i=0∨i=1∨i=2∨i=3∨i=4∨i=5∨i=6:=by omega
    rcases hii with rfl|rfl|rfl|rfl|rfl|rfl|rfl
    ·simp at ho;subst ho;have b7:av_.tmps.getD 7 undef=.pointer (some ⟨bk7,0,none⟩):=hR.b 7;obtain ⟨cx0,cx1,cx2⟩:=c3 (uH hR.below HX7_4);refine pSq ?_;go_simp;exact hK _ _ rfl rB
    ·simp at ho;subst ho;have b0:av_.tmps.getD 0 undef=.slice (some ⟨gl,off,none⟩) m.length ca:=hR.b 0;refine pSq ?_;go_simp;exact hK _ _ rfl rB
    ·simp at ho;subst ho;have b1:av_.tmps.getD 1 undef=.int .i64 (k:Int):=hR.b 1;refine pSq ?_;go_simp;exact hK _ _ rfl rB
    ·simp at ho;subst ho;have e1:av_.tmps.getD 33 undef=.slice (some ⟨gl,off,none⟩) m.length ca:=hR.dep ⟨1,.data⟩ (by simp) rfl (by decide) (by decide);have e2:av_.tmps.getD 34 undef=.int .i64 (k:Int):=hR.dep ⟨2,.data⟩ (by simp) rfl (by decide) (by decide);have hk3:(k:Int)<(m.length:Int):=by have:=HKN.out;omega
     refine pSq ?_;go_simp;exact hK _ _ rfl rB
    ·simp at ho;subst ho;have e3:av_.tmps.getD 35 undef=.pointer (some ⟨gl,off+k*6,none⟩):=hR.dep ⟨3,.data⟩ (by simp) rfl (by decide) (by decide);refine pSq ?_;go_simp;exact hK _ _ rfl rB
    ·simp at ho;subst ho;have e4:av_.tmps.getD 36 undef=.pointer (some ⟨gl,off+k*6,none⟩):=hR.dep ⟨4,.data⟩ (by simp) rfl (by decide) (by decide);obtain ⟨cx0,cx1,cx2,cx3,cx4,cx5⟩:=HE.out _ (HB.out.trans (hR.below.mono HB.out.size));refine pSq ?_;go_simp;exact hK _ _ rfl rB
    ·simp at ho;subst ho;have e0:av_.tmps.getD 32 undef=.agg #[.bool en.neg,.string (encS en.num),.string (encS en.den)]:=hR.dep ⟨0,.data⟩ (by simp) rfl (by decide) (by decide);have e5:av_.tmps.getD 37 undef=.agg #[.bool fr.neg,.string (encS fr.num),.string (encS fr.den)]:=hR.dep ⟨5,.data⟩ (by simp) rfl (by decide) (by decide);refine pSq ?_;go_simp;refine (C1.out w).mono ?_;rintro e w' ⟨rfl,hb⟩;exact hK _ _ (rfl) hb
   ·intro ov_ av_ w ho K hK;simp at ho;subst ho;refine pSq ?_;go_simp;exact hK _ _ _ rfl (Nat.le_refl _) (heap_alloc_new _ _) (rB.alloc (Nat.le_refl _) _)
   ·intro ov_ listed av_ w g hR hv hg hz K hK;have ho:=hR.at_;simp at ho;subst ho;have e7:av_.tmps.getD 8 undef=.pointer (some ⟨g,0,none⟩):=hv;have e6:av_.tmps.getD 38 undef=.agg #[.bool df.neg,.string (encS df.num),.string (encS df.den)]:=hR.dep ⟨6,.data⟩ (by simp) rfl (by decide) (by decide);have cz0:w.cell? ⟨g,0,none⟩=some (.bool false):=by rw [Lib.cell_of_heap hz];rfl
    have fz0:w.frozen? ⟨g,0,none⟩=false:=frz0 hz 0;have cz1:w.cell? ⟨g,1,none⟩=some (.string ⟨#[]⟩):=by rw [Lib.cell_of_heap hz];rfl
    have fz1:w.frozen? ⟨g,1,none⟩=false:=frz0 hz 1;have cz2:w.cell? ⟨g,2,none⟩=some (.string ⟨#[]⟩):=by rw [Lib.cell_of_heap hz];rfl
    have fz2:w.frozen? ⟨g,2,none⟩=false:=frz0 hz 2;refine pSq ?_;go_simp;exact hK _ (by simp [World.setCell,Array.getElem?_modify,hz]) (((rB.setCell (p:=⟨g,0,none⟩) hg (.bool df.neg)).setCell (p:=⟨g,1,none⟩) hg (.string (encS df.num))).setCell (p:=⟨g,2,none⟩) hg (.string (encS df.den)))
   ·intro sv_ w g hS hg0 hge hN hb;have e7:sv_ 8=.pointer (some ⟨g,0,none⟩):=hg0;simp only [over,ovL,Nat.reduceAdd,Nat.reduceLeDiff,Nat.reduceLT];obtain ⟨bk8,hg1⟩:∃b,g=b:=⟨_,rfl⟩;rw [hg1] at e7 hge hN;clear hg1;have HG8_22:Hid (n0≤bk8):=hD (by rw [HN0.out];exact Nat.le_trans HB.out.size hge);have HL8_22:=hD (Nat.lt_of_lt_of_le (Array.getElem?_eq_some_iff.1 HX7_4.out).1 hge);have HX8_22:=hD hN;clear hN hge hg0;have HX5_1:=uH hb HX5_1;have HX6_2:=uH hb HX6_2;have HX7_4:=uH hb HX7_4;have HB:=mH HB hb;obtain ⟨w19,hw⟩:∃w8,w8=w:=⟨_,rfl⟩;subst hw;rw [e7];clear hS hb e7;obtain ⟨tz,htz⟩:∃xq,decide (sg<0)=xq:=⟨_,rfl⟩;have Htz:=hD htz;clear htz;obtain ⟨k23a,k23b,k23c⟩:=c3 HX8_22;go_wp2_with fail;clear k23a k23b k23c;refine (C2.out _).mono ?_;rintro e w20 ⟨rfl,hb⟩;have HX5_1:=uH hb HX5_1;have HX6_2:=uH hb HX6_2;have HX7_4:=uH hb HX7_4;have HX8_22:=uH hb HX8_22;have HB:=mH HB hb;clear hb;cases tz
    case false =>
     have q24:=Htz.out;have hP:P=df:=by rw [HPT.out,if_neg (by have:=Htz.out;simpa using this)]
     subst hP;obtain ⟨k25a,k25b,k25c⟩:=c3 HX8_22;obtain ⟨W21,hW21,HX6_2,HB,ho,f26a,f26b,f26c,k26a,k26b,k26c⟩:=putR HX6_2 HB HN0 HG6_2 P;have HX5_1:=ho _ _ (en1 HL6_2) HX5_1;have HX7_4:=ho _ _ (ne1 HL7_4) HX7_4;have HX8_22:=ho _ _ (ne2 HL7_4 HL8_22) HX8_22;clear ho;go_wp2_with fail;clear q24 k25a k25b k25c f26a f26b f26c k26a k26b k26c hW21;refine bodyPost_ret (rC1 HX6_2.out) rfl ?_;exact ⟨rfl,by rw [HN0.out];exact HB.out⟩
    case true =>
     have q27:=Htz.out;have hP:P=z0:=by rw [HPT.out,if_pos (by have:=Htz.out;simpa using this)]
     subst hP;go_wp2_with fail;clear q27;refine (C3.out _).mono ?_;rintro e w22 ⟨rfl,hb⟩;have HX5_1:=uH hb HX5_1;have HX6_2:=uH hb HX6_2;have HX7_4:=uH hb HX7_4;have HX8_22:=uH hb HX8_22;have HB:=mH HB hb;clear hb;obtain ⟨W23,hW23,HX6_2,HB,ho,f28a,f28b,f28c,k28a,k28b,k28c⟩:=putR HX6_2 HB HN0 HG6_2 P;have HX5_1:=ho _ _ (en1 HL6_2) HX5_1;have HX7_4:=ho _ _ (ne1 HL7_4) HX7_4;have HX8_22:=ho _ _ (ne2 HL7_4 HL8_22) HX8_22;clear ho;go_wp2_with fail;clear f28a f28b f28c k28a k28b k28c hW23;refine bodyPost_ret (rC1 HX6_2.out) rfl ?_;exact ⟨rfl,by rw [HN0.out];exact HB.out⟩
def EValue_any_5_1 (ca:Nat) (m:List BT) (gl:Nat) (off:Nat) (k:Nat) (y:Rt) (rt:Rt) (sm:Rt) (pt:Rt) (pr:Rt) (s2:Rt) (bk2:Nat):Nat→Value
 | 0=>.agg #[.bool sm.neg,.string (encS sm.num),.string (encS sm.den)]
 | 1=>.pointer (some ⟨bk2,3,none⟩)
 | 2=>.slice (some ⟨gl,off,none⟩) m.length ca
 | 3=>.int .i64 (k:Int)
 | 4=>.pointer (some ⟨gl,off+k*6,none⟩)
 | 5=>.pointer (some ⟨gl,off+k*6+3,none⟩)
 | 6=>.agg #[.bool rt.neg,.string (encS rt.num),.string (encS rt.den)]
 | 7=>.pointer (some ⟨bk2,3,none⟩)
 | 8=>.slice (some ⟨gl,off,none⟩) m.length ca
 | 9=>.int .i64 (k:Int)
 | 10=>.agg #[.bool y.neg,.string (encS y.num),.string (encS y.den)]
 | 11=>.agg #[.bool pt.neg,.string (encS pt.num),.string (encS pt.den)]
 | 12=>.agg #[.bool pr.neg,.string (encS pr.num),.string (encS pr.den)]
 | 13=>.agg #[.bool s2.neg,.string (encS s2.num),.string (encS s2.den)]
 | _=>undef
set_option maxRecDepth 100000 in
theorem Value_any (nm:ByteArray) (um ud:Int) (v:Value) (m:List BT) (y:Rt) (hS:Sch m) (hy:y.Ok) (hz:Rz y 50) (wq:World) (hl:LstK wq v (m.map rawB)) :
  Gv 84 #[.agg #[.string nm,.int .i64 um,.int .i64 ud,v],.agg #[.bool y.neg,.string (encS y.num),.string (encS y.den)]] wq (.agg #[.bool (valT m y m.length).neg,.string (encS (valT m y m.length).num),.string (encS (valT m y m.length).den)]):=by
 unfold Gv;have HLK:=hD hl;obtain ⟨gl,off,ca,rfl,hca2,hla,hca⟩:=hl.openS hS.pos;have HAT:=hD hca;have HLA:=hD hla;have HSC:=hD hS;have HY:=hD (And.intro hy hz);have d3:=fun w=>rRatOf_any 0 w (by decide) (by decide)
 rw [show ofR 0=valT m y 0 from rfl] at d3;obtain ⟨z0,h4⟩:∃a,valT m y 0=a:=⟨_,rfl⟩;rw [h4] at d3;have HZ0:=hD h4;have C1:Hid (∀w,Gv 14 #[.int .i64 0] w (.agg #[.bool z0.neg,.string (encS z0.num),.string (encS z0.den)])):=hD d3;clear d3 h4 hca hla hl hca2 hS hy hz;have HB:=hD (Below.refl wq.heap.size wq);obtain ⟨n0,hn0⟩:∃n,n=wq.heap.size:=⟨_,rfl⟩;rw [←hn0];have HN0:=hD hn0;clear hn0;go_enter Tryz.func84,Tryz.ntmps84;obtain ⟨W1,bk2,hW1,hbk2,HX2_1,HB,HG2_1,hup⟩:=boxn HB HN0 (.cells #[.string nm,.int .i64 um,.int .i64 ud,.slice (some ⟨gl,off,none⟩) m.length ca] 26);clear hup;obtain ⟨W2,bk3,hW2,hbk3,HX3_2,HB,HG3_2,hup⟩:=boxR HB HN0 y;have HL3_2:=(hup _ _ HX2_1).2;have HX2_1:=(hup _ _ HX2_1).1;clear hup;obtain ⟨W3,bk4,hW3,hbk4,HX4_3,HB,HG4_3,hup⟩:=boxZ HB HN0;have HL4_3:=(hup _ _ HX3_2).2;have HX2_1:=(hup _ _ HX2_1).1;have HX3_2:=(hup _ _ HX3_2).1;clear hup;go_wp2_with fail
 clear hW1 hbk2 hW2 hbk3 hW3 hbk4;refine (C1.out _).mono ?_;rintro e w4 ⟨rfl,hb⟩;have HX2_1:=uH hb HX2_1;have HX3_2:=uH hb HX3_2;have HX4_3:=uH hb HX4_3;have HB:=mH HB hb;clear hb;obtain ⟨W5,bk5,hW5,hbk5,HX5_4,HB,HG5_4,hup⟩:=boxZ HB HN0;have HL5_4:=(hup _ _ HX4_3).2;have HX2_1:=(hup _ _ HX2_1).1;have HX3_2:=(hup _ _ HX3_2).1;have HX4_3:=(hup _ _ HX4_3).1;clear hup;obtain ⟨W6,hW6,HX5_4,HB,ho,f5a,f5b,f5c,k5a,k5b,k5c⟩:=putR HX5_4 HB HN0 HG5_4 z0;have HX2_1:=ho _ _ (en3 HL3_2 HL4_3 HL5_4) HX2_1;have HX3_2:=ho _ _ (en2 HL4_3 HL5_4) HX3_2;have HX4_3:=ho _ _ (en1 HL5_4) HX4_3;clear ho;go_wp2_with fail;clear hW5 hbk5 f5a f5b f5c k5a k5b k5c hW6
 go_loopw [6] (fun u6 wr=>∃(k:Nat) (sm:Rt),k≤m.length∧u6=.int .i64 (k:Int)∧Hid (valT m y k=sm)∧Hid (wr.heap[bk2]? =some (.cells #[.string nm,.int .i64 um,.int .i64 ud,.slice (some ⟨gl,off,none⟩) m.length ca] 26 (0,0)))∧Hid (wr.heap[bk3]? =some (.cells #[.bool y.neg,.string (encS y.num),.string (encS y.den)] 29 (0,0)))∧Hid (wr.heap[bk4]? =some (.cells #[.bool false,.string ⟨#[]⟩,.string ⟨#[]⟩] 29 (0,0)))∧Hid (wr.heap[bk5]? =some (.cells #[.bool sm.neg,.string (encS sm.num),.string (encS sm.den)] 29 (0,0)))∧Hid (Below wq.heap.size wq wr)) (fun u6 _=>m.length-(intOf u6).toNat)
 case atStart=>exact ⟨0,z0,by omega,by first|rfl|go_num,HZ0,HX2_1,HX3_2,HX4_3,HX5_4,HB⟩
 case round =>
  obtain ⟨k,sm,hk,rfl,HSM,HX2_1,HX3_2,HX4_3,HX5_4,HB⟩:=hrel
  by_cases hlt:k<m.length
  ·have hlt' :(k:Int)<(m.length:Int):=by omega
   have HE:=hD (HAT.out k hlt);have hs:=HSC.out;have hy:=HY.out.1;have hz:=HY.out.2;have c1:=fun w h=>Part_any (.slice (some ⟨gl,off,none⟩) m.length ca) m y k hs hy hz hlt w (HLK.out.up h)
   have hpo:=part_ok hs hy k;have hpz:=part_sz hs hz k;have c2:=fun w=>rRatMul_r (IsR.of (hs.rtOk k) ((hs.rtSz k).mono (show 50≤101 by decide))) (IsR.of hpo hpz) (by decide) (by decide) w
   have hk8:k≤8:=by have:=hs.le;omega
   have c3:=fun w=>rRatAdd_r (IsR.of (val_ok hs hy k) ((val_sz hs hz k).mono (show 8+152*k≤5000 by omega))) (IsR.of (mulR_ok (hs.rtOk k) hpo) ((mulR_sz (hs.rtSz k) hpz).mono (show _≤5000 by decide))) (by decide) (by decide) w
   have HST:Hid (valT m y (k+1)=addR (valT m y k) (mulR (rtT m k) (partT m k y))):=hD rfl;rw [HSM.out] at c3 HST;obtain ⟨fr,h1⟩:∃a,frT m k=a:=⟨_,rfl⟩;obtain ⟨rt,h2⟩:∃a,rtT m k=a:=⟨_,rfl⟩;rw [h1,h2] at HE;rw [h2] at c2 c3 HST;obtain ⟨pt,h3⟩:∃a,partT m k y=a:=⟨_,rfl⟩;rw [h3] at c1 c2 c3 HST;obtain ⟨pr,h4⟩:∃a,mulR rt pt=a:=⟨_,rfl⟩;rw [h4] at c2 c3 HST;obtain ⟨s2,h5⟩:∃a,addR sm pr=a:=⟨_,rfl⟩;rw [h5] at c3 HST;have HLT:=hD hlt;have C2:Hid (∀w,Below wq.heap.size wq w→Gv 113 #[.slice (some ⟨gl,off,none⟩) m.length ca,.int .i64 (k:Int),rtV y] w (.agg #[.bool pt.neg,.string (encS pt.num),.string (encS pt.den)])):=hD fun w hp0=>c1 w hp0
   have C3:Hid (∀w,Gv 28 #[rtV rt,rtV pt] w (.agg #[.bool pr.neg,.string (encS pr.num),.string (encS pr.den)])):=hD c2;have C4:Hid (∀w,Gv 19 #[rtV sm,rtV pr] w (.agg #[.bool s2.neg,.string (encS s2.num),.string (encS s2.den)])):=hD c3;clear c1 c2 c3 hs hy hz hpo hpz hk8 h1 h2 h3 h4 h5 hlt hk HSM;have HWI:Hid (IntKind.i64.wrap ((k:Int)+1)=((k+1:Nat):Int)):=hD (by rw [IntWalk.i64_in _ (by have:=HLT.out;have:=HLA.out;omega)];omega);have k6:wr.cell? ⟨bk2,3,none⟩=some (.slice (some ⟨gl,off,none⟩) m.length ca):=by rw [Lib.cell_of_heap HX2_1.out];rfl
   go_wp2_with fail;clear hlt' k6;refine wpTl (w:=wr) (by kernel_rfl) (fun ix v _=>v=EValue_any_5_1 ca m gl off k y rt sm pt pr s2 bk2 ix) 14 (fun t=>(decide (15≤t)&&decide (t<29))) (by decide) (by kernel_rfl) (by kernel_rfl) (by kernel_rfl) (by kernel_rfl) (by kernel_rfl) (fun _ _ _ _ _ h=>h) ?_ ?_
   ·intro i hi ov_ listed av_ w hR K hK;have ho:=hR.at_;have hi:i<14:=hi;have hii:i=0∨i=1∨i=2∨i=3∨i=4∨i=5∨i=6∨i=7∨i=8∨i=9∨i=10∨i=11∨i=12∨i=13:=by omega
    rcases hii with rfl|rfl|rfl|rfl|rfl|rfl|rfl|rfl|rfl|rfl|rfl|rfl|rfl|rfl<;>(simp at ho;subst ho)
    ·have b5:av_.tmps.getD 5 undef=.pointer (some ⟨bk5,0,none⟩):=hR.b 5;obtain ⟨cx0,cx1,cx2⟩:=c3 (uH hR.below HX5_4);refine pSq ?_;go_simp;exact hK _ _ rfl rB
    ·have b2:av_.tmps.getD 2 undef=.pointer (some ⟨bk2,0,none⟩):=hR.b 2;refine pSq ?_;go_simp;exact hK _ _ rfl rB
    ·have e1:av_.tmps.getD 16 undef=.pointer (some ⟨bk2,3,none⟩):=hR.t 1;have cx0:w.cell? ⟨bk2,3,none⟩=some (.slice (some ⟨gl,off,none⟩) m.length ca):=by rw [Lib.cell_of_heap (hpU hR.below HX2_1.out)];rfl
     refine pSq ?_;go_simp;exact hK _ _ rfl rB
    ·have b6:av_.tmps.getD 6 undef=.int .i64 (k:Int):=hR.b 6;refine pSq ?_;go_simp;exact hK _ _ rfl rB
    ·have e2:av_.tmps.getD 17 undef=.slice (some ⟨gl,off,none⟩) m.length ca:=hR.t 2;have e3:av_.tmps.getD 18 undef=.int .i64 (k:Int):=hR.t 3;have hk3:(k:Int)<(m.length:Int):=by have:=HLT.out;omega
     refine pSq ?_;go_simp;exact hK _ _ rfl rB
    ·have e4:av_.tmps.getD 19 undef=.pointer (some ⟨gl,off+k*6,none⟩):=hR.t 4;refine pSq ?_;go_simp;exact hK _ _ rfl rB
    ·have e5:av_.tmps.getD 20 undef=.pointer (some ⟨gl,off+k*6+3,none⟩):=hR.t 5;obtain ⟨cx0,cx1,cx2,cx3,cx4,cx5⟩:=HE.out _ (HB.out.trans (hR.below.mono HB.out.size));refine pSq ?_;go_simp;exact hK _ _ rfl rB
    ·have b2:av_.tmps.getD 2 undef=.pointer (some ⟨bk2,0,none⟩):=hR.b 2;refine pSq ?_;go_simp;exact hK _ _ rfl rB
    ·have e7:av_.tmps.getD 22 undef=.pointer (some ⟨bk2,3,none⟩):=hR.t 7;have cx0:w.cell? ⟨bk2,3,none⟩=some (.slice (some ⟨gl,off,none⟩) m.length ca):=by rw [Lib.cell_of_heap (hpU hR.below HX2_1.out)];rfl
     refine pSq ?_;go_simp;exact hK _ _ rfl rB
    ·have b6:av_.tmps.getD 6 undef=.int .i64 (k:Int):=hR.b 6;refine pSq ?_;go_simp;exact hK _ _ rfl rB
    ·have b3:av_.tmps.getD 3 undef=.pointer (some ⟨bk3,0,none⟩):=hR.b 3;obtain ⟨cx0,cx1,cx2⟩:=c3 (uH hR.below HX3_2);refine pSq ?_;go_simp;exact hK _ _ rfl rB
    ·have e8:av_.tmps.getD 23 undef=.slice (some ⟨gl,off,none⟩) m.length ca:=hR.t 8;have e9:av_.tmps.getD 24 undef=.int .i64 (k:Int):=hR.t 9;have e10:av_.tmps.getD 25 undef=.agg #[.bool y.neg,.string (encS y.num),.string (encS y.den)]:=hR.t 10;refine pSq ?_;go_simp;refine (C2.out w (HB.out.trans (hR.below.mono HB.out.size))).mono ?_;rintro e w' ⟨rfl,hb⟩;exact hK _ _ (rfl) hb
    ·have e6:av_.tmps.getD 21 undef=.agg #[.bool rt.neg,.string (encS rt.num),.string (encS rt.den)]:=hR.t 6;have e11:av_.tmps.getD 26 undef=.agg #[.bool pt.neg,.string (encS pt.num),.string (encS pt.den)]:=hR.t 11;refine pSq ?_;go_simp;refine (C3.out w).mono ?_;rintro e w' ⟨rfl,hb⟩;exact hK _ _ (rfl) hb
    ·have e0:av_.tmps.getD 15 undef=.agg #[.bool sm.neg,.string (encS sm.num),.string (encS sm.den)]:=hR.t 0;have e12:av_.tmps.getD 27 undef=.agg #[.bool pr.neg,.string (encS pr.num),.string (encS pr.den)]:=hR.t 12;refine pSq ?_;go_simp;refine (C4.out w).mono ?_;rintro e w' ⟨rfl,hb⟩;exact hK _ _ (rfl) hb
   ·intro sv_ w hS hb;have e13:sv_ 28=.agg #[.bool s2.neg,.string (encS s2.num),.string (encS s2.den)]:=hS 13 (by decide);simp only [over,ovL,Nat.reduceAdd,Nat.reduceLeDiff,Nat.reduceLT];have HX2_1:=uH hb HX2_1;have HX3_2:=uH hb HX3_2;have HX4_3:=uH hb HX4_3;have HX5_4:=uH hb HX5_4;have HB:=mH HB hb;obtain ⟨w7,hw⟩:∃w8,w8=w:=⟨_,rfl⟩;subst hw;rw [e13];clear hS hb e13;obtain ⟨W8,hW8,HX5_4,HB,ho,f7a,f7b,f7c,k7a,k7b,k7c⟩:=putR HX5_4 HB HN0 HG5_4 s2;have HX2_1:=ho _ _ (en3 HL3_2 HL4_3 HL5_4) HX2_1;have HX3_2:=ho _ _ (en2 HL4_3 HL5_4) HX3_2;have HX4_3:=ho _ _ (en1 HL5_4) HX4_3;clear ho;refine tail_step (n:=0) rfl rfl ?_;go_simp
    try rw [hW8]
    clear f7a f7b f7c k7a k7b k7c hW8;simp only [wpTail];have hwi:=HWI.out;go_wp2_with fail;clear hwi
    go_roundw
    case rel=>exact ⟨k+1,s2,by have:=HLT.out;omega,by first|rfl|go_num,HST,HX2_1,HX3_2,HX4_3,HX5_4,HB⟩
    case measure=>have:=HLT.out;simp [intOf];omega
  ·have hge:¬(k:Int)<(m.length:Int):=by omega
   obtain rfl:k=m.length:=by omega
   skip
   have k8:wr.cell? ⟨bk2,3,none⟩=some (.slice (some ⟨gl,off,none⟩) m.length ca):=by rw [Lib.cell_of_heap HX2_1.out];rfl
   obtain ⟨k9a,k9b,k9c⟩:=c3 HX5_4;obtain ⟨W9,hW9,HX4_3,HB,ho,f10a,f10b,f10c,k10a,k10b,k10c⟩:=putR HX4_3 HB HN0 HG4_3 sm;have HX2_1:=ho _ _ (en2 HL3_2 HL4_3) HX2_1;have HX3_2:=ho _ _ (en1 HL4_3) HX3_2;have HX5_4:=ho _ _ (ne1 HL5_4) HX5_4;clear ho;go_wp2_with fail;clear hge k8 k9a k9b k9c f10a f10b f10c k10a k10b k10c hW9;refine bodyPost_ret (rC1 HX4_3.out) rfl ?_;exact ⟨by rw [HSM.out],by rw [HN0.out];exact HB.out⟩
end Go.Proofs.YtblgfmjlajhipaaGreatDoor
