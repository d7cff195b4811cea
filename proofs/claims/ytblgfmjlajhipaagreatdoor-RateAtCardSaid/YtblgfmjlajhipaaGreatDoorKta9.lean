/- RateAt: contracts and the law's walk. Each theorem names its conditions. -/
import Derived.RangeFuncKeeps
import Derived.OwnWalkIn
import Derived.TacticsInMore
import Derived.LoopNIn
import Derived.LoopIn
import Derived.Shelf.SortM.Plain
import Derived.Shelf.SortM.SortNone
import Derived.Ground.GgzProg
import Derived.Ground.SlgmProg
import Derived.Maps.Own
import Derived.Maps.OwnOps
import Derived.Maps.OwnSet
import Derived.Maps.Views
import Derived.Shelf.SlIterI.Nil
import Derived.WalkKit
import Derived.Deep.LoopGhost
import Derived.Deep.QuietTactic
import Derived.BigQuiet
import Derived.Test.YtblgfmjlajhipaaGreatDoorProg
import Derived.WalkSpells
import Derived.WalkLawsBesides
import Derived.IntWalk
import Derived.Lib.Hide
import Derived.Laws.BitsAllLaws
import Derived.StillTailTactics
import Derived.Deep.OwnRows
import Derived.Lib.ConvBytes
import Derived.Below
import Derived.Shelf.Strings.Trim
import Derived.Shelf.Small.Utf8
import Derived.Shelf.Small.Bits
import Derived.Shelf.Small.Strs
import Derived.Shelf.Strconv.Itoa0
import Derived.Shelf.Strings.Search1
import Derived.Shelf.Strings.Runes
import Derived.Shelf.Strings.AsciiSet
import Derived.Shelf.Unicode.DecodeSlow
import Derived.Shelf.Unicode.DecodeAny
import Derived.Laws.AppendOwn
import Derived.Deep.DeepAppendWide
import Derived.Test.YtblgfmjlajhipaaGreatDoorZd1
import Derived.Test.YtblgfmjlajhipaaGreatDoorZd0
import Derived.Test.YtblgfmjlajhipaaGreatDoorZc8
import Derived.Test.YtblgfmjlajhipaaGreatDoorZc7
import Derived.Test.YtblgfmjlajhipaaGreatDoorZc6
import Derived.Test.YtblgfmjlajhipaaGreatDoorZb7
import Derived.Test.YtblgfmjlajhipaaGreatDoorZb5
import Derived.Test.YtblgfmjlajhipaaGreatDoorZa6
import Derived.Test.YtblgfmjlajhipaaGreatDoorKta2
import Derived.Test.YtblgfmjlajhipaaGreatDoorZb4
import Derived.Test.YtblgfmjlajhipaaGreatDoorZa7
import Derived.Test.YtblgfmjlajhipaaGreatDoorZa5
import Derived.Test.YtblgfmjlajhipaaGreatDoorZa4
import Derived.Test.YtblgfmjlajhipaaGreatDoorZa3
import Derived.Test.YtblgfmjlajhipaaGreatDoorZa0
import Derived.Test.YtblgfmjlajhipaaGreatDoorZa1
import Derived.Test.YtblgfmjlajhipaaGreatDoorKta0
import Derived.Test.YtblgfmjlajhipaaGreatDoorZa2
import Derived.Test.YtblgfmjlajhipaaGreatDoorZb6
import Derived.Test.YtblgfmjlajhipaaGreatDoorZc5
import Derived.Test.YtblgfmjlajhipaaGreatDoorZc4
import Derived.Test.YtblgfmjlajhipaaGreatDoorKta8
import Derived.Test.YtblgfmjlajhipaaGreatDoorZb9
import Derived.Test.YtblgfmjlajhipaaGreatDoorKta4
import Derived.Test.YtblgfmjlajhipaaGreatDoorZc9
set_option maxHeartbeats 16000000
set_option linter.unusedVariables false
namespace Go.Proofs.YtblgfmjlajhipaaGreatDoor
open Go.RowKit Go.Shelf
open Dgt
def Eagrees_any_4_1 (nm:ByteArray) (um:Int) (ud:Int) (sl:Value) (x:Rw) (ya:Rw) (ym:Rw) (yi:Rw) (ca:Int) (cm:Int) (ci:Int) (ck:Int) (R:Bool):Nat→Value
 | 0=>.agg #[.string nm,.int .i64 um,.int .i64 ud,sl]
 | 1=>.agg #[.bool x.neg,.string x.n,.string x.d]
 | 2=>.agg #[.bool ya.neg,.string ya.n,.string ya.d]
 | 3=>.int .i64 ca
 | 4=>.bool true
 | 5=>.bool true
 | 6=>.agg #[.string nm,.int .i64 um,.int .i64 ud,sl]
 | 7=>.agg #[.bool x.neg,.string x.n,.string x.d]
 | 8=>.agg #[.bool ym.neg,.string ym.n,.string ym.d]
 | 9=>.int .i64 cm
 | 10=>.bool true
 | 11=>.bool true
 | 12=>.bool true
 | 13=>.agg #[.string nm,.int .i64 um,.int .i64 ud,sl]
 | 14=>.agg #[.bool x.neg,.string x.n,.string x.d]
 | 15=>.agg #[.bool yi.neg,.string yi.n,.string yi.d]
 | 16=>.int .i64 ci
 | 17=>.bool true
 | 18=>.bool true
 | 19=>.bool true
 | 20=>.agg #[.string nm,.int .i64 um,.int .i64 ud,sl]
 | 21=>.int .i64 ck
 | 22=>.agg #[.string nm,.int .i64 um,.int .i64 ud,sl]
 | 23=>.int .i64 ck
 | 24=>.bool true
 | 25=>.bool true
 | 26=>.bool true
 | 27=>.agg #[.string nm,.int .i64 um,.int .i64 ud,sl]
 | 28=>.bool R
 | 29=>.agg #[.string nm,.int .i64 um,.int .i64 ud,sl]
 | 30=>.bool R
 | 31=>.bool true
 | 32=>.bool true
 | 33=>.bool true
 | _=>undef
set_option maxRecDepth 100000 in
theorem agrees_any (nm:ByteArray) (um ud:Int) (sl:Value) (l:List Bk) (x:Rw) (hz:SzK l 1100000) (hx:x.n.size≤1100000∧x.d.size≤1100000) (wq:World) (hl:LstK wq sl l) :
  Gv 13 #[.agg #[.string nm,.int .i64 um,.int .i64 ud,sl],.agg #[.bool x.neg,.string x.n,.string x.d]] wq (.bool true):=by
 unfold Gv;have HL:=hD hl;have HZ:=hD hz;obtain ⟨ya,ca,ha⟩:∃y c,atV l x=(y,c):=⟨_,_,rfl⟩;obtain ⟨ym,cm,hm⟩:∃y c,margV l x=(y,c):=⟨_,_,rfl⟩;obtain ⟨yi,ci,hi⟩:∃y c,invV l x=(y,c):=⟨_,_,rfl⟩;obtain ⟨ck,hK⟩:∃c,ckB l=c:=⟨_,rfl⟩;obtain ⟨R,hR⟩:∃c,riseV l=c:=⟨_,rfl⟩;have a1:=fun w h=>rAt_any nm um ud sl l x HZ.out hx w (HL.out.up h)
 have a2:=fun w h=>rMarginal_any nm um ud sl l x HZ.out hx w (HL.out.up h)
 have a3:=fun w h=>rInverse_any nm um ud sl l x HZ.out hx w (HL.out.up h)
 have b1:=fun w h=>lat_any nm um ud sl l x ya ca HZ.out hx ha w (HL.out.up h)
 have b2:=fun w h=>lmarg_any nm um ud sl l x ym cm HZ.out hx hm w (HL.out.up h)
 have b3:=fun w h=>linv_any nm um ud sl l x yi ci HZ.out hx hi w (HL.out.up h)
 have d1:=fun w h=>Check_any nm um ud sl l HZ.out w (HL.out.up h)
 have d2:=fun w h=>rCheck_any nm um ud sl l HZ.out w (HL.out.up h)
 have d3:=fun w h=>Rising_any nm um ud sl l HZ.out w (HL.out.up h)
 have d4:=fun w h=>rRising_any nm um ud sl l HZ.out w (HL.out.up h)
 rw [ha] at a1;rw [hm] at a2;rw [hi] at a3;rw [hK] at d1 d2;rw [hR] at d3 d4;clear hl hz hx ha hm hi hK hR;have C1:Hid (∀w,Below wq.heap.size wq w→Gv 42 #[.agg #[.string nm,.int .i64 um,.int .i64 ud,sl],.agg #[.bool x.neg,.string x.n,.string x.d]] w (.tuple #[.agg #[.bool ya.neg,.string ya.n,.string ya.d],.int .i64 ca])):=hD fun w hp0=>a1 w hp0
 have C2:Hid (∀w,Below wq.heap.size wq w→Gv 43 #[.agg #[.string nm,.int .i64 um,.int .i64 ud,sl],.agg #[.bool x.neg,.string x.n,.string x.d]] w (.tuple #[.agg #[.bool ym.neg,.string ym.n,.string ym.d],.int .i64 cm])):=hD fun w hp0=>a2 w hp0
 have C3:Hid (∀w,Below wq.heap.size wq w→Gv 44 #[.agg #[.string nm,.int .i64 um,.int .i64 ud,sl],.agg #[.bool x.neg,.string x.n,.string x.d]] w (.tuple #[.agg #[.bool yi.neg,.string yi.n,.string yi.d],.int .i64 ci])):=hD fun w hp0=>a3 w hp0
 have C4:Hid (∀w,Below wq.heap.size wq w→Gv 30 #[.agg #[.string nm,.int .i64 um,.int .i64 ud,sl],.agg #[.bool x.neg,.string x.n,.string x.d],.agg #[.bool ya.neg,.string ya.n,.string ya.d],.int .i64 ca] w (.bool true)):=hD fun w hp0=>b1 w hp0
 have C5:Hid (∀w,Below wq.heap.size wq w→Gv 41 #[.agg #[.string nm,.int .i64 um,.int .i64 ud,sl],.agg #[.bool x.neg,.string x.n,.string x.d],.agg #[.bool ym.neg,.string ym.n,.string ym.d],.int .i64 cm] w (.bool true)):=hD fun w hp0=>b2 w hp0
 have C6:Hid (∀w,Below wq.heap.size wq w→Gv 31 #[.agg #[.string nm,.int .i64 um,.int .i64 ud,sl],.agg #[.bool x.neg,.string x.n,.string x.d],.agg #[.bool yi.neg,.string yi.n,.string yi.d],.int .i64 ci] w (.bool true)):=hD fun w hp0=>b3 w hp0
 have C7:Hid (∀w,Below wq.heap.size wq w→Gv 22 #[.agg #[.string nm,.int .i64 um,.int .i64 ud,sl]] w (.int .i64 ck)):=hD fun w hp0=>d1 w hp0
 have C8:Hid (∀w,Below wq.heap.size wq w→Gv 45 #[.agg #[.string nm,.int .i64 um,.int .i64 ud,sl]] w (.int .i64 ck)):=hD fun w hp0=>d2 w hp0
 have C9:Hid (∀w,Below wq.heap.size wq w→Gv 23 #[.agg #[.string nm,.int .i64 um,.int .i64 ud,sl]] w (.bool R)):=hD fun w hp0=>d3 w hp0
 have C10:Hid (∀w,Below wq.heap.size wq w→Gv 46 #[.agg #[.string nm,.int .i64 um,.int .i64 ud,sl]] w (.bool R)):=hD fun w hp0=>d4 w hp0
 clear a1 a2 a3 b1 b2 b3 d1 d2 d3 d4;have HB:=hD (Below.refl wq.heap.size wq);obtain ⟨n0,hn0⟩:∃n,n=wq.heap.size:=⟨_,rfl⟩;rw [←hn0];have HN0:=hD hn0;clear hn0;go_enter Tryz.func13,Tryz.ntmps13;obtain ⟨W1,bk2,hW1,hbk2,HX2_1,HB,HG2_1,hup⟩:=boxn HB HN0 (.cells #[.string nm,.int .i64 um,.int .i64 ud,sl] 26);clear hup;obtain ⟨W2,bk3,hW2,hbk3,HX3_2,HB,HG3_2,hup⟩:=boxn HB HN0 (.cells #[.bool x.neg,.string x.n,.string x.d] 29);have HL3_2:=(hup _ _ HX2_1).2;have HX2_1:=(hup _ _ HX2_1).1;clear hup;have k3:W2.cell? ⟨bk2,0,none⟩=some (.string nm):=by rw [Lib.cell_of_heap HX2_1.out];rfl
 have k4:W2.cell? ⟨bk2,1,none⟩=some (.int .i64 um):=by rw [Lib.cell_of_heap HX2_1.out];rfl
 have k5:W2.cell? ⟨bk2,2,none⟩=some (.int .i64 ud):=by rw [Lib.cell_of_heap HX2_1.out];rfl
 have k6:W2.cell? ⟨bk2,3,none⟩=some (sl):=by rw [Lib.cell_of_heap HX2_1.out];rfl
 obtain ⟨k7a,k7b,k7c⟩:=c3 HX3_2;go_wp2_with fail;clear hW1 hbk2 hW2 hbk3 k3 k4 k5 k6 k7a k7b k7c;refine (C1.out _ HB.out).mono ?_;rintro e w3 ⟨rfl,hb⟩;have HX2_1:=uH hb HX2_1;have HX3_2:=uH hb HX3_2;have HB:=mH HB hb;clear hb;obtain ⟨W4,bk5,hW4,hbk5,HX5_8,HB,HG5_8,hup⟩:=boxZ HB HN0;have HL5_8:=(hup _ _ HX3_2).2;have HX2_1:=(hup _ _ HX2_1).1;have HX3_2:=(hup _ _ HX3_2).1;clear hup;obtain ⟨W5,hW5,HX5_8,HB,ho,f9a,f9b,f9c,k9a,k9b,k9c⟩:=put3 HX5_8 HB HN0 HG5_8 (.bool ya.neg) (.string ya.n) (.string ya.d);have HX2_1:=ho _ _ (en2 HL3_2 HL5_8) HX2_1;have HX3_2:=ho _ _ (en1 HL5_8) HX3_2;clear ho;have k10:W5.cell? ⟨bk2,0,none⟩=some (.string nm):=by rw [Lib.cell_of_heap HX2_1.out];rfl
 have k11:W5.cell? ⟨bk2,1,none⟩=some (.int .i64 um):=by rw [Lib.cell_of_heap HX2_1.out];rfl
 have k12:W5.cell? ⟨bk2,2,none⟩=some (.int .i64 ud):=by rw [Lib.cell_of_heap HX2_1.out];rfl
 have k13:W5.cell? ⟨bk2,3,none⟩=some (sl):=by rw [Lib.cell_of_heap HX2_1.out];rfl
 obtain ⟨k14a,k14b,k14c⟩:=c3 HX3_2;go_wp2_with fail;clear hW4 hbk5 f9a f9b f9c k9a k9b k9c hW5 k10 k11 k12 k13 k14a k14b k14c;refine (C2.out _ HB.out).mono ?_;rintro e w6 ⟨rfl,hb⟩;have HX2_1:=uH hb HX2_1;have HX3_2:=uH hb HX3_2;have HX5_8:=uH hb HX5_8;have HB:=mH HB hb;clear hb;obtain ⟨W7,bk7,hW7,hbk7,HX7_15,HB,HG7_15,hup⟩:=boxZ HB HN0;have HL7_15:=(hup _ _ HX5_8).2;have HX2_1:=(hup _ _ HX2_1).1;have HX3_2:=(hup _ _ HX3_2).1;have HX5_8:=(hup _ _ HX5_8).1;clear hup;obtain ⟨W8,hW8,HX7_15,HB,ho,f16a,f16b,f16c,k16a,k16b,k16c⟩:=put3 HX7_15 HB HN0 HG7_15 (.bool ym.neg) (.string ym.n) (.string ym.d);have HX2_1:=ho _ _ (en3 HL3_2 HL5_8 HL7_15) HX2_1;have HX3_2:=ho _ _ (en2 HL5_8 HL7_15) HX3_2;have HX5_8:=ho _ _ (en1 HL7_15) HX5_8;clear ho;have k17:W8.cell? ⟨bk2,0,none⟩=some (.string nm):=by rw [Lib.cell_of_heap HX2_1.out];rfl
 have k18:W8.cell? ⟨bk2,1,none⟩=some (.int .i64 um):=by rw [Lib.cell_of_heap HX2_1.out];rfl
 have k19:W8.cell? ⟨bk2,2,none⟩=some (.int .i64 ud):=by rw [Lib.cell_of_heap HX2_1.out];rfl
 have k20:W8.cell? ⟨bk2,3,none⟩=some (sl):=by rw [Lib.cell_of_heap HX2_1.out];rfl
 obtain ⟨k21a,k21b,k21c⟩:=c3 HX3_2;go_wp2_with fail;clear hW7 hbk7 f16a f16b f16c k16a k16b k16c hW8 k17 k18 k19 k20 k21a k21b k21c;refine (C3.out _ HB.out).mono ?_;rintro e w9 ⟨rfl,hb⟩;have HX2_1:=uH hb HX2_1;have HX3_2:=uH hb HX3_2;have HX5_8:=uH hb HX5_8;have HX7_15:=uH hb HX7_15;have HB:=mH HB hb;clear hb;obtain ⟨W10,bk9,hW10,hbk9,HX9_22,HB,HG9_22,hup⟩:=boxZ HB HN0;have HL9_22:=(hup _ _ HX7_15).2;have HX2_1:=(hup _ _ HX2_1).1;have HX3_2:=(hup _ _ HX3_2).1;have HX5_8:=(hup _ _ HX5_8).1;have HX7_15:=(hup _ _ HX7_15).1;clear hup;obtain ⟨W11,hW11,HX9_22,HB,ho,f23a,f23b,f23c,k23a,k23b,k23c⟩:=put3 HX9_22 HB HN0 HG9_22 (.bool yi.neg) (.string yi.n) (.string yi.d);have HX2_1:=ho _ _ (en4 HL3_2 HL5_8 HL7_15 HL9_22) HX2_1;have HX3_2:=ho _ _ (en3 HL5_8 HL7_15 HL9_22) HX3_2;have HX5_8:=ho _ _ (en2 HL7_15 HL9_22) HX5_8;have HX7_15:=ho _ _ (en1 HL9_22) HX7_15;clear ho;go_wp2_with fail
 clear hW10 hbk9 f23a f23b f23c k23a k23b k23c hW11;refine wpVl (w:=W11) (by kernel_rfl) (fun ix v _=>v=Eagrees_any_4_1 nm um ud sl x ya ym yi ca cm ci ck R ix) (fun t=>(decide (4≤t)&&decide (t<5))||(decide (29≤t)&&decide (t<62))) (by kernel_rfl) (by kernel_rfl) (by kernel_rfl) (fun _ _ _ _ _ h=>h) ?_ ?_
 ·intro i hi ov_ listed av_ w hR K hK;have ho:=hR.at_;have hi:i<34:=hi;have hii:i=0∨i=1∨i=2∨i=3∨i=4∨i=5∨i=6∨i=7∨i=8∨i=9∨i=10∨i=11∨i=12∨i=13∨i=14∨i=15∨i=16∨i=17∨i=18∨i=19∨i=20∨i=21∨i=22∨i=23∨i=24∨i=25∨i=26∨i=27∨i=28∨i=29∨i=30∨i=31∨i=32∨i=33:=by omega
  rcases hii with rfl|rfl|rfl|rfl|rfl|rfl|rfl|rfl|rfl|rfl|rfl|rfl|rfl|rfl|rfl|rfl|rfl|rfl|rfl|rfl|rfl|rfl|rfl|rfl|rfl|rfl|rfl|rfl|rfl|rfl|rfl|rfl|rfl|rfl<;>(simp at ho;subst ho)
  ·have b2:av_.tmps.getD 2 undef=.pointer (some ⟨bk2,0,none⟩):=hR.b 2;have cx0:w.cell? ⟨bk2,0,none⟩=some (.string nm):=by rw [Lib.cell_of_heap (hpU hR.below HX2_1.out)];rfl
   have cx1:w.cell? ⟨bk2,1,none⟩=some (.int .i64 um):=by rw [Lib.cell_of_heap (hpU hR.below HX2_1.out)];rfl
   have cx2:w.cell? ⟨bk2,2,none⟩=some (.int .i64 ud):=by rw [Lib.cell_of_heap (hpU hR.below HX2_1.out)];rfl
   have cx3:w.cell? ⟨bk2,3,none⟩=some (sl):=by rw [Lib.cell_of_heap (hpU hR.below HX2_1.out)];rfl
   refine pSq ?_;go_simp;exact hK _ _ rfl rB
  ·have b3:av_.tmps.getD 3 undef=.pointer (some ⟨bk3,0,none⟩):=hR.b 3;obtain ⟨cx0,cx1,cx2⟩:=c3 (uH hR.below HX3_2);refine pSq ?_;go_simp;exact hK _ _ rfl rB
  ·have b5:av_.tmps.getD 5 undef=.pointer (some ⟨bk5,0,none⟩):=hR.b 5;obtain ⟨cx0,cx1,cx2⟩:=c3 (uH hR.below HX5_8);refine pSq ?_;go_simp;exact hK _ _ rfl rB
  ·have b6:av_.tmps.getD 6 undef=.int .i64 ca:=hR.b 6;refine pSq ?_;go_simp;exact hK _ _ rfl rB
  ·have e0:av_.tmps.getD 29 undef=.agg #[.string nm,.int .i64 um,.int .i64 ud,sl]:=hR.d 0;have e1:av_.tmps.getD 30 undef=.agg #[.bool x.neg,.string x.n,.string x.d]:=hR.d 1;have e2:av_.tmps.getD 31 undef=.agg #[.bool ya.neg,.string ya.n,.string ya.d]:=hR.d 2;have e3:av_.tmps.getD 32 undef=.int .i64 ca:=hR.d 3;refine pSq ?_;go_simp;refine (C4.out w (HB.out.trans (hR.below.mono HB.out.size))).mono ?_;rintro e w' ⟨rfl,hb⟩;exact hK _ _ (rfl) hb
  ·have e4:av_.tmps.getD 33 undef=.bool true:=hR.d 4;refine pSq ?_;go_simp;exact hK _ _ rfl rB
  ·have e5:av_.tmps.getD 34 undef=.bool true:=hR.g 5;have b2:av_.tmps.getD 2 undef=.pointer (some ⟨bk2,0,none⟩):=hR.b 2;have cx0:w.cell? ⟨bk2,0,none⟩=some (.string nm):=by rw [Lib.cell_of_heap (hpU hR.below HX2_1.out)];rfl
   have cx1:w.cell? ⟨bk2,1,none⟩=some (.int .i64 um):=by rw [Lib.cell_of_heap (hpU hR.below HX2_1.out)];rfl
   have cx2:w.cell? ⟨bk2,2,none⟩=some (.int .i64 ud):=by rw [Lib.cell_of_heap (hpU hR.below HX2_1.out)];rfl
   have cx3:w.cell? ⟨bk2,3,none⟩=some (sl):=by rw [Lib.cell_of_heap (hpU hR.below HX2_1.out)];rfl
   refine gSq (b:=true) e5 ?_;go_simp;exact hK _ _ rfl rB
  ·have e5:av_.tmps.getD 34 undef=.bool true:=hR.g 5;have b3:av_.tmps.getD 3 undef=.pointer (some ⟨bk3,0,none⟩):=hR.b 3;obtain ⟨cx0,cx1,cx2⟩:=c3 (uH hR.below HX3_2);refine gSq (b:=true) e5 ?_;go_simp;exact hK _ _ rfl rB
  ·have e5:av_.tmps.getD 34 undef=.bool true:=hR.g 5;have b7:av_.tmps.getD 7 undef=.pointer (some ⟨bk7,0,none⟩):=hR.b 7;obtain ⟨cx0,cx1,cx2⟩:=c3 (uH hR.below HX7_15);refine gSq (b:=true) e5 ?_;go_simp;exact hK _ _ rfl rB
  ·have e5:av_.tmps.getD 34 undef=.bool true:=hR.g 5;have b8:av_.tmps.getD 8 undef=.int .i64 cm:=hR.b 8;refine gSq (b:=true) e5 ?_;go_simp;exact hK _ _ rfl rB
  ·have e6:av_.tmps.getD 35 undef=.agg #[.string nm,.int .i64 um,.int .i64 ud,sl]:=hR.d 6;have e7:av_.tmps.getD 36 undef=.agg #[.bool x.neg,.string x.n,.string x.d]:=hR.d 7;have e8:av_.tmps.getD 37 undef=.agg #[.bool ym.neg,.string ym.n,.string ym.d]:=hR.d 8;have e9:av_.tmps.getD 38 undef=.int .i64 cm:=hR.d 9;have e5:av_.tmps.getD 34 undef=.bool true:=hR.g 5;refine gSq (b:=true) e5 ?_;go_simp;refine (C5.out w (HB.out.trans (hR.below.mono HB.out.size))).mono ?_;rintro e w' ⟨rfl,hb⟩;exact hK _ _ (rfl) hb
  ·have e5:av_.tmps.getD 34 undef=.bool true:=hR.d 5;have e10:av_.tmps.getD 39 undef=.bool true:=hR.d 10;refine pSq ?_;go_simp;exact hK _ _ rfl rB
  ·have e11:av_.tmps.getD 40 undef=.bool true:=hR.d 11;refine pSq ?_;go_simp;exact hK _ _ rfl rB
  ·have e12:av_.tmps.getD 41 undef=.bool true:=hR.g 12;have b2:av_.tmps.getD 2 undef=.pointer (some ⟨bk2,0,none⟩):=hR.b 2;have cx0:w.cell? ⟨bk2,0,none⟩=some (.string nm):=by rw [Lib.cell_of_heap (hpU hR.below HX2_1.out)];rfl
   have cx1:w.cell? ⟨bk2,1,none⟩=some (.int .i64 um):=by rw [Lib.cell_of_heap (hpU hR.below HX2_1.out)];rfl
   have cx2:w.cell? ⟨bk2,2,none⟩=some (.int .i64 ud):=by rw [Lib.cell_of_heap (hpU hR.below HX2_1.out)];rfl
   have cx3:w.cell? ⟨bk2,3,none⟩=some (sl):=by rw [Lib.cell_of_heap (hpU hR.below HX2_1.out)];rfl
   refine gSq (b:=true) e12 ?_;go_simp;exact hK _ _ rfl rB
  ·have e12:av_.tmps.getD 41 undef=.bool true:=hR.g 12;have b3:av_.tmps.getD 3 undef=.pointer (some ⟨bk3,0,none⟩):=hR.b 3;obtain ⟨cx0,cx1,cx2⟩:=c3 (uH hR.below HX3_2);refine gSq (b:=true) e12 ?_;go_simp;exact hK _ _ rfl rB
  ·have e12:av_.tmps.getD 41 undef=.bool true:=hR.g 12;have b9:av_.tmps.getD 9 undef=.pointer (some ⟨bk9,0,none⟩):=hR.b 9;obtain ⟨cx0,cx1,cx2⟩:=c3 (uH hR.below HX9_22);refine gSq (b:=true) e12 ?_;go_simp;exact hK _ _ rfl rB
  ·have e12:av_.tmps.getD 41 undef=.bool true:=hR.g 12;have b10:av_.tmps.getD 10 undef=.int .i64 ci:=hR.b 10;refine gSq (b:=true) e12 ?_;go_simp;exact hK _ _ rfl rB
  ·have e13:av_.tmps.getD 42 undef=.agg #[.string nm,.int .i64 um,.int .i64 ud,sl]:=hR.d 13;have e14:av_.tmps.getD 43 undef=.agg #[.bool x.neg,.string x.n,.string x.d]:=hR.d 14;have e15:av_.tmps.getD 44 undef=.agg #[.bool yi.neg,.string yi.n,.string yi.d]:=hR.d 15;have e16:av_.tmps.getD 45 undef=.int .i64 ci:=hR.d 16;have e12:av_.tmps.getD 41 undef=.bool true:=hR.g 12;refine gSq (b:=true) e12 ?_;go_simp;refine (C6.out w (HB.out.trans (hR.below.mono HB.out.size))).mono ?_;rintro e w' ⟨rfl,hb⟩;exact hK _ _ (rfl) hb
  ·have e12:av_.tmps.getD 41 undef=.bool true:=hR.d 12;have e17:av_.tmps.getD 46 undef=.bool true:=hR.d 17;refine pSq ?_;go_simp;exact hK _ _ rfl rB
  ·have e18:av_.tmps.getD 47 undef=.bool true:=hR.d 18;refine pSq ?_;go_simp;exact hK _ _ rfl rB
  ·have e19:av_.tmps.getD 48 undef=.bool true:=hR.g 19;have b2:av_.tmps.getD 2 undef=.pointer (some ⟨bk2,0,none⟩):=hR.b 2;have cx0:w.cell? ⟨bk2,0,none⟩=some (.string nm):=by rw [Lib.cell_of_heap (hpU hR.below HX2_1.out)];rfl
   have cx1:w.cell? ⟨bk2,1,none⟩=some (.int .i64 um):=by rw [Lib.cell_of_heap (hpU hR.below HX2_1.out)];rfl
   have cx2:w.cell? ⟨bk2,2,none⟩=some (.int .i64 ud):=by rw [Lib.cell_of_heap (hpU hR.below HX2_1.out)];rfl
   have cx3:w.cell? ⟨bk2,3,none⟩=some (sl):=by rw [Lib.cell_of_heap (hpU hR.below HX2_1.out)];rfl
   refine gSq (b:=true) e19 ?_;go_simp;exact hK _ _ rfl rB
  ·have e20:av_.tmps.getD 49 undef=.agg #[.string nm,.int .i64 um,.int .i64 ud,sl]:=hR.d 20;have e19:av_.tmps.getD 48 undef=.bool true:=hR.g 19;refine gSq (b:=true) e19 ?_;go_simp;refine (C7.out w (HB.out.trans (hR.below.mono HB.out.size))).mono ?_;rintro e w' ⟨rfl,hb⟩;exact hK _ _ (rfl) hb
  ·have e19:av_.tmps.getD 48 undef=.bool true:=hR.g 19;have b2:av_.tmps.getD 2 undef=.pointer (some ⟨bk2,0,none⟩):=hR.b 2;have cx0:w.cell? ⟨bk2,0,none⟩=some (.string nm):=by rw [Lib.cell_of_heap (hpU hR.below HX2_1.out)];rfl
   have cx1:w.cell? ⟨bk2,1,none⟩=some (.int .i64 um):=by rw [Lib.cell_of_heap (hpU hR.below HX2_1.out)];rfl
   have cx2:w.cell? ⟨bk2,2,none⟩=some (.int .i64 ud):=by rw [Lib.cell_of_heap (hpU hR.below HX2_1.out)];rfl
   have cx3:w.cell? ⟨bk2,3,none⟩=some (sl):=by rw [Lib.cell_of_heap (hpU hR.below HX2_1.out)];rfl
   refine gSq (b:=true) e19 ?_;go_simp;exact hK _ _ rfl rB
  ·have e22:av_.tmps.getD 51 undef=.agg #[.string nm,.int .i64 um,.int .i64 ud,sl]:=hR.d 22;have e19:av_.tmps.getD 48 undef=.bool true:=hR.g 19;refine gSq (b:=true) e19 ?_;go_simp;refine (C8.out w (HB.out.trans (hR.below.mono HB.out.size))).mono ?_;rintro e w' ⟨rfl,hb⟩;exact hK _ _ (rfl) hb
  ·have e21:av_.tmps.getD 50 undef=.int .i64 ck:=hR.d 21;have e23:av_.tmps.getD 52 undef=.int .i64 ck:=hR.d 23;have e19:av_.tmps.getD 48 undef=.bool true:=hR.g 19;refine gSq (b:=true) e19 ?_;go_simp;exact hK _ _ rfl rB
  ·have e19:av_.tmps.getD 48 undef=.bool true:=hR.d 19;have e24:av_.tmps.getD 53 undef=.bool true:=hR.d 24;refine pSq ?_;go_simp;exact hK _ _ rfl rB
  ·have e25:av_.tmps.getD 54 undef=.bool true:=hR.d 25;refine pSq ?_;go_simp;exact hK _ _ rfl rB
  ·have e26:av_.tmps.getD 55 undef=.bool true:=hR.g 26;have b2:av_.tmps.getD 2 undef=.pointer (some ⟨bk2,0,none⟩):=hR.b 2;have cx0:w.cell? ⟨bk2,0,none⟩=some (.string nm):=by rw [Lib.cell_of_heap (hpU hR.below HX2_1.out)];rfl
   have cx1:w.cell? ⟨bk2,1,none⟩=some (.int .i64 um):=by rw [Lib.cell_of_heap (hpU hR.below HX2_1.out)];rfl
   have cx2:w.cell? ⟨bk2,2,none⟩=some (.int .i64 ud):=by rw [Lib.cell_of_heap (hpU hR.below HX2_1.out)];rfl
   have cx3:w.cell? ⟨bk2,3,none⟩=some (sl):=by rw [Lib.cell_of_heap (hpU hR.below HX2_1.out)];rfl
   refine gSq (b:=true) e26 ?_;go_simp;exact hK _ _ rfl rB
  ·have e27:av_.tmps.getD 56 undef=.agg #[.string nm,.int .i64 um,.int .i64 ud,sl]:=hR.d 27;have e26:av_.tmps.getD 55 undef=.bool true:=hR.g 26;refine gSq (b:=true) e26 ?_;go_simp;refine (C9.out w (HB.out.trans (hR.below.mono HB.out.size))).mono ?_;rintro e w' ⟨rfl,hb⟩;exact hK _ _ (rfl) hb
  ·have e26:av_.tmps.getD 55 undef=.bool true:=hR.g 26;have b2:av_.tmps.getD 2 undef=.pointer (some ⟨bk2,0,none⟩):=hR.b 2;have cx0:w.cell? ⟨bk2,0,none⟩=some (.string nm):=by rw [Lib.cell_of_heap (hpU hR.below HX2_1.out)];rfl
   have cx1:w.cell? ⟨bk2,1,none⟩=some (.int .i64 um):=by rw [Lib.cell_of_heap (hpU hR.below HX2_1.out)];rfl
   have cx2:w.cell? ⟨bk2,2,none⟩=some (.int .i64 ud):=by rw [Lib.cell_of_heap (hpU hR.below HX2_1.out)];rfl
   have cx3:w.cell? ⟨bk2,3,none⟩=some (sl):=by rw [Lib.cell_of_heap (hpU hR.below HX2_1.out)];rfl
   refine gSq (b:=true) e26 ?_;go_simp;exact hK _ _ rfl rB
  ·have e29:av_.tmps.getD 58 undef=.agg #[.string nm,.int .i64 um,.int .i64 ud,sl]:=hR.d 29;have e26:av_.tmps.getD 55 undef=.bool true:=hR.g 26;refine gSq (b:=true) e26 ?_;go_simp;refine (C10.out w (HB.out.trans (hR.below.mono HB.out.size))).mono ?_;rintro e w' ⟨rfl,hb⟩;exact hK _ _ (rfl) hb
  ·have e28:av_.tmps.getD 57 undef=.bool R:=hR.d 28;have e30:av_.tmps.getD 59 undef=.bool R:=hR.d 30;have e26:av_.tmps.getD 55 undef=.bool true:=hR.g 26;refine gSq (b:=true) e26 ?_;go_simp;exact hK _ _ rfl rB
  ·have e26:av_.tmps.getD 55 undef=.bool true:=hR.d 26;have e31:av_.tmps.getD 60 undef=.bool true:=hR.d 31;refine pSq ?_;go_simp;exact hK _ _ rfl rB
  ·have e32:av_.tmps.getD 61 undef=.bool true:=hR.d 32;refine pSq ?_;go_simp;exact hK _ _ rfl rB
 ·intro sv_ w hS hb;have e33:sv_ 4=.bool true:=hS 33 (by decide);simp only [over,ovL,Nat.reduceAdd,Nat.reduceLeDiff,Nat.reduceLT];have HB:=mH HB hb;have HX2_1:=uH hb HX2_1;have HX3_2:=uH hb HX3_2;have HX5_8:=uH hb HX5_8;have HX7_15:=uH hb HX7_15;have HX9_22:=uH hb HX9_22;obtain ⟨w12,hw⟩:∃w8,w8=w:=⟨_,rfl⟩;subst hw;rw [e33];clear hS hb e33;go_wp2_with fail;go_wp2_with fail;go_ret;exact ⟨rfl,by rw [HN0.out];exact HB.out⟩
end Go.Proofs.YtblgfmjlajhipaaGreatDoor
