/- RateAt: contracts and the law's walk. Each theorem names its conditions. -/
import Derived.WalkKit
import Derived.Deep.LoopGhost
import Derived.Deep.QuietTactic
import Derived.BigQuiet
import Derived.Test.YtblgfmjlajhipaaGreatDoorProg
import Derived.WalkSpells
import Derived.WalkLawsBesides
import Derived.IntWalk
import Derived.Lib.Hide
import Derived.Laws.BitsAllLaws
import Derived.StillTailTactics
import Derived.Deep.OwnRows
import Derived.Lib.ConvBytes
import Derived.Below
import Derived.Shelf.Strings.Trim
import Derived.Shelf.Small.Utf8
import Derived.Shelf.Small.Bits
import Derived.Shelf.Small.Strs
import Derived.Shelf.Strconv.Itoa0
import Derived.Shelf.Strings.Search1
import Derived.Shelf.Strings.Runes
import Derived.Shelf.Strings.AsciiSet
import Derived.Shelf.Unicode.DecodeSlow
import Derived.Shelf.Unicode.DecodeAny
import Derived.Ground.SlgmProg
import Derived.Shelf.SortM.Plain
import Derived.Shelf.SortM.SortNone
import Derived.Test.YtblgfmjlajhipaaGreatDoorKta3
import Derived.Test.YtblgfmjlajhipaaGreatDoorZb9
import Derived.Test.YtblgfmjlajhipaaGreatDoorZa6
import Derived.Test.YtblgfmjlajhipaaGreatDoorZa1
import Derived.Test.YtblgfmjlajhipaaGreatDoorKta0
import Derived.Test.YtblgfmjlajhipaaGreatDoorZb5
import Derived.Test.YtblgfmjlajhipaaGreatDoorZa7
import Derived.Test.YtblgfmjlajhipaaGreatDoorZa5
import Derived.Test.YtblgfmjlajhipaaGreatDoorZa4
import Derived.Test.YtblgfmjlajhipaaGreatDoorZa3
import Derived.Test.YtblgfmjlajhipaaGreatDoorZa0
import Derived.Test.YtblgfmjlajhipaaGreatDoorZa2
import Derived.Test.YtblgfmjlajhipaaGreatDoorKta2
set_option maxHeartbeats 16000000
set_option linter.unusedVariables false
namespace Go.Proofs.YtblgfmjlajhipaaGreatDoor
open Go.RowKit Go.Shelf
open Dgt
set_option maxRecDepth 100000 in
theorem admits_any (nm:ByteArray) (um ud:Int) (v:Value) (l:List Bk) (x:Rw) (hz:SzK l 1100000) (hx:x.n.size≤1100000∧x.d.size≤1100000) (wq:World) (hl:LstK wq v l) :
  Gv 83 #[.agg #[.string nm,.int .i64 um,.int .i64 ud,v],.agg #[.bool x.neg,.string x.n,.string x.d]] wq (.int .i64 (admV l x)):=by
 unfold Gv;have HL:=hD hl;have HZ:=hD hz;clear hl hz;have HAD:=hD (show admV l x=if ckB l=0 then (if x.right=true then (if fitsR x=true then 0 else 3) else 1) else ckB l from rfl);have c1:=fun w h=>rCheck_any nm um ud v l HZ.out w (HL.out.up h)
 have c2:=fun w=>rRatRight_any x.neg x.n x.d w (by omega) (by omega)
 have c3:=fun w=>rFits_any x (by omega) (by omega) w
 obtain ⟨C,hC⟩:∃c,ckB l=c:=⟨_,rfl⟩;obtain ⟨P,hP⟩:∃c,x.right=c:=⟨_,rfl⟩;obtain ⟨Q,hQ⟩:∃c,fitsR x=c:=⟨_,rfl⟩;rw [show rightR x.neg x.n x.d=P from hP] at c2;rw [hC] at c1 HAD;rw [hP] at HAD;rw [hQ] at c3 HAD;obtain ⟨V,hV⟩:∃c,admV l x=c:=⟨_,rfl⟩;rw [hV] at HAD ⊢;have C1:Hid (∀w,Below wq.heap.size wq w→Gv 45 #[.agg #[.string nm,.int .i64 um,.int .i64 ud,v]] w (.int .i64 C)):=hD fun w hp0=>c1 w hp0
 have C2:Hid (∀w,Gv 85 #[.agg #[.bool x.neg,.string x.n,.string x.d]] w (.bool P)):=hD c2;have C3:Hid (∀w,Gv 82 #[.agg #[.bool x.neg,.string x.n,.string x.d]] w (.bool Q)):=hD c3;clear c1 c2 c3 hC hP hQ hV hx;have HB:=hD (Below.refl wq.heap.size wq);obtain ⟨n0,hn0⟩:∃n,n=wq.heap.size:=⟨_,rfl⟩;rw [←hn0];have HN0:=hD hn0;clear hn0;go_enter Tryz.func83,Tryz.ntmps83;obtain ⟨W1,bk2,hW1,hbk2,HX2_1,HB,HG2_1,hup⟩:=boxn HB HN0 (.cells #[.string nm,.int .i64 um,.int .i64 ud,v] 26);clear hup;obtain ⟨W2,bk3,hW2,hbk3,HX3_2,HB,HG3_2,hup⟩:=boxn HB HN0 (.cells #[.bool x.neg,.string x.n,.string x.d] 29);have HL3_2:=(hup _ _ HX2_1).2;have HX2_1:=(hup _ _ HX2_1).1;clear hup;have k3:W2.cell? ⟨bk2,0,none⟩=some (.string nm):=by rw [Lib.cell_of_heap HX2_1.out];rfl
 have k4:W2.cell? ⟨bk2,1,none⟩=some (.int .i64 um):=by rw [Lib.cell_of_heap HX2_1.out];rfl
 have k5:W2.cell? ⟨bk2,2,none⟩=some (.int .i64 ud):=by rw [Lib.cell_of_heap HX2_1.out];rfl
 have k6:W2.cell? ⟨bk2,3,none⟩=some (v):=by rw [Lib.cell_of_heap HX2_1.out];rfl
 go_wp2_with fail;clear hW1 hbk2 hW2 hbk3 k3 k4 k5 k6;refine (C1.out _ HB.out).mono ?_;rintro e w3 ⟨rfl,hb⟩;have HX2_1:=uH hb HX2_1;have HX3_2:=uH hb HX3_2;have HB:=mH HB hb;clear hb
 by_cases hc0:C=0
 ·subst hc0;obtain ⟨k7a,k7b,k7c⟩:=c3 HX3_2;go_wp2_with fail;clear k7a k7b k7c;refine (C2.out _).mono ?_;rintro e w4 ⟨rfl,hb⟩;have HX2_1:=uH hb HX2_1;have HX3_2:=uH hb HX3_2;have HB:=mH HB hb;clear hb;cases P
  case false =>
   have hV:V=1:=HAD.out;subst hV;go_wp2_with fail;go_ret;exact ⟨rfl,by rw [HN0.out];exact HB.out⟩
  case true =>
   obtain ⟨k8a,k8b,k8c⟩:=c3 HX3_2;go_wp2_with fail;clear k8a k8b k8c;refine (C3.out _).mono ?_;rintro e w5 ⟨rfl,hb⟩;have HX2_1:=uH hb HX2_1;have HX3_2:=uH hb HX3_2;have HB:=mH HB hb;clear hb;cases Q
   case false =>
    have hV:V=3:=HAD.out;subst hV;go_wp2_with fail;go_ret;exact ⟨rfl,by rw [HN0.out];exact HB.out⟩
   case true =>
    have hV:V=0:=HAD.out;subst hV;go_wp2_with fail;go_ret;exact ⟨rfl,by rw [HN0.out];exact HB.out⟩
 ·have hV:V=C:=by rw [HAD.out,if_neg hc0]
  subst hV;have hne:(V != 0)=true:=by simpa using hc0
  clear HAD hc0;go_wp2_with fail;go_ret;exact ⟨rfl,by rw [HN0.out];exact HB.out⟩
end Go.Proofs.YtblgfmjlajhipaaGreatDoor
