/- RateAt: contracts and the law's walk. Each theorem names its conditions. -/
import Derived.WalkKit
import Derived.Deep.LoopGhost
import Derived.Deep.QuietTactic
import Derived.BigQuiet
import Derived.Test.YtblgfmjlajhipaaGreatDoorProg
import Derived.WalkSpells
import Derived.WalkLawsBesides
import Derived.IntWalk
import Derived.Lib.Hide
import Derived.Laws.BitsAllLaws
import Derived.StillTailTactics
import Derived.Deep.OwnRows
import Derived.Lib.ConvBytes
import Derived.Below
import Derived.Shelf.Strings.Trim
import Derived.Shelf.Small.Utf8
import Derived.Shelf.Small.Bits
import Derived.Shelf.Small.Strs
import Derived.Shelf.Strconv.Itoa0
import Derived.Shelf.Strings.Search1
import Derived.Shelf.Strings.Runes
import Derived.Shelf.Strings.AsciiSet
import Derived.Shelf.Unicode.DecodeSlow
import Derived.Shelf.Unicode.DecodeAny
import Derived.Ground.SlgmProg
import Derived.Shelf.SortM.Plain
import Derived.Shelf.SortM.SortNone
import Derived.Test.YtblgfmjlajhipaaGreatDoorZc2
import Derived.Test.YtblgfmjlajhipaaGreatDoorKta5
import Derived.Test.YtblgfmjlajhipaaGreatDoorZb5
import Derived.Test.YtblgfmjlajhipaaGreatDoorZa7
import Derived.Test.YtblgfmjlajhipaaGreatDoorZa6
import Derived.Test.YtblgfmjlajhipaaGreatDoorZa5
import Derived.Test.YtblgfmjlajhipaaGreatDoorZa4
import Derived.Test.YtblgfmjlajhipaaGreatDoorZa3
import Derived.Test.YtblgfmjlajhipaaGreatDoorZa0
import Derived.Test.YtblgfmjlajhipaaGreatDoorZa1
import Derived.Test.YtblgfmjlajhipaaGreatDoorKta0
import Derived.Test.YtblgfmjlajhipaaGreatDoorZa2
import Derived.Test.YtblgfmjlajhipaaGreatDoorKta2
set_option maxHeartbeats 16000000
set_option linter.unusedVariables false
namespace Go.Proofs.YtblgfmjlajhipaaGreatDoor
open Go.RowKit Go.Shelf
open Dgt
set_option maxRecDepth 100000 in
theorem rAt_no (nm:ByteArray) (um ud:Int) (v:Value) (l:List Bk) (x:Rw) (hz:SzK l 1100000) (hx:x.n.size≤1100000∧x.d.size≤1100000) (h0:admV l x≠0) (wq:World) (hl:LstK wq v l) :
  Gv 42 #[.agg #[.string nm,.int .i64 um,.int .i64 ud,v],.agg #[.bool x.neg,.string x.n,.string x.d]] wq (.tuple #[.agg #[.bool false,.string ⟨#[]⟩,.string ⟨#[]⟩],.int .i64 (admV l x)]):=by
 unfold Gv;have HL:=hD hl;have HZ:=hD hz;clear hl hz;have c1:=fun w h=>admits_any nm um ud v l x HZ.out hx w (HL.out.up h)
 obtain ⟨C,hC⟩:∃c,admV l x=c:=⟨_,rfl⟩;rw [hC] at c1 h0 ⊢;clear hC hx;have hne:(C != 0)=true:=by simpa using h0
 have C1:Hid (∀w,Below wq.heap.size wq w→Gv 83 #[.agg #[.string nm,.int .i64 um,.int .i64 ud,v],.agg #[.bool x.neg,.string x.n,.string x.d]] w (.int .i64 C)):=hD fun w hp0=>c1 w hp0
 clear c1 h0;have HB:=hD (Below.refl wq.heap.size wq);obtain ⟨n0,hn0⟩:∃n,n=wq.heap.size:=⟨_,rfl⟩;rw [←hn0];have HN0:=hD hn0;clear hn0;go_enter Tryz.func42,Tryz.ntmps42;obtain ⟨W1,bk2,hW1,hbk2,HX2_1,HB,HG2_1,hup⟩:=boxn HB HN0 (.cells #[.string nm,.int .i64 um,.int .i64 ud,v] 26);clear hup;obtain ⟨W2,bk3,hW2,hbk3,HX3_2,HB,HG3_2,hup⟩:=boxn HB HN0 (.cells #[.bool x.neg,.string x.n,.string x.d] 29);have HL3_2:=(hup _ _ HX2_1).2;have HX2_1:=(hup _ _ HX2_1).1;clear hup;obtain ⟨W3,bk4,hW3,hbk4,HX4_3,HB,HG4_3,hup⟩:=boxZ HB HN0;have HL4_3:=(hup _ _ HX3_2).2;have HX2_1:=(hup _ _ HX2_1).1;have HX3_2:=(hup _ _ HX3_2).1;clear hup;have k4:W3.cell? ⟨bk2,0,none⟩=some (.string nm):=by rw [Lib.cell_of_heap HX2_1.out];rfl
 have k5:W3.cell? ⟨bk2,1,none⟩=some (.int .i64 um):=by rw [Lib.cell_of_heap HX2_1.out];rfl
 have k6:W3.cell? ⟨bk2,2,none⟩=some (.int .i64 ud):=by rw [Lib.cell_of_heap HX2_1.out];rfl
 have k7:W3.cell? ⟨bk2,3,none⟩=some (v):=by rw [Lib.cell_of_heap HX2_1.out];rfl
 obtain ⟨k8a,k8b,k8c⟩:=c3 HX3_2;go_wp2_with fail;clear hW1 hbk2 hW2 hbk3 hW3 hbk4 k4 k5 k6 k7 k8a k8b k8c;refine (C1.out _ HB.out).mono ?_;rintro e w4 ⟨rfl,hb⟩;have HX2_1:=uH hb HX2_1;have HX3_2:=uH hb HX3_2;have HX4_3:=uH hb HX4_3;have HB:=mH HB hb;clear hb;obtain ⟨W5,hW5,HX4_3,HB,ho,f9a,f9b,f9c,k9a,k9b,k9c⟩:=putZ HX4_3 HB HN0 HG4_3;have HX2_1:=ho _ _ (en2 HL3_2 HL4_3) HX2_1;have HX3_2:=ho _ _ (en1 HL4_3) HX3_2;clear ho;go_wp2_with fail;clear f9a f9b f9c k9a k9b k9c hW5;refine bodyPost_ret (rC2 HX4_3.out) rfl ?_;exact ⟨rfl,by rw [HN0.out];exact HB.out⟩
set_option maxRecDepth 100000 in
theorem rMarginal_no (nm:ByteArray) (um ud:Int) (v:Value) (l:List Bk) (x:Rw) (hz:SzK l 1100000) (hx:x.n.size≤1100000∧x.d.size≤1100000) (h0:admV l x≠0) (wq:World) (hl:LstK wq v l) :
  Gv 43 #[.agg #[.string nm,.int .i64 um,.int .i64 ud,v],.agg #[.bool x.neg,.string x.n,.string x.d]] wq (.tuple #[.agg #[.bool false,.string ⟨#[]⟩,.string ⟨#[]⟩],.int .i64 (admV l x)]):=by
 unfold Gv;have HL:=hD hl;have HZ:=hD hz;clear hl hz;have c1:=fun w h=>admits_any nm um ud v l x HZ.out hx w (HL.out.up h)
 obtain ⟨C,hC⟩:∃c,admV l x=c:=⟨_,rfl⟩;rw [hC] at c1 h0 ⊢;clear hC hx;have hne:(C != 0)=true:=by simpa using h0
 have C1:Hid (∀w,Below wq.heap.size wq w→Gv 83 #[.agg #[.string nm,.int .i64 um,.int .i64 ud,v],.agg #[.bool x.neg,.string x.n,.string x.d]] w (.int .i64 C)):=hD fun w hp0=>c1 w hp0
 clear c1 h0;have HB:=hD (Below.refl wq.heap.size wq);obtain ⟨n0,hn0⟩:∃n,n=wq.heap.size:=⟨_,rfl⟩;rw [←hn0];have HN0:=hD hn0;clear hn0;go_enter Tryz.func43,Tryz.ntmps43;obtain ⟨W1,bk2,hW1,hbk2,HX2_1,HB,HG2_1,hup⟩:=boxn HB HN0 (.cells #[.string nm,.int .i64 um,.int .i64 ud,v] 26);clear hup;obtain ⟨W2,bk3,hW2,hbk3,HX3_2,HB,HG3_2,hup⟩:=boxn HB HN0 (.cells #[.bool x.neg,.string x.n,.string x.d] 29);have HL3_2:=(hup _ _ HX2_1).2;have HX2_1:=(hup _ _ HX2_1).1;clear hup;obtain ⟨W3,bk4,hW3,hbk4,HX4_3,HB,HG4_3,hup⟩:=boxZ HB HN0;have HL4_3:=(hup _ _ HX3_2).2;have HX2_1:=(hup _ _ HX2_1).1;have HX3_2:=(hup _ _ HX3_2).1;clear hup;have k4:W3.cell? ⟨bk2,0,none⟩=some (.string nm):=by rw [Lib.cell_of_heap HX2_1.out];rfl
 have k5:W3.cell? ⟨bk2,1,none⟩=some (.int .i64 um):=by rw [Lib.cell_of_heap HX2_1.out];rfl
 have k6:W3.cell? ⟨bk2,2,none⟩=some (.int .i64 ud):=by rw [Lib.cell_of_heap HX2_1.out];rfl
 have k7:W3.cell? ⟨bk2,3,none⟩=some (v):=by rw [Lib.cell_of_heap HX2_1.out];rfl
 obtain ⟨k8a,k8b,k8c⟩:=c3 HX3_2;go_wp2_with fail;clear hW1 hbk2 hW2 hbk3 hW3 hbk4 k4 k5 k6 k7 k8a k8b k8c;refine (C1.out _ HB.out).mono ?_;rintro e w4 ⟨rfl,hb⟩;have HX2_1:=uH hb HX2_1;have HX3_2:=uH hb HX3_2;have HX4_3:=uH hb HX4_3;have HB:=mH HB hb;clear hb;obtain ⟨W5,hW5,HX4_3,HB,ho,f9a,f9b,f9c,k9a,k9b,k9c⟩:=putZ HX4_3 HB HN0 HG4_3;have HX2_1:=ho _ _ (en2 HL3_2 HL4_3) HX2_1;have HX3_2:=ho _ _ (en1 HL4_3) HX3_2;clear ho;go_wp2_with fail;clear f9a f9b f9c k9a k9b k9c hW5;refine bodyPost_ret (rC2 HX4_3.out) rfl ?_;exact ⟨rfl,by rw [HN0.out];exact HB.out⟩
set_option maxRecDepth 100000 in
theorem rAt_ok (nm:ByteArray) (um ud:Int) (v:Value) (m:List BT) (y:Rt) (hS:Sch m) (hy:y.Ok) (hf:fitT y=true) (wq:World) (hl:LstK wq v (m.map rawB)) :
  Gv 42 #[.agg #[.string nm,.int .i64 um,.int .i64 ud,v],.agg #[.bool y.neg,.string (encS y.num),.string (encS y.den)]] wq (.tuple #[.agg #[.bool (fitV (valT m y m.length)).1.neg,.string (fitV (valT m y m.length)).1.n,.string (fitV (valT m y m.length)).1.d],.int .i64 (fitV (valT m y m.length)).2]):=by
 unfold Gv;have HLK:=hD hl;obtain ⟨gl,off,ca,hv,hca2,hla,hca⟩:=hl.openS hS.pos;have HAT:=hD hca;have HLA:=hD hla;have HSC:=hD hS;have HY:=hD (And.intro hy hf);have HYZ:=hD (fitT_sz hf);have HXS:=hD (rawR_sz ((fitT_sz hf).mono (show 50≤1100000 by decide)));have c1:=fun w h=>admits_any nm um ud v (m.map rawB) (rawR y) (hS.szk 1100000 (by decide)) HXS.out w (HLK.out.up h)
 rw [adm_of hS hy hf] at c1;have c2:=fun w h=>Value_any nm um ud v m y hS hy (fitT_sz hf) w (HLK.out.up h)
 have hvo:=val_ok hS hy m.length;have hvz:=(val_sz hS (fitT_sz hf) m.length).mono (show 8+152*m.length≤5000 by have:=hS.le;omega);have c3:=fun w=>rFits_any (rawR (valT m y m.length)) (Nat.le_trans (rawR_sz hvz).1 (by decide)) (Nat.le_trans (rawR_sz hvz).2 (by decide)) w
 rw [fitsR_raw hvo] at c3;have HV:=hD (show fitV (valT m y m.length)=if fitT (valT m y m.length)=true then (rawR (valT m y m.length),0) else (zrow,3) from rfl);obtain ⟨z,hz⟩:∃z,valT m y m.length=z:=⟨_,rfl⟩;rw [hz] at c2 c3 HV ⊢;obtain ⟨F,hF⟩:∃b,fitT z=b:=⟨_,rfl⟩;rw [hF] at c3 HV;obtain ⟨V,hV⟩:∃v,fitV z=v:=⟨_,rfl⟩;rw [hV] at HV ⊢;subst hv;clear hca hla hl hca2 hS hy hf hvo hvz hz hF hV;have C1:Hid (∀w,Below wq.heap.size wq w→Gv 83 #[.agg #[.string nm,.int .i64 um,.int .i64 ud,.slice (some ⟨gl,off,none⟩) m.length ca],rtV y] w (.int .i64 0)):=hD fun w hp0=>c1 w hp0
 have C2:Hid (∀w,Below wq.heap.size wq w→Gv 84 #[.agg #[.string nm,.int .i64 um,.int .i64 ud,.slice (some ⟨gl,off,none⟩) m.length ca],rtV y] w (.agg #[.bool z.neg,.string (encS z.num),.string (encS z.den)])):=hD fun w hp0=>c2 w hp0
 have C3:Hid (∀w,Gv 82 #[rtV z] w (.bool F)):=hD c3;clear c1 c2 c3;have HB:=hD (Below.refl wq.heap.size wq);obtain ⟨n0,hn0⟩:∃n,n=wq.heap.size:=⟨_,rfl⟩;rw [←hn0];have HN0:=hD hn0;clear hn0;go_enter Tryz.func42,Tryz.ntmps42;obtain ⟨W1,bk2,hW1,hbk2,HX2_1,HB,HG2_1,hup⟩:=boxn HB HN0 (.cells #[.string nm,.int .i64 um,.int .i64 ud,.slice (some ⟨gl,off,none⟩) m.length ca] 26);clear hup;obtain ⟨W2,bk3,hW2,hbk3,HX3_2,HB,HG3_2,hup⟩:=boxR HB HN0 y;have HL3_2:=(hup _ _ HX2_1).2;have HX2_1:=(hup _ _ HX2_1).1;clear hup;obtain ⟨W3,bk4,hW3,hbk4,HX4_3,HB,HG4_3,hup⟩:=boxZ HB HN0;have HL4_3:=(hup _ _ HX3_2).2;have HX2_1:=(hup _ _ HX2_1).1;have HX3_2:=(hup _ _ HX3_2).1;clear hup;have k4:W3.cell? ⟨bk2,0,none⟩=some (.string nm):=by rw [Lib.cell_of_heap HX2_1.out];rfl
 have k5:W3.cell? ⟨bk2,1,none⟩=some (.int .i64 um):=by rw [Lib.cell_of_heap HX2_1.out];rfl
 have k6:W3.cell? ⟨bk2,2,none⟩=some (.int .i64 ud):=by rw [Lib.cell_of_heap HX2_1.out];rfl
 have k7:W3.cell? ⟨bk2,3,none⟩=some (.slice (some ⟨gl,off,none⟩) m.length ca):=by rw [Lib.cell_of_heap HX2_1.out];rfl
 obtain ⟨k8a,k8b,k8c⟩:=c3 HX3_2;go_wp2_with fail;clear hW1 hbk2 hW2 hbk3 hW3 hbk4 k4 k5 k6 k7 k8a k8b k8c;refine (C1.out _ HB.out).mono ?_;rintro e w4 ⟨rfl,hb⟩;have HX2_1:=uH hb HX2_1;have HX3_2:=uH hb HX3_2;have HX4_3:=uH hb HX4_3;have HB:=mH HB hb;clear hb;have k9:w4.cell? ⟨bk2,0,none⟩=some (.string nm):=by rw [Lib.cell_of_heap HX2_1.out];rfl
 have k10:w4.cell? ⟨bk2,1,none⟩=some (.int .i64 um):=by rw [Lib.cell_of_heap HX2_1.out];rfl
 have k11:w4.cell? ⟨bk2,2,none⟩=some (.int .i64 ud):=by rw [Lib.cell_of_heap HX2_1.out];rfl
 have k12:w4.cell? ⟨bk2,3,none⟩=some (.slice (some ⟨gl,off,none⟩) m.length ca):=by rw [Lib.cell_of_heap HX2_1.out];rfl
 obtain ⟨k13a,k13b,k13c⟩:=c3 HX3_2;go_wp2_with fail;clear k9 k10 k11 k12 k13a k13b k13c;refine (C2.out _ HB.out).mono ?_;rintro e w5 ⟨rfl,hb⟩;have HX2_1:=uH hb HX2_1;have HX3_2:=uH hb HX3_2;have HX4_3:=uH hb HX4_3;have HB:=mH HB hb;clear hb;obtain ⟨W6,bk7,hW6,hbk7,HX7_14,HB,HG7_14,hup⟩:=boxZ HB HN0;have HL7_14:=(hup _ _ HX4_3).2;have HX2_1:=(hup _ _ HX2_1).1;have HX3_2:=(hup _ _ HX3_2).1;have HX4_3:=(hup _ _ HX4_3).1;clear hup;obtain ⟨W7,hW7,HX7_14,HB,ho,f15a,f15b,f15c,k15a,k15b,k15c⟩:=putR HX7_14 HB HN0 HG7_14 z;have HX2_1:=ho _ _ (en3 HL3_2 HL4_3 HL7_14) HX2_1;have HX3_2:=ho _ _ (en2 HL4_3 HL7_14) HX3_2;have HX4_3:=ho _ _ (en1 HL7_14) HX4_3;clear ho;obtain ⟨k16a,k16b,k16c⟩:=c3 HX7_14;go_wp2_with fail;clear hW6 hbk7 f15a f15b f15c k15a k15b k15c hW7 k16a k16b k16c;refine (C3.out _).mono ?_;rintro e w8 ⟨rfl,hb⟩;have HX2_1:=uH hb HX2_1;have HX3_2:=uH hb HX3_2;have HX4_3:=uH hb HX4_3
 have HX7_14:=uH hb HX7_14;have HB:=mH HB hb;clear hb;cases F
 case false =>
  have hV:V=(zrow,3):=HV.out;subst hV;obtain ⟨W9,hW9,HX4_3,HB,ho,f17a,f17b,f17c,k17a,k17b,k17c⟩:=putZ HX4_3 HB HN0 HG4_3;have HX2_1:=ho _ _ (en2 HL3_2 HL4_3) HX2_1;have HX3_2:=ho _ _ (en1 HL4_3) HX3_2;have HX7_14:=ho _ _ (ne1 HL7_14) HX7_14;clear ho;go_wp2_with fail;clear f17a f17b f17c k17a k17b k17c hW9;refine bodyPost_ret (rC2 HX4_3.out) rfl ?_;exact ⟨rfl,by rw [HN0.out];exact HB.out⟩
 case true =>
  have hV:V=(rawR z,0):=HV.out;subst hV;obtain ⟨k18a,k18b,k18c⟩:=c3 HX7_14;obtain ⟨W10,hW10,HX4_3,HB,ho,f19a,f19b,f19c,k19a,k19b,k19c⟩:=putR HX4_3 HB HN0 HG4_3 z;have HX2_1:=ho _ _ (en2 HL3_2 HL4_3) HX2_1;have HX3_2:=ho _ _ (en1 HL4_3) HX3_2;have HX7_14:=ho _ _ (ne1 HL7_14) HX7_14;clear ho;go_wp2_with fail;clear k18a k18b k18c f19a f19b f19c k19a k19b k19c hW10;refine bodyPost_ret (rC2 HX4_3.out) rfl ?_;exact ⟨rfl,by rw [HN0.out];exact HB.out⟩
def lastT (m:List BT) (y:Rt) (k:Nat):Rt:=if cntF (frQ m) y.q k=0 then ofR 0 else rtT m (cntF (frQ m) y.q k-1)
theorem lastT_s {m:List BT} {y:Rt} (hS:Sch m) (hy:y.Ok) (k:Nat):lastT m y (k+1)=if cmpR (frT m k) y≤0 then rtT m k else lastT m y k:=by
 have e:cntF (frQ m) y.q (k+1)=if frQ m k≤y.q then k+1 else cntF (frQ m) y.q k:=rfl
 unfold lastT;rw [e];have key:(cmpR (frT m k) y≤0)↔frQ m k≤y.q:=by rw [cmpR_q (hS.frOk k) hy,sgQ_le0];unfold frQ;grind
 by_cases h:frQ m k≤y.q
 ·rw [if_pos h,if_pos (key.2 h),if_neg (by omega),Nat.add_sub_cancel]
 ·rw [if_neg h,if_neg (fun h2=>h (key.1 h2))]
def ErMarginal_ok_8_1 (ca:Nat) (m:List BT) (gl:Nat) (off:Nat) (k:Nat) (cz:Int) (y:Rt) (fr:Rt) (bk2:Nat):Nat→Value
 | 0=>.pointer (some ⟨bk2,3,none⟩)
 | 1=>.slice (some ⟨gl,off,none⟩) m.length ca
 | 2=>.int .i64 (k:Int)
 | 3=>.pointer (some ⟨gl,off+k*6,none⟩)
 | 4=>.pointer (some ⟨gl,off+k*6,none⟩)
 | 5=>.agg #[.bool fr.neg,.string (encS fr.num),.string (encS fr.den)]
 | 6=>.agg #[.bool y.neg,.string (encS y.num),.string (encS y.den)]
 | 7=>.int .i64 cz
 | 8=>.bool false
 | _=>undef
def ErMarginal_ok_8_2 (ca:Nat) (m:List BT) (gl:Nat) (off:Nat) (k:Nat) (cz:Int) (y:Rt) (fr:Rt) (bk2:Nat):Nat→Value
 | 0=>.pointer (some ⟨bk2,3,none⟩)
 | 1=>.slice (some ⟨gl,off,none⟩) m.length ca
 | 2=>.int .i64 (k:Int)
 | 3=>.pointer (some ⟨gl,off+k*6,none⟩)
 | 4=>.pointer (some ⟨gl,off+k*6,none⟩)
 | 5=>.agg #[.bool fr.neg,.string (encS fr.num),.string (encS fr.den)]
 | 6=>.agg #[.bool y.neg,.string (encS y.num),.string (encS y.den)]
 | 7=>.int .i64 cz
 | 8=>.bool true
 | _=>undef
set_option maxRecDepth 100000 in
theorem rMarginal_ok (nm:ByteArray) (um ud:Int) (v:Value) (m:List BT) (y:Rt) (hS:Sch m) (hy:y.Ok) (hf:fitT y=true) (wq:World) (hl:LstK wq v (m.map rawB)) :
  Gv 43 #[.agg #[.string nm,.int .i64 um,.int .i64 ud,v],.agg #[.bool y.neg,.string (encS y.num),.string (encS y.den)]] wq (.tuple #[.agg #[.bool (margT m y).neg,.string (encS (margT m y).num),.string (encS (margT m y).den)],.int .i64 0]):=by
 unfold Gv;have HLK:=hD hl;obtain ⟨gl,off,ca,hv,hca2,hla,hca⟩:=hl.openS hS.pos;have HAT:=hD hca;have HLA:=hD hla;have HSC:=hD hS;have HY:=hD (And.intro hy hf);have HYZ:=hD (fitT_sz hf);have HXS:=hD (rawR_sz ((fitT_sz hf).mono (show 50≤1100000 by decide)));have c1:=fun w h=>admits_any nm um ud v (m.map rawB) (rawR y) (hS.szk 1100000 (by decide)) HXS.out w (HLK.out.up h)
 rw [adm_of hS hy hf] at c1;have d3:=fun w=>rRatOf_any 0 w (by decide) (by decide)
 rw [show ofR 0=lastT m y 0 from rfl] at d3;obtain ⟨z0,h4⟩:∃a,lastT m y 0=a:=⟨_,rfl⟩;rw [h4] at d3;have HZ0:=hD h4;subst hv;clear hca hla hl hca2 hS hy hf h4;have C1:Hid (∀w,Below wq.heap.size wq w→Gv 83 #[.agg #[.string nm,.int .i64 um,.int .i64 ud,.slice (some ⟨gl,off,none⟩) m.length ca],rtV y] w (.int .i64 0)):=hD fun w hp0=>c1 w hp0
 have C2:Hid (∀w,Gv 14 #[.int .i64 0] w (.agg #[.bool z0.neg,.string (encS z0.num),.string (encS z0.den)])):=hD d3;clear c1 d3;have HB:=hD (Below.refl wq.heap.size wq);obtain ⟨n0,hn0⟩:∃n,n=wq.heap.size:=⟨_,rfl⟩;rw [←hn0];have HN0:=hD hn0;clear hn0;go_enter Tryz.func43,Tryz.ntmps43;obtain ⟨W1,bk2,hW1,hbk2,HX2_1,HB,HG2_1,hup⟩:=boxn HB HN0 (.cells #[.string nm,.int .i64 um,.int .i64 ud,.slice (some ⟨gl,off,none⟩) m.length ca] 26);clear hup;obtain ⟨W2,bk3,hW2,hbk3,HX3_2,HB,HG3_2,hup⟩:=boxR HB HN0 y;have HL3_2:=(hup _ _ HX2_1).2;have HX2_1:=(hup _ _ HX2_1).1;clear hup;obtain ⟨W3,bk4,hW3,hbk4,HX4_3,HB,HG4_3,hup⟩:=boxZ HB HN0;have HL4_3:=(hup _ _ HX3_2).2;have HX2_1:=(hup _ _ HX2_1).1;have HX3_2:=(hup _ _ HX3_2).1;clear hup;have k4:W3.cell? ⟨bk2,0,none⟩=some (.string nm):=by rw [Lib.cell_of_heap HX2_1.out];rfl
 have k5:W3.cell? ⟨bk2,1,none⟩=some (.int .i64 um):=by rw [Lib.cell_of_heap HX2_1.out];rfl
 have k6:W3.cell? ⟨bk2,2,none⟩=some (.int .i64 ud):=by rw [Lib.cell_of_heap HX2_1.out];rfl
 have k7:W3.cell? ⟨bk2,3,none⟩=some (.slice (some ⟨gl,off,none⟩) m.length ca):=by rw [Lib.cell_of_heap HX2_1.out];rfl
 obtain ⟨k8a,k8b,k8c⟩:=c3 HX3_2;go_wp2_with fail;clear hW1 hbk2 hW2 hbk3 hW3 hbk4 k4 k5 k6 k7 k8a k8b k8c;refine (C1.out _ HB.out).mono ?_;rintro e w4 ⟨rfl,hb⟩;have HX2_1:=uH hb HX2_1;have HX3_2:=uH hb HX3_2;have HX4_3:=uH hb HX4_3;have HB:=mH HB hb;clear hb;go_wp2_with fail;refine (C2.out _).mono ?_;rintro e w5 ⟨rfl,hb⟩;have HX2_1:=uH hb HX2_1;have HX3_2:=uH hb HX3_2;have HX4_3:=uH hb HX4_3;have HB:=mH HB hb;clear hb;obtain ⟨W6,bk7,hW6,hbk7,HX7_9,HB,HG7_9,hup⟩:=boxZ HB HN0;have HL7_9:=(hup _ _ HX4_3).2;have HX2_1:=(hup _ _ HX2_1).1;have HX3_2:=(hup _ _ HX3_2).1;have HX4_3:=(hup _ _ HX4_3).1;clear hup;obtain ⟨W7,hW7,HX7_9,HB,ho,f10a,f10b,f10c,k10a,k10b,k10c⟩:=putR HX7_9 HB HN0 HG7_9 z0;have HX2_1:=ho _ _ (en3 HL3_2 HL4_3 HL7_9) HX2_1;have HX3_2:=ho _ _ (en2 HL4_3 HL7_9) HX3_2;have HX4_3:=ho _ _ (en1 HL7_9) HX4_3;clear ho;go_wp2_with fail;clear hW6 hbk7 f10a f10b f10c k10a k10b k10c hW7
 go_loopw [8] (fun u8 wr=>∃(k:Nat) (sm:Rt),k≤m.length∧u8=.int .i64 (k:Int)∧Hid (lastT m y k=sm)∧Hid (wr.heap[bk2]? =some (.cells #[.string nm,.int .i64 um,.int .i64 ud,.slice (some ⟨gl,off,none⟩) m.length ca] 26 (0,0)))∧Hid (wr.heap[bk3]? =some (.cells #[.bool y.neg,.string (encS y.num),.string (encS y.den)] 29 (0,0)))∧Hid (wr.heap[bk4]? =some (.cells #[.bool false,.string ⟨#[]⟩,.string ⟨#[]⟩] 29 (0,0)))∧Hid (wr.heap[bk7]? =some (.cells #[.bool sm.neg,.string (encS sm.num),.string (encS sm.den)] 29 (0,0)))∧Hid (Below wq.heap.size wq wr)) (fun u8 _=>m.length-(intOf u8).toNat)
 case atStart=>exact ⟨0,z0,by omega,by first|rfl|go_num,HZ0,HX2_1,HX3_2,HX4_3,HX7_9,HB⟩
 case round =>
  obtain ⟨k,sm,hk,rfl,HSM,HX2_1,HX3_2,HX4_3,HX7_9,HB⟩:=hrel
  by_cases hlt:k<m.length
  ·have hlt' :(k:Int)<(m.length:Int):=by omega
   have HE:=hD (HAT.out k hlt);have hs:=HSC.out;have c1:=fun w=>rRatCmp_r (IsR.of (hs.frOk k) (hs.frSz k)) (IsR.of HY.out.1 HYZ.out) (by decide) (by decide) w
   have HST:=hD (lastT_s hs HY.out.1 k);rw [HSM.out] at HST;obtain ⟨fr,h1⟩:∃a,frT m k=a:=⟨_,rfl⟩;obtain ⟨rt,h2⟩:∃a,rtT m k=a:=⟨_,rfl⟩;rw [h1,h2] at HE;rw [h1] at c1;rw [h1,h2] at HST;obtain ⟨cz,h3⟩:∃c,cmpR fr y=c:=⟨_,rfl⟩;rw [h3] at c1 HST;have HLT:=hD hlt;have C3:Hid (∀w,Gv 24 #[rtV fr,rtV y] w (.int .i64 cz)):=hD c1;clear c1 hs h1 h2 h3 hlt hk HSM;have HWI:Hid (IntKind.i64.wrap ((k:Int)+1)=((k+1:Nat):Int)):=hD (by rw [IntWalk.i64_in _ (by have:=HLT.out;have:=HLA.out;omega)];omega);obtain ⟨tz,htz⟩:∃xq,decide (cz≤0)=xq:=⟨_,rfl⟩;have Htz:=hD htz;clear htz;have k11:wr.cell? ⟨bk2,3,none⟩=some (.slice (some ⟨gl,off,none⟩) m.length ca):=by rw [Lib.cell_of_heap HX2_1.out];rfl
   go_wp2_with fail;clear hlt' k11;cases tz
   case false =>
    refine wpVl (w:=wr) (by kernel_rfl) (fun ix v _=>v=ErMarginal_ok_8_1 ca m gl off k cz y fr bk2 ix) (fun t=>(decide (24≤t)&&decide (t<33))) (by kernel_rfl) (by kernel_rfl) (by kernel_rfl) (fun _ _ _ _ _ h=>h) ?_ ?_
    ·intro i hi ov_ listed av_ w hR K hK;have ho:=hR.at_;have hi:i<9:=hi;have hii:i=0∨i=1∨i=2∨i=3∨i=4∨i=5∨i=6∨i=7∨i=8:=by omega
     rcases hii with rfl|rfl|rfl|rfl|rfl|rfl|rfl|rfl|rfl<;>(simp at ho;subst ho)
     ·have b2:av_.tmps.getD 2 undef=.pointer (some ⟨bk2,0,none⟩):=hR.b 2;refine pSq ?_;go_simp;exact hK _ _ rfl rB
     ·have e0:av_.tmps.getD 24 undef=.pointer (some ⟨bk2,3,none⟩):=hR.d 0;have cx0:w.cell? ⟨bk2,3,none⟩=some (.slice (some ⟨gl,off,none⟩) m.length ca):=by rw [Lib.cell_of_heap (hpU hR.below HX2_1.out)];rfl
      refine pSq ?_;go_simp;exact hK _ _ rfl rB
     ·have b8:av_.tmps.getD 8 undef=.int .i64 (k:Int):=hR.b 8;refine pSq ?_;go_simp;exact hK _ _ rfl rB
     ·have e1:av_.tmps.getD 25 undef=.slice (some ⟨gl,off,none⟩) m.length ca:=hR.d 1;have e2:av_.tmps.getD 26 undef=.int .i64 (k:Int):=hR.d 2;have hk3:(k:Int)<(m.length:Int):=by have:=HLT.out;omega
      refine pSq ?_;go_simp;exact hK _ _ rfl rB
     ·have e3:av_.tmps.getD 27 undef=.pointer (some ⟨gl,off+k*6,none⟩):=hR.d 3;refine pSq ?_;go_simp;exact hK _ _ rfl rB
     ·have e4:av_.tmps.getD 28 undef=.pointer (some ⟨gl,off+k*6,none⟩):=hR.d 4;obtain ⟨cx0,cx1,cx2,cx3,cx4,cx5⟩:=HE.out _ (HB.out.trans (hR.below.mono HB.out.size));refine pSq ?_;go_simp;exact hK _ _ rfl rB
     ·have b3:av_.tmps.getD 3 undef=.pointer (some ⟨bk3,0,none⟩):=hR.b 3;obtain ⟨cx0,cx1,cx2⟩:=c3 (uH hR.below HX3_2);refine pSq ?_;go_simp;exact hK _ _ rfl rB
     ·have e5:av_.tmps.getD 29 undef=.agg #[.bool fr.neg,.string (encS fr.num),.string (encS fr.den)]:=hR.d 5;have e6:av_.tmps.getD 30 undef=.agg #[.bool y.neg,.string (encS y.num),.string (encS y.den)]:=hR.d 6;refine pSq ?_;go_simp;refine (C3.out w).mono ?_;rintro e w' ⟨rfl,hb⟩;exact hK _ _ (rfl) hb
     ·have e7:av_.tmps.getD 31 undef=.int .i64 cz:=hR.d 7;have htz:=Htz.out;refine pSq ?_;go_simp;exact hK _ _ rfl rB
    ·intro sv_ w hS hb;have e8:sv_ 32=.bool false:=hS 8 (by decide);simp only [over,ovL,Nat.reduceAdd,Nat.reduceLeDiff,Nat.reduceLT];have HB:=mH HB hb;have HX2_1:=uH hb HX2_1;have HX3_2:=uH hb HX3_2;have HX4_3:=uH hb HX4_3;have HX7_9:=uH hb HX7_9;obtain ⟨w8,hw⟩:∃w8,w8=w:=⟨_,rfl⟩;subst hw;rw [e8];clear hS hb e8;have HS2:Hid (lastT m y (k+1)=sm):=hD (by rw [HST.out,if_neg (by have:=Htz.out;simpa using this)]);have hwi:=HWI.out;go_wp2_with fail;clear hwi
     go_roundw
     case rel=>exact ⟨k+1,sm,by have:=HLT.out;omega,by first|rfl|go_num,HS2,HX2_1,HX3_2,HX4_3,HX7_9,HB⟩
     case measure=>have:=HLT.out;simp [intOf];omega
   case true =>
    refine wpVl (w:=wr) (by kernel_rfl) (fun ix v _=>v=ErMarginal_ok_8_2 ca m gl off k cz y fr bk2 ix) (fun t=>(decide (24≤t)&&decide (t<33))) (by kernel_rfl) (by kernel_rfl) (by kernel_rfl) (fun _ _ _ _ _ h=>h) ?_ ?_
    ·intro i hi ov_ listed av_ w hR K hK;have ho:=hR.at_;have hi:i<9:=hi;have hii:i=0∨i=1∨i=2∨i=3∨i=4∨i=5∨i=6∨i=7∨i=8:=by omega
     rcases hii with rfl|rfl|rfl|rfl|rfl|rfl|rfl|rfl|rfl<;>(simp at ho;subst ho)
     ·have b2:av_.tmps.getD 2 undef=.pointer (some ⟨bk2,0,none⟩):=hR.b 2;refine pSq ?_;go_simp;exact hK _ _ rfl rB
     ·have e0:av_.tmps.getD 24 undef=.pointer (some ⟨bk2,3,none⟩):=hR.d 0;have cx0:w.cell? ⟨bk2,3,none⟩=some (.slice (some ⟨gl,off,none⟩) m.length ca):=by rw [Lib.cell_of_heap (hpU hR.below HX2_1.out)];rfl
      refine pSq ?_;go_simp;exact hK _ _ rfl rB
     ·have b8:av_.tmps.getD 8 undef=.int .i64 (k:Int):=hR.b 8;refine pSq ?_;go_simp;exact hK _ _ rfl rB
     ·have e1:av_.tmps.getD 25 undef=.slice (some ⟨gl,off,none⟩) m.length ca:=hR.d 1;have e2:av_.tmps.getD 26 undef=.int .i64 (k:Int):=hR.d 2;have hk3:(k:Int)<(m.length:Int):=by have:=HLT.out;omega
      refine pSq ?_;go_simp;exact hK _ _ rfl rB
     ·have e3:av_.tmps.getD 27 undef=.pointer (some ⟨gl,off+k*6,none⟩):=hR.d 3;refine pSq ?_;go_simp;exact hK _ _ rfl rB
     ·have e4:av_.tmps.getD 28 undef=.pointer (some ⟨gl,off+k*6,none⟩):=hR.d 4;obtain ⟨cx0,cx1,cx2,cx3,cx4,cx5⟩:=HE.out _ (HB.out.trans (hR.below.mono HB.out.size));refine pSq ?_;go_simp;exact hK _ _ rfl rB
     ·have b3:av_.tmps.getD 3 undef=.pointer (some ⟨bk3,0,none⟩):=hR.b 3;obtain ⟨cx0,cx1,cx2⟩:=c3 (uH hR.below HX3_2);refine pSq ?_;go_simp;exact hK _ _ rfl rB
     ·have e5:av_.tmps.getD 29 undef=.agg #[.bool fr.neg,.string (encS fr.num),.string (encS fr.den)]:=hR.d 5;have e6:av_.tmps.getD 30 undef=.agg #[.bool y.neg,.string (encS y.num),.string (encS y.den)]:=hR.d 6;refine pSq ?_;go_simp;refine (C3.out w).mono ?_;rintro e w' ⟨rfl,hb⟩;exact hK _ _ (rfl) hb
     ·have e7:av_.tmps.getD 31 undef=.int .i64 cz:=hR.d 7;have htz:=Htz.out;refine pSq ?_;go_simp;exact hK _ _ rfl rB
    ·intro sv_ w hS hb;have e8:sv_ 32=.bool true:=hS 8 (by decide);simp only [over,ovL,Nat.reduceAdd,Nat.reduceLeDiff,Nat.reduceLT];have HB:=mH HB hb;have HX2_1:=uH hb HX2_1;have HX3_2:=uH hb HX3_2;have HX4_3:=uH hb HX4_3;have HX7_9:=uH hb HX7_9;obtain ⟨w9,hw⟩:∃w8,w8=w:=⟨_,rfl⟩;subst hw;rw [e8];clear hS hb e8;have HS2:Hid (lastT m y (k+1)=rt):=hD (by rw [HST.out,if_pos (by have:=Htz.out;simpa using this)]);have hk3:(k:Int)<(m.length:Int):=by have:=HLT.out;omega
     have k12:w9.cell? ⟨bk2,3,none⟩=some (.slice (some ⟨gl,off,none⟩) m.length ca):=by rw [Lib.cell_of_heap HX2_1.out];rfl
     obtain ⟨k13e0,k13e1,k13e2,k13e3,k13e4,k13e5⟩:=HE.out _ HB.out;obtain ⟨W10,hW10,HX7_9,HB,ho,f14a,f14b,f14c,k14a,k14b,k14c⟩:=putR HX7_9 HB HN0 HG7_9 rt;have HX2_1:=ho _ _ (en3 HL3_2 HL4_3 HL7_9) HX2_1;have HX3_2:=ho _ _ (en2 HL4_3 HL7_9) HX3_2;have HX4_3:=ho _ _ (en1 HL7_9) HX4_3;clear ho;have hwi:=HWI.out;go_wp2_with fail;clear hk3 k12 k13e0 k13e1 k13e2 k13e3 k13e4 k13e5 f14a f14b f14c k14a k14b k14c hW10 hwi
     go_roundw
     case rel=>exact ⟨k+1,rt,by have:=HLT.out;omega,by first|rfl|go_num,HS2,HX2_1,HX3_2,HX4_3,HX7_9,HB⟩
     case measure=>have:=HLT.out;simp [intOf];omega
  ·have hge:¬(k:Int)<(m.length:Int):=by omega
   obtain rfl:k=m.length:=by omega
   have k15:wr.cell? ⟨bk2,3,none⟩=some (.slice (some ⟨gl,off,none⟩) m.length ca):=by rw [Lib.cell_of_heap HX2_1.out];rfl
   obtain ⟨k16a,k16b,k16c⟩:=c3 HX7_9;obtain ⟨W11,hW11,HX4_3,HB,ho,f17a,f17b,f17c,k17a,k17b,k17c⟩:=putR HX4_3 HB HN0 HG4_3 sm;have HX2_1:=ho _ _ (en2 HL3_2 HL4_3) HX2_1;have HX3_2:=ho _ _ (en1 HL4_3) HX3_2;have HX7_9:=ho _ _ (ne1 HL7_9) HX7_9;clear ho;go_wp2_with fail;clear hge k15 k16a k16b k16c f17a f17b f17c k17a k17b k17c hW11;refine bodyPost_ret (rC2 HX4_3.out) rfl ?_;exact ⟨by rw [show margT m y=sm from HSM.out];rfl,by rw [HN0.out];exact HB.out⟩
theorem rAt_any (nm:ByteArray) (um ud:Int) (v:Value) (l:List Bk) (x:Rw) (hz:SzK l 1100000) (hx:x.n.size≤1100000∧x.d.size≤1100000) (wq:World) (hl:LstK wq v l) :
  Gv 42 #[.agg #[.string nm,.int .i64 um,.int .i64 ud,v],.agg #[.bool x.neg,.string x.n,.string x.d]] wq (.tuple #[.agg #[.bool (atV l x).1.neg,.string (atV l x).1.n,.string (atV l x).1.d],.int .i64 (atV l x).2]):=by
 unfold Gv
 by_cases h0:admV l x=0
 ·obtain ⟨hS,hm,hy,hf,hr⟩:=adm_ok h0;obtain ⟨m,e⟩:∃m,valsB l=m:=⟨_,rfl⟩;rw [e] at hS hm;obtain ⟨y,e2⟩:∃y,x.val=y:=⟨_,rfl⟩;rw [e2] at hy hf hr;subst hm;subst hr;rw [atV_of hS hy hf];exact rAt_ok nm um ud v m y hS hy hf wq hl
 ·rw [atV_adm,if_neg h0];exact rAt_no nm um ud v l x hz hx h0 wq hl
theorem rMarginal_any (nm:ByteArray) (um ud:Int) (v:Value) (l:List Bk) (x:Rw) (hz:SzK l 1100000) (hx:x.n.size≤1100000∧x.d.size≤1100000) (wq:World) (hl:LstK wq v l) :
  Gv 43 #[.agg #[.string nm,.int .i64 um,.int .i64 ud,v],.agg #[.bool x.neg,.string x.n,.string x.d]] wq (.tuple #[.agg #[.bool (margV l x).1.neg,.string (margV l x).1.n,.string (margV l x).1.d],.int .i64 (margV l x).2]):=by
 unfold Gv
 by_cases h0:admV l x=0
 ·obtain ⟨hS,hm,hy,hf,hr⟩:=adm_ok h0;obtain ⟨m,e⟩:∃m,valsB l=m:=⟨_,rfl⟩;rw [e] at hS hm;obtain ⟨y,e2⟩:∃y,x.val=y:=⟨_,rfl⟩;rw [e2] at hy hf hr;subst hm;subst hr;rw [margV_of hS hy hf];exact rMarginal_ok nm um ud v m y hS hy hf wq hl
 ·unfold margV;rw [if_neg h0];exact rMarginal_no nm um ud v l x hz hx h0 wq hl
set_option maxRecDepth 100000 in
theorem below_any (nm:ByteArray) (um ud:Int) (v:Value) (l:List Bk) (hz:SzK l 1100000) (wq:World) (hl:LstK wq v l) :
  Gv 86 #[.agg #[.string nm,.int .i64 um,.int .i64 ud,v]] wq (.bool (fallsT (valsB l))):=by
 unfold Gv;rw [←falls_vals];obtain ⟨ps,ca,rfl,-,hla,hca⟩:=hl.open;have HAT:=hD hca;have HZ:=hD hz;have HLA:=hD hla;obtain ⟨AB,hAB⟩:∃b,l.any (fun b=>decide (sgnR b.rt.val<0))=b:=⟨_,rfl⟩;rw [hAB];have HAB:=hD hAB;clear hca hl hz hla hAB;have HB:=hD (Below.refl wq.heap.size wq);obtain ⟨n0,hn0⟩:∃n,n=wq.heap.size:=⟨_,rfl⟩;rw [←hn0];have HN0:=hD hn0;clear hn0;go_enter Tryz.func86,Tryz.ntmps86;obtain ⟨W1,bk1,hW1,hbk1,HX1_1,HB,HG1_1,hup⟩:=boxn HB HN0 (.cells #[.string nm,.int .i64 um,.int .i64 ud,.slice ps l.length ca] 26);clear hup;have k2:W1.cell? ⟨bk1,3,none⟩=some (.slice ps l.length ca):=by rw [Lib.cell_of_heap HX1_1.out];rfl
 go_wp2_with fail;clear hW1 hbk1 k2
 go_loopw [3] (fun u3 wr=>∃(k:Nat),k≤l.length∧u3=.int .i64 (k:Int)∧Hid ((l.take k).any (fun b=>decide (sgnR b.rt.val<0))=false)∧Hid (wr.heap[bk1]? =some (.cells #[.string nm,.int .i64 um,.int .i64 ud,.slice ps l.length ca] 26 (0,0)))∧Hid (Below wq.heap.size wq wr)) (fun u3 _=>l.length-(intOf u3).toNat)
 case atStart=>exact ⟨0,by omega,by first|rfl|go_num,hD rfl,HX1_1,HB⟩
 case round =>
  obtain ⟨k,hk,rfl,HA,HX1_1,HB⟩:=hrel
  by_cases hlt:k<l.length
  ·have hlt' :(k:Int)<(l.length:Int):=by omega
   obtain ⟨g,off,rfl,hat⟩:=HAT.out k hlt;have HE:=hD hat;have c1:=fun w=>rRatSign_r (isR_raw (HZ.out _ (List.getElem_mem hlt)).2) (by decide) w
   have HT:Hid ((l.take (k+1)).any (fun b=>decide (sgnR b.rt.val<0))=decide (sgnR l[k].rt.val<0)):=hD (by rw [List.take_succ_eq_append_getElem hlt,List.any_append,HA.out];simp);have HM:Hid (decide (sgnR l[k].rt.val<0)=true→AB=true):=hD fun h=>HAB.out ▸ List.any_eq_true.2 ⟨_,List.getElem_mem hlt,h⟩
   obtain ⟨b,hb⟩:∃b,l[k]=b:=⟨_,rfl⟩;rw [hb] at HE c1 HT HM;obtain ⟨sg,hs⟩:∃s,sgnR b.rt.val=s:=⟨_,rfl⟩;rw [hs] at c1 HT HM;have HLT:=hD hlt;have C1:Hid (∀w,Gv 26 #[.agg #[.bool b.rt.neg,.string b.rt.n,.string b.rt.d]] w (.int .i64 sg)):=hD c1;clear c1 hat hb hs hlt hk HA;have HWI:Hid (IntKind.i64.wrap ((k:Int)+1)=((k+1:Nat):Int)):=hD (by rw [IntWalk.i64_in _ (by have:=HLT.out;have:=HLA.out;omega)];omega);obtain ⟨tz,htz⟩:∃xq,decide (sg<0)=xq:=⟨_,rfl⟩;have Htz:=hD htz;clear htz;rw [Htz.out] at HT HM;have k3:wr.cell? ⟨bk1,3,none⟩=some (.slice (some ⟨g,off,none⟩) l.length ca):=by rw [Lib.cell_of_heap HX1_1.out];rfl
   have k4:wr.cell? ⟨bk1,3,none⟩=some (.slice (some ⟨g,off,none⟩) l.length ca):=by rw [Lib.cell_of_heap HX1_1.out];rfl
   obtain ⟨k5e0,k5e1,k5e2,k5e3,k5e4,k5e5⟩:=HE.out _ HB.out;go_wp2_with fail;clear hlt' k3 k4 k5e0 k5e1 k5e2 k5e3 k5e4 k5e5;refine (C1.out _).mono ?_;rintro e w2 ⟨rfl,hb⟩;have HX1_1:=uH hb HX1_1;have HB:=mH HB hb;clear hb;cases tz
   case false =>
    have q6:=Htz.out;have hwi:=HWI.out;go_wp2_with fail;clear q6 hwi
    go_roundw
    case rel=>exact ⟨k+1,by have:=HLT.out;omega,by first|rfl|go_num,HT,HX1_1,HB⟩
    case measure=>have:=HLT.out;simp [intOf];omega
   case true =>
    have q7:=Htz.out;have hab:AB=true:=HM.out rfl;subst hab;go_wp2_with fail;clear q7;go_ret;exact ⟨rfl,by rw [HN0.out];exact HB.out⟩
  ·have hge:¬(k:Int)<(l.length:Int):=by omega
   have hab:AB=false:=by have:=HA.out;rw [List.take_of_length_le (by omega)] at this;rw [←HAB.out];exact this
   subst hab;have k8:wr.cell? ⟨bk1,3,none⟩=some (.slice ps l.length ca):=by rw [Lib.cell_of_heap HX1_1.out];rfl
   go_wp2_with fail;clear hge k8;go_ret;exact ⟨rfl,by rw [HN0.out];exact HB.out⟩
set_option maxRecDepth 100000 in
theorem rRising_any (nm:ByteArray) (um ud:Int) (v:Value) (l:List Bk) (hz:SzK l 1100000) (wq:World) (hl:LstK wq v l) :
  Gv 46 #[.agg #[.string nm,.int .i64 um,.int .i64 ud,v]] wq (.bool (riseV l)):=by
 unfold Gv;have HL:=hD hl;have HZ:=hD hz;clear hl hz;have HV:=hD (show riseV l=(decide (ckB l=0)&& !fallsT (valsB l)) from rfl);have c1:=fun w h=>rCheck_any nm um ud v l HZ.out w (HL.out.up h);have c2:=fun w h=>below_any nm um ud v l HZ.out w (HL.out.up h)
 obtain ⟨C,hC⟩:∃c,ckB l=c:=⟨_,rfl⟩;obtain ⟨F,hF⟩:∃b,fallsT (valsB l)=b:=⟨_,rfl⟩;rw [hC] at c1 HV;rw [hF] at c2 HV;obtain ⟨V,hV⟩:∃v,riseV l=v:=⟨_,rfl⟩;rw [hV] at HV ⊢;have C1:Hid (∀w,Below wq.heap.size wq w→Gv 45 #[.agg #[.string nm,.int .i64 um,.int .i64 ud,v]] w (.int .i64 C)):=hD fun w hp0=>c1 w hp0
 have C2:Hid (∀w,Below wq.heap.size wq w→Gv 86 #[.agg #[.string nm,.int .i64 um,.int .i64 ud,v]] w (.bool F)):=hD fun w hp0=>c2 w hp0
 clear c1 c2 hC hF hV;have HB:=hD (Below.refl wq.heap.size wq);obtain ⟨n0,hn0⟩:∃n,n=wq.heap.size:=⟨_,rfl⟩;rw [←hn0];have HN0:=hD hn0;clear hn0;go_enter Tryz.func46,Tryz.ntmps46;obtain ⟨W1,bk1,hW1,hbk1,HX1_1,HB,HG1_1,hup⟩:=boxn HB HN0 (.cells #[.string nm,.int .i64 um,.int .i64 ud,v] 26);clear hup;have k2:W1.cell? ⟨bk1,0,none⟩=some (.string nm):=by rw [Lib.cell_of_heap HX1_1.out];rfl
 have k3:W1.cell? ⟨bk1,1,none⟩=some (.int .i64 um):=by rw [Lib.cell_of_heap HX1_1.out];rfl
 have k4:W1.cell? ⟨bk1,2,none⟩=some (.int .i64 ud):=by rw [Lib.cell_of_heap HX1_1.out];rfl
 have k5:W1.cell? ⟨bk1,3,none⟩=some (v):=by rw [Lib.cell_of_heap HX1_1.out];rfl
 go_wp2_with fail;clear hW1 hbk1 k2 k3 k4 k5;refine (C1.out _ HB.out).mono ?_;rintro e w2 ⟨rfl,hb⟩;have HX1_1:=uH hb HX1_1;have HB:=mH HB hb;clear hb
 by_cases hc0:C=0
 ·subst hc0;have k6:w2.cell? ⟨bk1,0,none⟩=some (.string nm):=by rw [Lib.cell_of_heap HX1_1.out];rfl
  have k7:w2.cell? ⟨bk1,1,none⟩=some (.int .i64 um):=by rw [Lib.cell_of_heap HX1_1.out];rfl
  have k8:w2.cell? ⟨bk1,2,none⟩=some (.int .i64 ud):=by rw [Lib.cell_of_heap HX1_1.out];rfl
  have k9:w2.cell? ⟨bk1,3,none⟩=some (v):=by rw [Lib.cell_of_heap HX1_1.out];rfl
  go_wp2_with fail;clear k6 k7 k8 k9;refine (C2.out _ HB.out).mono ?_;rintro e w3 ⟨rfl,hb⟩;have HX1_1:=uH hb HX1_1;have HB:=mH HB hb;clear hb;cases F
  case false =>
   have hV:V=true:=HV.out;subst hV;go_wp2_with fail;go_ret;exact ⟨rfl,by rw [HN0.out];exact HB.out⟩
  case true =>
   have hV:V=false:=HV.out;subst hV;go_wp2_with fail;go_ret;exact ⟨rfl,by rw [HN0.out];exact HB.out⟩
 ·have hV:V=false:=by rw [HV.out,decide_eq_false hc0,Bool.false_and]
  subst hV;have hne:(C==0)=false:=by simpa using hc0
  clear HV hc0;go_wp2_with fail;go_ret;exact ⟨rfl,by rw [HN0.out];exact HB.out⟩
end Go.Proofs.YtblgfmjlajhipaaGreatDoor
