/- MoneyRaw: for every input the law returns true, and each argument reads afterwards as it read before; the listed tables read as the program lays them (the tied card). -/
import Derived.WalkKit
import Derived.Deep.LoopGhost
import Derived.Deep.QuietTactic
import Derived.BigQuiet
import Derived.Test.YtabfjecegpaoaaaGreatDoorProg
import Derived.WalkSpells
import Derived.WalkLawsBesides
import Derived.IntWalk
import Derived.Lib.Hide
import Derived.Laws.BitsAllLaws
import Derived.StillTailTactics
import Derived.Deep.OwnRows
import Derived.Lib.ConvBytes
import Derived.Below
import Derived.RangeFuncNested
import Derived.RangeFuncCalls
import Derived.RangeFuncLeaves
import Derived.Shelf.Abstract
import Derived.Lib.LaidIn
import Derived.RegionTactic
import Derived.KernelRfl
import Derived.OrdersIn
import Derived.Shelf.Strings.Builder1
import Derived.Shelf.Strings.Builder2
import Derived.Shelf.Strings.Trim
import Derived.Shelf.Small.Utf8
import Derived.Shelf.Small.Bits
import Derived.Shelf.Small.Strs
import Derived.Shelf.Strings.BuilderF
import Derived.Shelf.Strings.BuilderK
import Derived.Shelf.Strings.Builder2Cap
import Derived.Shelf.Strconv.Atoi
import Derived.Shelf.Strconv.Itoa0
import Derived.Shelf.Strconv.Itoa1
import Derived.Shelf.LaysM
import Derived.Shelf.Strconv.Itoa2
import Derived.Shelf.Strconv.Itoa3
import Derived.Shelf.Strconv.AtoiErrFast
import Derived.Shelf.Strconv.ParseIntEmpty
import Derived.Shelf.Strconv.AtoiFail
import Derived.Shelf.Strconv.Clone
import Derived.Shelf.Strconv.SyntaxError
import Derived.Shelf.LaysC
import Derived.Shelf.Strconv.ToError
import Derived.Shelf.Strconv.Lower
import Derived.Shelf.Strconv.ParseUint10
import Derived.Shelf.Strconv.ParseUint10Empty
import Derived.Shelf.Strconv.ParseUint10Any
import Derived.Shelf.Strconv.ParseInt10
import Derived.Shelf.Strconv.AtoiLong
import Derived.Shelf.Strconv.AtoiInnerAll
import Derived.Shelf.Strconv.RangeError
import Derived.Shelf.Strconv.ToErrorRange
import Derived.Shelf.Strconv.AtoiAll
import Derived.Shelf.Strconv.ErrVarAll
import Derived.Shelf.Strconv.ParseUintEmpty
import Derived.Shelf.Strconv.ParseUint10b64
import Derived.Shelf.Strconv.ParseUint10b32
import Derived.Shelf.Strconv.ParseUint10b16
import Derived.Shelf.Strconv.ParseUint10b8
import Derived.Shelf.Strconv.ParseUint10At
import Derived.Shelf.Strconv.ParseInt10At64
import Derived.Shelf.Strconv.ParseInt10At32
import Derived.Shelf.Strconv.ParseInt10At16
import Derived.Shelf.Strconv.ParseInt10At8
import Derived.Shelf.Strconv.ParseInt10All
import Derived.Shelf.Strings.Search1
import Derived.Shelf.GgClosure.StringsIndexFunc
import Derived.Ground.GgwProg
import Derived.Shelf.GgClosure.StringsIndexFuncTop
import Derived.Shelf.GgClosure.StringsRunes
import Derived.Shelf.Strings.Prefix
import Derived.Shelf.Unicode.Decode
import Derived.Shelf.Strings.Runes
import Derived.Shelf.Strings.AsciiSet
import Derived.Shelf.Bits.Mul64
import Derived.Shelf.Strings.Repeat
import Derived.Shelf.Unicode.DecodeSlow
import Derived.Shelf.Unicode.DecodeAny
import Derived.Shelf.Strings.FuncGrows
import Derived.Shelf.Strings.BuilderCap
import Derived.Test.YtabfjecegpaoaaaGreatDoorZc4
import Derived.Test.YtabfjecegpaoaaaGreatDoorK4a5
import Derived.Test.YtabfjecegpaoaaaGreatDoorK4a3
import Derived.Test.YtabfjecegpaoaaaGreatDoorZb5
import Derived.Test.YtabfjecegpaoaaaGreatDoorK4a1
import Derived.Test.YtabfjecegpaoaaaGreatDoorZb6
import Derived.Test.YtabfjecegpaoaaaGreatDoorZb2
import Derived.Test.YtabfjecegpaoaaaGreatDoorZb1
import Derived.Test.YtabfjecegpaoaaaGreatDoorZa6
import Derived.Test.YtabfjecegpaoaaaGreatDoorZa5
import Derived.Test.YtabfjecegpaoaaaGreatDoorZa4
import Derived.Test.YtabfjecegpaoaaaGreatDoorZa3
import Derived.Test.YtabfjecegpaoaaaGreatDoorZa0
import Derived.Test.YtabfjecegpaoaaaGreatDoorZa1
import Derived.Test.YtabfjecegpaoaaaGreatDoorZa2
import Derived.Test.YtabfjecegpaoaaaGreatDoorK4a2
set_option maxHeartbeats 16000000
set_option linter.unusedVariables false
namespace Go.Proofs.YtabfjecegpaoaaaGreatDoor
open Go.RowKit Go.Shelf
open Dgt
theorem rcents_1 {a:Rt} (h:(centN a).den=1) (h2:(centN a).neg=false):centsV a=.tuple #[.int .i64 (intV (centN a).num:Int),.bool (intOk (centN a).num)]:=by
 by_cases h3:(centN a).num<9223372036854775808
 ·have hy:=int_yes h3;have h4:centsOk a=true:=by unfold centsOk;simp [h,h3]
  unfold centsV centsI;rw [h4,if_pos rfl,h2,hy.1,hy.2];rfl
 ·have hy:=int_no (show 9223372036854775808≤(centN a).num by omega);have h4:centsOk a=false:=by unfold centsOk;rw [h2];simp [h3]
  unfold centsV;rw [cents_no h4,h4,hy.1,hy.2];rfl
theorem rcents_2 {a:Rt} (ha:a.Ok) (h:(centN a).den=1) (h2:(centN a).neg=true) (h3:intOk ((centN a).num-1)=false):centsV a=.tuple #[.int .i64 0,.bool false]:=by
 have h5:¬(centN a).num-1<9223372036854775808:=by simpa [intOk] using h3
 have h4:centsOk a=false:=by
  unfold centsOk;rw [h2];have e1:¬(centN a).num<9223372036854775808:=by omega
  have e2:¬(centN a).num=9223372036854775808:=by omega
  simp [e1,e2]
 unfold centsV;rw [cents_no h4,h4]
theorem rcents_3 {a:Rt} (ha:a.Ok) (h:(centN a).den=1) (h2:(centN a).neg=true) (h3:intOk ((centN a).num-1)=true):centsV a=.tuple #[.int .i64 (-(intV ((centN a).num-1):Int)-1),.bool true]:=by
 have h5:(centN a).num-1<9223372036854775808:=by simpa [intOk] using h3
 have h6:=(centN_ok ha).nz h2;have h4:centsOk a=true:=by
  unfold centsOk;rw [h2]
  by_cases e1:(centN a).num<9223372036854775808
  ·simp [h,e1]
  ·have e2:(centN a).num=9223372036854775808:=by omega
   simp [h,e2]
 unfold centsV centsI;rw [h4,if_pos rfl,h2,(int_yes h5).2];unfold iv;simp only [if_true];rw [show-(((centN a).num-1:Nat):Int)-1= -((centN a).num:Int) by omega]
def ErCents_r_4_1 (a:Rt) (m:Rt) (t:Rt):Nat→Value
 | 0=>.agg #[.bool a.neg,.string (encS a.num),.string (encS a.den)]
 | 1=>.agg #[.bool t.neg,.string (encS t.num),.string (encS t.den)]
 | 2=>.agg #[.bool m.neg,.string (encS m.num),.string (encS m.den)]
 | 3=>undef
 | 4=>undef
 | _=>undef
def ErCents_r_5_2 (m:Rt) (Q:Bool) (bk5:Nat):Nat→Value
 | 0=>.pointer (some ⟨bk5,2,none⟩)
 | 1=>.string (encS m.den)
 | 2=>.string (encS 1)
 | 3=>.bool Q
 | _=>undef
def ErCents_r_9_3 (m:Rt) (p:Nat) (b:Bool) (bk5:Nat):Nat→Value
 | 0=>.pointer (some ⟨bk5,1,none⟩)
 | 1=>.string (encS m.num)
 | 2=>.string (encS 1)
 | 3=>.tuple #[.string (encS p),.bool b]
 | 4=>.tuple #[.string (encS p),.bool b]
 | 5=>.string (encS p)
 | 6=>.bool b
 | 7=>.string (encS p)
 | 8=>.bool b
 | _=>undef
set_option maxRecDepth 100000 in
theorem rCents_r {a:Rt} (ha:a.Ok) (za:Rz a 90000) (wq:World) :
  Gv 49 #[.agg #[.bool a.neg,.string (encS a.num),.string (encS a.den)]] wq (centsV a):=by
 unfold Gv;have z2:Rz (ofR 100) 90000:=(ofR_sz (by decide) (by decide)).mono (by decide);have zm:Rz (centN a) (90000+90000):=by unfold centN;exact mulR_sz za z2
 have hok:=centN_ok ha;have c1:=fun w=>rRatRight_any a.neg (encS a.num) (encS a.den) w (Nat.le_trans (encS_size_lt za.1) (by decide)) (Nat.le_trans (encS_size_lt za.2) (by decide))
 rw [rightR_of ha] at c1;have c2:=fun w=>rRatOf_any 100 w (by decide) (by decide)
 have c3:=fun w=>rRatMul_r (IsR.of ha za) (IsR.of hun_ok z2) (by decide) (by decide) w
 rw [show mulR a (ofR 100)=centN a from rfl] at c3;have c5:=fun w=>toBelow (rInt_any (encS (centN a).num) w (Nat.le_trans (encS_size_lt zm.1) (by decide)))
 rw [numS_encS] at c5;have c6:=fun w=>rSub_any (encS (centN a).num) (encS 1) w (Nat.le_trans (encS_size_lt zm.1) (by decide)) (Nat.le_trans (encS_size_lt sz_one') (by decide))
 simp only [numS_encS] at c6;have c7:=fun w=>toBelow (rInt_any (encS ((centN a).num-1)) w (Nat.le_trans (encS_size_lt (zm.1.sub 1)) (by decide)))
 rw [numS_encS] at c7;have K0:=hD (cents_c0 (a:=a));have K1:=hD (rcents_1 (a:=a));have K2:=hD (rcents_2 (a:=a) ha);have K3:=hD (rcents_3 (a:=a) ha);have HNZ:Hid ((centN a).neg=true→1≤(centN a).num):=hD hok.nz;obtain ⟨R,h0⟩:∃R,centsV a=R:=⟨_,rfl⟩;rw [h0] at K0 K1 K2 K3 ⊢;obtain ⟨m,h1⟩:∃m,centN a=m:=⟨_,rfl⟩;rw [h1] at c3 c5 c6 c7 K0 K1 K2 K3 HNZ;obtain ⟨t,h2⟩:∃t,ofR 100=t:=⟨_,rfl⟩;rw [h2] at c2 c3;obtain ⟨Q,h4⟩:∃Q,decide (m.den≠1)=Q:=⟨_,rfl⟩;have HQ:=hD h4;obtain ⟨j,h5⟩:∃k,intOk m.num=k:=⟨_,rfl⟩;rw [h5] at c5 K1;obtain ⟨y,h6⟩:∃k,((intV m.num:Nat):Int)=k:=⟨_,rfl⟩;rw [h6] at c5 K1;obtain ⟨p,h8⟩:∃p,m.num-1=p:=⟨_,rfl⟩;rw [h8] at c6 c7 K2 K3;obtain ⟨b,h9⟩:∃b,decide (1≤m.num)=b:=⟨_,rfl⟩;rw [h9] at c6;obtain ⟨k,h10⟩:∃k,intOk p=k:=⟨_,rfl⟩;rw [h10] at c7 K2 K3;obtain ⟨n,h11⟩:∃k,((intV p:Nat):Int)=k:=⟨_,rfl⟩;rw [h11] at c7 K3;obtain ⟨nn,h7⟩:∃k,m.neg=k:=⟨_,rfl⟩;have HNN:=hD h7
 have hr:0≤n∧n≤9223372036854775807:=by
  rw [←h11];have:intV p<9223372036854775808:=by unfold intV;split;rename_i h;simpa [intOk] using h;decide
  omega
 have HW:=hD (IntWalk.i64_in (-n) (by omega));have HW2:=hD (IntWalk.i64_in (-n-1) (by omega));have C1:Hid (∀w,Gv 89 #[rtV a] w (.bool true)):=hD c1;have C2:Hid (∀w,Gv 17 #[.int .i64 100] w (.agg #[.bool t.neg,.string (encS t.num),.string (encS t.den)])):=hD c2;have C3:Hid (∀w,Gv 16 #[rtV a,rtV t] w (.agg #[.bool m.neg,.string (encS m.num),.string (encS m.den)])):=hD c3;have C4:Hid (∀w,Gv 40 #[.int .i64 1] w (.string (encS 1))):=hD fun w=>by
  have h:=(fun w=>rOf_any 1 w (by decide)) w;exact h
 have C5:Hid (∀w,Gv 90 #[.string (encS m.num)] w (.tuple #[.int .i64 y,.bool j])):=hD c5;have C6:Hid (∀w,Gv 79 #[.string (encS m.num),.string (encS 1)] w (.tuple #[.string (encS p),.bool b])):=hD c6;have C7:Hid (∀w,Gv 90 #[.string (encS p)] w (.tuple #[.int .i64 n,.bool k])):=hD c7;clear c1 c2 c3 c5 c6 c7 h0 h1 h2 h4 h5 h6 h7 h8 h9 h10 h11 hr z2 zm hok ha za;have HB:=hD (Below.refl wq.heap.size wq);obtain ⟨n0,hn0⟩:∃n,n=wq.heap.size:=⟨_,rfl⟩;rw [←hn0];have HN0:=hD hn0;clear hn0;go_enter Tryz.func49,Tryz.ntmps49;obtain ⟨W1,bk1,hW1,hbk1,HX1_1,HB,HG1_1,hup⟩:=boxR HB HN0 a;clear hup;obtain ⟨k2a,k2b,k2c⟩:=c3 HX1_1;go_wp2_with fail;clear hW1 hbk1 k2a k2b k2c;refine (C1.out _).mono ?_;rintro e w2 ⟨rfl,hb⟩;have HX1_1:=uH hb HX1_1;have HB:=mH HB hb;clear hb;go_wp2_with fail
 refine wp_region_box (w0:=w2) (by kernel_rfl) (fun ix v _=>v=ErCents_r_4_1 a m t ix) 3 4 (.cells #[.bool false,.string ⟨#[]⟩,.string ⟨#[]⟩] 26 (0,0)) (.cells #[.bool m.neg,.string (encS m.num),.string (encS m.den)] 26 (0,0)) (fun t=>(decide (5≤t)&&decide (t<6))||(decide (14≤t)&&decide (t<17))) (by kernel_rfl) (by kernel_rfl) (by kernel_rfl) (by decide) (by decide) (by kernel_rfl) rfl (fun _ _ _ _ _ h=>h) ?_ ?_ ?_ ?_
 ·intro i hi hia his ov_ listed av_ w hR K hK;have ho:=hR.at_;have hi:i<5:=hi;have hii:i=0∨i=1∨i=2:=by omega
  rcases hii with rfl|rfl|rfl
  ·simp at ho;subst ho;have b1:av_.tmps.getD 1 undef=.pointer (some ⟨bk1,0,none⟩):=hR.b 1;obtain ⟨cx0,cx1,cx2⟩:=c3 (uH hR.below HX1_1);refine pSq ?_;go_simp;exact hK _ _ rfl rB
  ·simp at ho;subst ho;refine pSq ?_;go_simp;refine (C2.out w).mono ?_;rintro e w' ⟨rfl,hb⟩;exact hK _ _ (rfl) hb
  ·simp at ho;subst ho;have e0:av_.tmps.getD 14 undef=.agg #[.bool a.neg,.string (encS a.num),.string (encS a.den)]:=hR.dep ⟨0,.data⟩ (by simp) rfl (by decide) (by decide);have e1:av_.tmps.getD 15 undef=.agg #[.bool t.neg,.string (encS t.num),.string (encS t.den)]:=hR.dep ⟨1,.data⟩ (by simp) rfl (by decide) (by decide);refine pSq ?_;go_simp;refine (C3.out w).mono ?_;rintro e w' ⟨rfl,hb⟩;exact hK _ _ (rfl) hb
 ·intro ov_ av_ w ho K hK;simp at ho;subst ho;refine pSq ?_;go_simp;exact hK _ _ _ rfl (Nat.le_refl _) (heap_alloc_new _ _) (rB.alloc (Nat.le_refl _) _)
 ·intro ov_ listed av_ w g hR hv hg hz K hK;have ho:=hR.at_;simp at ho;subst ho;have e3:av_.tmps.getD 5 undef=.pointer (some ⟨g,0,none⟩):=hv;have e2:av_.tmps.getD 16 undef=.agg #[.bool m.neg,.string (encS m.num),.string (encS m.den)]:=hR.dep ⟨2,.data⟩ (by simp) rfl (by decide) (by decide);have cz0:w.cell? ⟨g,0,none⟩=some (.bool false):=by rw [Lib.cell_of_heap hz];rfl
  have fz0:w.frozen? ⟨g,0,none⟩=false:=frz0 hz 0;have cz1:w.cell? ⟨g,1,none⟩=some (.string ⟨#[]⟩):=by rw [Lib.cell_of_heap hz];rfl
  have fz1:w.frozen? ⟨g,1,none⟩=false:=frz0 hz 1;have cz2:w.cell? ⟨g,2,none⟩=some (.string ⟨#[]⟩):=by rw [Lib.cell_of_heap hz];rfl
  have fz2:w.frozen? ⟨g,2,none⟩=false:=frz0 hz 2;refine pSq ?_;go_simp;exact hK _ (by simp [World.setCell,Array.getElem?_modify,hz]) (((rB.setCell (p:=⟨g,0,none⟩) hg (.bool m.neg)).setCell (p:=⟨g,1,none⟩) hg (.string (encS m.num))).setCell (p:=⟨g,2,none⟩) hg (.string (encS m.den)))
 ·intro sv_ w g hS hg0 hge hN hb;have e3:sv_ 5=.pointer (some ⟨g,0,none⟩):=hg0;simp only [over,ovL,Nat.reduceAdd,Nat.reduceLeDiff,Nat.reduceLT];obtain ⟨bk5,hg1⟩:∃b,g=b:=⟨_,rfl⟩;rw [hg1] at e3 hge hN;clear hg1;have HG5_3:Hid (n0≤bk5):=hD (by rw [HN0.out];exact Nat.le_trans HB.out.size hge);have HL5_3:=hD (Nat.lt_of_lt_of_le (Array.getElem?_eq_some_iff.1 HX1_1.out).1 hge);have HX5_3:=hD hN;clear hN hge hg0;have HX1_1:=uH hb HX1_1;have HB:=mH HB hb;obtain ⟨w3,hw⟩:∃w8,w8=w:=⟨_,rfl⟩;subst hw;rw [e3];clear hS hb e3;go_wp2_with fail;refine wpVl (w:=w3) (by kernel_rfl) (fun ix v _=>v=ErCents_r_5_2 m Q bk5 ix) (fun t=>(decide (17≤t)&&decide (t<21))) (by kernel_rfl) (by kernel_rfl) (by kernel_rfl) (fun _ _ _ _ _ h=>h) ?_ ?_
  ·intro i hi ov_ listed av_ w hR K hK;have ho:=hR.at_;have hi:i<4:=hi;have hii:i=0∨i=1∨i=2∨i=3:=by omega
   rcases hii with rfl|rfl|rfl|rfl<;>(simp at ho;subst ho)
   ·have b5:av_.tmps.getD 5 undef=.pointer (some ⟨bk5,0,none⟩):=hR.b 5;refine pSq ?_;go_simp;exact hK _ _ rfl rB
   ·have e0:av_.tmps.getD 17 undef=.pointer (some ⟨bk5,2,none⟩):=hR.d 0;have cx0:w.cell? ⟨bk5,2,none⟩=some (.string (encS m.den)):=by rw [Lib.cell_of_heap (hpU hR.below HX5_3.out)];rfl
    refine pSq ?_;go_simp;exact hK _ _ rfl rB
   ·refine pSq ?_;go_simp;refine (C4.out w).mono ?_;rintro e w' ⟨rfl,hb⟩;exact hK _ _ (rfl) hb
   ·have e1:av_.tmps.getD 18 undef=.string (encS m.den):=hR.d 1;have e2:av_.tmps.getD 19 undef=.string (encS 1):=hR.d 2;refine pSq ?_;go_simp;exact hK _ _ (by show Value.bool _=Value.bool Q;congr 1;rw [Bool.eq_iff_iff];simp [neqS,HQ.out]) rB
  ·intro sv_ w hS hb;have e3:sv_ 20=.bool Q:=hS 3 (by decide);simp only [over,ovL,Nat.reduceAdd,Nat.reduceLeDiff,Nat.reduceLT];have HB:=mH HB hb;have HX1_1:=uH hb HX1_1;have HX5_3:=uH hb HX5_3;obtain ⟨w4,hw⟩:∃w8,w8=w:=⟨_,rfl⟩;subst hw;rw [e3];clear hS hb e3;cases Q
   case false =>
    have k4:w4.cell? ⟨bk5,0,none⟩=some (.bool m.neg):=by rw [Lib.cell_of_heap HX5_3.out];rfl
    rw [HNN.out] at k4;cases nn
    case false =>
     have k5:w4.cell? ⟨bk5,1,none⟩=some (.string (encS m.num)):=by rw [Lib.cell_of_heap HX5_3.out];rfl
     go_wp2_with fail;clear k4 k5;refine (C5.out _).mono ?_;rintro e w5 ⟨rfl,hb⟩;have HX1_1:=uH hb HX1_1;have HX5_3:=uH hb HX5_3;have HB:=mH HB hb;clear hb;go_wp2_with fail;go_ret2;have h:=K1.out (by have:=HQ.out;simpa using this) HNN.out;subst h;exact ⟨rfl,by rw [HN0.out];exact HB.out⟩
    case true =>
     go_wp2_with fail;clear k4;refine wpVl (w:=w4) (by kernel_rfl) (fun ix v _=>v=ErCents_r_9_3 m p b bk5 ix) (fun t=>(decide (6≤t)&&decide (t<8))||(decide (29≤t)&&decide (t<36))) (by kernel_rfl) (by kernel_rfl) (by kernel_rfl) (fun _ _ _ _ _ h=>h) ?_ ?_
     ·intro i hi ov_ listed av_ w hR K hK;have ho:=hR.at_;have hi:i<9:=hi;have hii:i=0∨i=1∨i=2∨i=3∨i=4∨i=5∨i=6∨i=7∨i=8:=by omega
      rcases hii with rfl|rfl|rfl|rfl|rfl|rfl|rfl|rfl|rfl<;>(simp at ho;subst ho)
      ·have b5:av_.tmps.getD 5 undef=.pointer (some ⟨bk5,0,none⟩):=hR.b 5;refine pSq ?_;go_simp;exact hK _ _ rfl rB
      ·have e0:av_.tmps.getD 30 undef=.pointer (some ⟨bk5,1,none⟩):=hR.d 0;have cx0:w.cell? ⟨bk5,1,none⟩=some (.string (encS m.num)):=by rw [Lib.cell_of_heap (hpU hR.below HX5_3.out)];rfl
       refine pSq ?_;go_simp;exact hK _ _ rfl rB
      ·refine pSq ?_;go_simp;refine (C4.out w).mono ?_;rintro e w' ⟨rfl,hb⟩;exact hK _ _ (rfl) hb
      ·have e1:av_.tmps.getD 31 undef=.string (encS m.num):=hR.d 1;have e2:av_.tmps.getD 32 undef=.string (encS 1):=hR.d 2;refine pSq ?_;go_simp;refine (C6.out w).mono ?_;rintro e w' ⟨rfl,hb⟩;exact hK _ _ (rfl) hb
      ·have e3:av_.tmps.getD 33 undef=.tuple #[.string (encS p),.bool b]:=hR.d 3;refine pSq ?_;go_simp;exact hK _ _ rfl rB
      ·have e4:av_.tmps.getD 29 undef=.tuple #[.string (encS p),.bool b]:=hR.d 4;refine pSq ?_;go_simp;exact hK _ _ rfl rB
      ·have e4:av_.tmps.getD 29 undef=.tuple #[.string (encS p),.bool b]:=hR.d 4;refine pSq ?_;go_simp;exact hK _ _ rfl rB
      ·have e5:av_.tmps.getD 34 undef=.string (encS p):=hR.d 5;refine pSq ?_;go_simp;exact hK _ _ rfl rB
      ·have e6:av_.tmps.getD 35 undef=.bool b:=hR.d 6;refine pSq ?_;go_simp;exact hK _ _ rfl rB
     ·intro sv_ w hS hb;have e7:sv_ 6=.string (encS p):=hS 7 (by decide);simp only [over,ovL,Nat.reduceAdd,Nat.reduceLeDiff,Nat.reduceLT];have HB:=mH HB hb;have HX1_1:=uH hb HX1_1;have HX5_3:=uH hb HX5_3;obtain ⟨w6,hw⟩:∃w8,w8=w:=⟨_,rfl⟩;subst hw;rw [e7];clear hS hb e7;go_wp2_with fail;refine (C7.out _).mono ?_;rintro e w7 ⟨rfl,hb⟩;have HX1_1:=uH hb HX1_1;have HX5_3:=uH hb HX5_3;have HB:=mH HB hb;clear hb;cases k
      case false =>
       go_wp2_with fail;go_ret2;have h:=K2.out (by have:=HQ.out;simpa using this) HNN.out trivial;subst h;exact ⟨rfl,by rw [HN0.out];exact HB.out⟩
      case true =>
       have q6:=HW.out;have q7:=HW2.out;go_wp2_with fail;clear q6 q7;go_ret2;have h:=K3.out (by have:=HQ.out;simpa using this) HNN.out trivial;subst h;exact ⟨rfl,by rw [HN0.out];exact HB.out⟩
   case true =>
    go_wp2_with fail;go_ret2;have h:=K0.out (by have:=HQ.out;simpa using this);subst h;exact ⟨rfl,by rw [HN0.out];exact HB.out⟩
set_option maxRecDepth 100000 in
theorem rCents_no (na:Bool) (sa da:ByteArray) (za:sa.size≤100000) (zda:da.size≤100000) (h:rightR na sa da=false) (wq:World) :
  Gv 49 #[.agg #[.bool na,.string sa,.string da]] wq (.tuple #[.int .i64 0,.bool false]):=by
 unfold Gv;have c1:=fun w=>rRatRight_any na sa da w (by omega) (by omega);rw [h] at c1
 have C1:Hid (∀w,Gv 89 #[.agg #[.bool na,.string sa,.string da]] w (.bool false)):=hD c1;clear c1 h za zda;have HB:=hD (Below.refl wq.heap.size wq);obtain ⟨n0,hn0⟩:∃n,n=wq.heap.size:=⟨_,rfl⟩;rw [←hn0];have HN0:=hD hn0;clear hn0;go_enter Tryz.func49,Tryz.ntmps49;obtain ⟨W1,bk1,hW1,hbk1,HX1_1,HB,HG1_1,hup⟩:=boxS HB HN0 na sa da;clear hup;obtain ⟨k2a,k2b,k2c⟩:=c3 HX1_1;go_wp2_with fail;clear hW1 hbk1 k2a k2b k2c;refine (C1.out _).mono ?_;rintro e w2 ⟨rfl,hb⟩;have HX1_1:=uH hb HX1_1;have HB:=mH HB hb;clear hb;go_wp2_with fail;go_ret2;exact ⟨rfl,by rw [HN0.out];exact HB.out⟩
def ErText_r_4_1 (a:Rt) (t:Rt) (m:Rt) (nn:Bool):Nat→Value
 | 0=>.agg #[.bool nn,.string (encS a.num),.string (encS a.den)]
 | 1=>.agg #[.bool t.neg,.string (encS t.num),.string (encS t.den)]
 | 2=>.agg #[.bool m.neg,.string (encS m.num),.string (encS m.den)]
 | 3=>undef
 | 4=>undef
 | _=>undef
def ErText_r_5_2 (m:Rt) (u:Nat) (c:Nat) (bk6:Nat):Nat→Value
 | 0=>.pointer (some ⟨bk6,1,none⟩)
 | 1=>.string (encS m.num)
 | 2=>.string (encS 100)
 | 3=>.tuple #[.string (encS u),.string (encS c),.bool true]
 | 4=>.tuple #[.string (encS u),.string (encS c),.bool true]
 | 5=>.string (encS u)
 | 6=>.string (encS c)
 | 7=>.bool true
 | 8=>.string (encS u)
 | 9=>.string (encS c)
 | 10=>.bool true
 | _=>undef
set_option maxRecDepth 100000 in
theorem rText_r {a:Rt} (ha:a.Ok) (za:Rz a 90000) (wq:World) :
  Gv 50 #[.agg #[.bool a.neg,.string (encS a.num),.string (encS a.den)]] wq (textV a):=by
 unfold Gv;have z2:Rz (ofR 100) 90000:=(ofR_sz (by decide) (by decide)).mono (by decide);have zm:Rz (centN a) (90000+90000):=by unfold centN;exact mulR_sz za z2
 have c1:=fun w=>rCents_r ha za w
 unfold centsV at c1;have c2:=fun w=>rRatOf_any 100 w (by decide) (by decide)
 have c3:=fun w=>rRatMul_r (IsR.of ha za) (IsR.of hun_ok z2) (by decide) (by decide) w
 rw [show mulR a (ofR 100)=centN a from rfl] at c3;unfold rtV at c3;have c4:=fun w=>rOf_any 100 w (by decide)
 rw [show (100:Int).toNat=100 from rfl] at c4;have c5:=fun w=>rQuo_any (encS (centN a).num) (encS 100) w (Nat.le_trans (encS_size_lt zm.1) (by decide)) (Nat.le_trans (encS_size_lt (show Sz 100 1 by unfold Sz;decide)) (by decide))
 simp only [numS_encS] at c5;rw [show remS (centN a).num 100=(centN a).num%100 from rfl,show decide (0<100)=true from rfl] at c5;have hc:(centN a).num%100<100:=Nat.mod_lt _ (by decide);have su:Sz ((centN a).num/100) 180000:=zm.1.div _;have sc:Sz ((centN a).num%100) 180000:=zm.1.mod _;have iu:=decL_len su;have hU:((Lib.decDigits ((centN a).num/100)).length:Int)≤600000:=by omega
 have c6:=fun w=>rText_any (encS ((centN a).num/100)) w (Nat.le_trans (encS_size_lt su) (by decide))
 have c7:=fun w=>rText_any (encS ((centN a).num%100)) w (Nat.le_trans (encS_size_lt sc) (by decide))
 simp only [numS_encS] at c6 c7;have K1:=hD (fun (x:UInt8)=>text_one (a:=a) (x:=x));have K2:=hD (fun (x y:UInt8)=>text_two (a:=a) (x:=x) (y:=y));have HV:Hid (textV a=if centsOk a=true then .tuple #[.string ⟨(textM a).toArray⟩,.bool true] else .tuple #[.string ⟨#[]⟩,.bool false]):=hD rfl;obtain ⟨R,h0⟩:∃R,textV a=R:=⟨_,rfl⟩;rw [h0] at HV ⊢;obtain ⟨ok,h1⟩:∃k,centsOk a=k:=⟨_,rfl⟩;rw [h1] at c1 HV;obtain ⟨ci,h2⟩:∃k,centsI a=k:=⟨_,rfl⟩;rw [h2] at c1;obtain ⟨X,h3⟩:∃X,(⟨(textM a).toArray⟩:ByteArray)=X:=⟨_,rfl⟩;rw [h3] at K1 K2 HV;obtain ⟨m,h4⟩:∃m,centN a=m:=⟨_,rfl⟩;rw [h4] at c3 c5 K1 K2 c6 c7 hc hU;obtain ⟨u,h5⟩:∃u,m.num/100=u:=⟨_,rfl⟩;rw [h5] at c5 K1 K2 c6 hU;obtain ⟨c,h6⟩:∃u,m.num%100=u:=⟨_,rfl⟩;rw [h6] at c5 K1 K2 c7 hc;obtain ⟨U,h7⟩:∃U,Lib.decDigits u=U:=⟨_,rfl⟩;rw [h7] at c6 K1 K2 hU;obtain ⟨t,h8⟩:∃t,ofR 100=t:=⟨_,rfl⟩;rw [h8] at c2 c3
 obtain ⟨nn,h9⟩:∃b,a.neg=b:=⟨_,rfl⟩;rw [h9] at c1 c3 K1 K2 ⊢;have C1:Hid (∀w,Gv 49 #[.agg #[.bool nn,.string (encS a.num),.string (encS a.den)]] w (.tuple #[.int .i64 ci,.bool ok])):=hD c1;have C2:Hid (∀w,Gv 17 #[.int .i64 100] w (.agg #[.bool t.neg,.string (encS t.num),.string (encS t.den)])):=hD c2;have C3:Hid (∀w,Gv 16 #[.agg #[.bool nn,.string (encS a.num),.string (encS a.den)],rtV t] w (.agg #[.bool m.neg,.string (encS m.num),.string (encS m.den)])):=hD c3;have C4:Hid (∀w,Gv 40 #[.int .i64 100] w (.string (encS 100))):=hD c4;have C5:Hid (∀w,Gv 88 #[.string (encS m.num),.string (encS 100)] w (.tuple #[.string (encS u),.string (encS c),.bool true])):=hD c5;have C6:Hid (∀w,Gv 91 #[.string (encS u)] w (.string ⟨U.toArray⟩)):=hD c6;have HC7:=hD c7;have HCC:=hD hc;have HU:=hD hU;clear c1 c2 c3 c4 c5 c6 c7 h0 h1 h2 h3 h4 h5 h6 h7 h8 h9 z2 zm hc su sc iu hU ha za
 have HB:=hD (Below.refl wq.heap.size wq);obtain ⟨n0,hn0⟩:∃n,n=wq.heap.size:=⟨_,rfl⟩;rw [←hn0];have HN0:=hD hn0;clear hn0;go_enter Tryz.func50,Tryz.ntmps50;obtain ⟨W1,bk1,hW1,hbk1,HX1_1,HB,HG1_1,hup⟩:=boxn HB HN0 (.cells #[.bool nn,.string (encS a.num),.string (encS a.den)] 26);clear hup;obtain ⟨k2a,k2b,k2c⟩:=c3 HX1_1;go_wp2_with fail;clear hW1 hbk1 k2a k2b k2c;refine (C1.out _).mono ?_;rintro e w2 ⟨rfl,hb⟩;have HX1_1:=uH hb HX1_1;have HB:=mH HB hb;clear hb;cases ok
 case false =>
  go_wp2_with fail;go_ret2;have h:R=.tuple #[.string ⟨#[]⟩,.bool false]:=by rw [HV.out];rfl
  subst h;exact ⟨rfl,by rw [HN0.out];exact HB.out⟩
 case true =>
  go_wp2_with fail;refine wp_region_box (w0:=w2) (by kernel_rfl) (fun ix v _=>v=ErText_r_4_1 a t m nn ix) 3 4 (.cells #[.bool false,.string ⟨#[]⟩,.string ⟨#[]⟩] 26 (0,0)) (.cells #[.bool m.neg,.string (encS m.num),.string (encS m.den)] 26 (0,0)) (fun t=>(decide (6≤t)&&decide (t<7))||(decide (19≤t)&&decide (t<22))) (by kernel_rfl) (by kernel_rfl) (by kernel_rfl) (by decide) (by decide) (by kernel_rfl) rfl (fun _ _ _ _ _ h=>h) ?_ ?_ ?_ ?_
  ·intro i hi hia his ov_ listed av_ w hR K hK;have ho:=hR.at_;have hi:i<5:=hi;have hii:i=0∨i=1∨i=2:=by omega
   rcases hii with rfl|rfl|rfl
   ·simp at ho;subst ho;have b1:av_.tmps.getD 1 undef=.pointer (some ⟨bk1,0,none⟩):=hR.b 1;obtain ⟨cx0,cx1,cx2⟩:=c3 (uH hR.below HX1_1);refine pSq ?_;go_simp;exact hK _ _ rfl rB
   ·simp at ho;subst ho;refine pSq ?_;go_simp;refine (C2.out w).mono ?_;rintro e w' ⟨rfl,hb⟩;exact hK _ _ (rfl) hb
   ·simp at ho;subst ho;have e0:av_.tmps.getD 19 undef=.agg #[.bool nn,.string (encS a.num),.string (encS a.den)]:=hR.dep ⟨0,.data⟩ (by simp) rfl (by decide) (by decide);have e1:av_.tmps.getD 20 undef=.agg #[.bool t.neg,.string (encS t.num),.string (encS t.den)]:=hR.dep ⟨1,.data⟩ (by simp) rfl (by decide) (by decide);refine pSq ?_;go_simp;refine (C3.out w).mono ?_;rintro e w' ⟨rfl,hb⟩;exact hK _ _ (rfl) hb
  ·intro ov_ av_ w ho K hK;simp at ho;subst ho;refine pSq ?_;go_simp;exact hK _ _ _ rfl (Nat.le_refl _) (heap_alloc_new _ _) (rB.alloc (Nat.le_refl _) _)
  ·intro ov_ listed av_ w g hR hv hg hz K hK;have ho:=hR.at_;simp at ho;subst ho;have e3:av_.tmps.getD 6 undef=.pointer (some ⟨g,0,none⟩):=hv;have e2:av_.tmps.getD 21 undef=.agg #[.bool m.neg,.string (encS m.num),.string (encS m.den)]:=hR.dep ⟨2,.data⟩ (by simp) rfl (by decide) (by decide);have cz0:w.cell? ⟨g,0,none⟩=some (.bool false):=by rw [Lib.cell_of_heap hz];rfl
   have fz0:w.frozen? ⟨g,0,none⟩=false:=frz0 hz 0;have cz1:w.cell? ⟨g,1,none⟩=some (.string ⟨#[]⟩):=by rw [Lib.cell_of_heap hz];rfl
   have fz1:w.frozen? ⟨g,1,none⟩=false:=frz0 hz 1;have cz2:w.cell? ⟨g,2,none⟩=some (.string ⟨#[]⟩):=by rw [Lib.cell_of_heap hz];rfl
   have fz2:w.frozen? ⟨g,2,none⟩=false:=frz0 hz 2;refine pSq ?_;go_simp;exact hK _ (by simp [World.setCell,Array.getElem?_modify,hz]) (((rB.setCell (p:=⟨g,0,none⟩) hg (.bool m.neg)).setCell (p:=⟨g,1,none⟩) hg (.string (encS m.num))).setCell (p:=⟨g,2,none⟩) hg (.string (encS m.den)))
  ·intro sv_ w g hS hg0 hge hN hb;have e3:sv_ 6=.pointer (some ⟨g,0,none⟩):=hg0;simp only [over,ovL,Nat.reduceAdd,Nat.reduceLeDiff,Nat.reduceLT];obtain ⟨bk6,hg1⟩:∃b,g=b:=⟨_,rfl⟩;rw [hg1] at e3 hge hN;clear hg1;have HG6_3:Hid (n0≤bk6):=hD (by rw [HN0.out];exact Nat.le_trans HB.out.size hge);have HL6_3:=hD (Nat.lt_of_lt_of_le (Array.getElem?_eq_some_iff.1 HX1_1.out).1 hge);have HX6_3:=hD hN;clear hN hge hg0;have HX1_1:=uH hb HX1_1;have HB:=mH HB hb;obtain ⟨w3,hw⟩:∃w8,w8=w:=⟨_,rfl⟩;subst hw;rw [e3];clear hS hb e3;go_wp2_with fail;refine wpVl (w:=w3) (by kernel_rfl) (fun ix v _=>v=ErText_r_5_2 m u c bk6 ix) (fun t=>(decide (7≤t)&&decide (t<10))||(decide (22≤t)&&decide (t<30))) (by kernel_rfl) (by kernel_rfl) (by kernel_rfl) (fun _ _ _ _ _ h=>h) ?_ ?_
   ·intro i hi ov_ listed av_ w hR K hK;have ho:=hR.at_;have hi:i<11:=hi;have hii:i=0∨i=1∨i=2∨i=3∨i=4∨i=5∨i=6∨i=7∨i=8∨i=9∨i=10:=by omega
    rcases hii with rfl|rfl|rfl|rfl|rfl|rfl|rfl|rfl|rfl|rfl|rfl<;>(simp at ho;subst ho)
    ·have b6:av_.tmps.getD 6 undef=.pointer (some ⟨bk6,0,none⟩):=hR.b 6;refine pSq ?_;go_simp;exact hK _ _ rfl rB
    ·have e0:av_.tmps.getD 23 undef=.pointer (some ⟨bk6,1,none⟩):=hR.d 0;have cx0:w.cell? ⟨bk6,1,none⟩=some (.string (encS m.num)):=by rw [Lib.cell_of_heap (hpU hR.below HX6_3.out)];rfl
     refine pSq ?_;go_simp;exact hK _ _ rfl rB
    ·refine pSq ?_;go_simp;refine (C4.out w).mono ?_;rintro e w' ⟨rfl,hb⟩;exact hK _ _ (rfl) hb
    ·have e1:av_.tmps.getD 24 undef=.string (encS m.num):=hR.d 1;have e2:av_.tmps.getD 25 undef=.string (encS 100):=hR.d 2;refine pSq ?_;go_simp;refine (C5.out w).mono ?_;rintro e w' ⟨rfl,hb⟩;exact hK _ _ (rfl) hb
    ·have e3:av_.tmps.getD 26 undef=.tuple #[.string (encS u),.string (encS c),.bool true]:=hR.d 3;refine pSq ?_;go_simp;exact hK _ _ rfl rB
    ·have e4:av_.tmps.getD 22 undef=.tuple #[.string (encS u),.string (encS c),.bool true]:=hR.d 4;refine pSq ?_;go_simp;exact hK _ _ rfl rB
    ·have e4:av_.tmps.getD 22 undef=.tuple #[.string (encS u),.string (encS c),.bool true]:=hR.d 4;refine pSq ?_;go_simp;exact hK _ _ rfl rB
    ·have e4:av_.tmps.getD 22 undef=.tuple #[.string (encS u),.string (encS c),.bool true]:=hR.d 4;refine pSq ?_;go_simp;exact hK _ _ rfl rB
    ·have e5:av_.tmps.getD 27 undef=.string (encS u):=hR.d 5;refine pSq ?_;go_simp;exact hK _ _ rfl rB
    ·have e6:av_.tmps.getD 28 undef=.string (encS c):=hR.d 6;refine pSq ?_;go_simp;exact hK _ _ rfl rB
    ·have e7:av_.tmps.getD 29 undef=.bool true:=hR.d 7;refine pSq ?_;go_simp;exact hK _ _ rfl rB
   ·intro sv_ w hS hb;have e8:sv_ 7=.string (encS u):=hS 8 (by decide);have e9:sv_ 8=.string (encS c):=hS 9 (by decide);simp only [over,ovL,Nat.reduceAdd,Nat.reduceLeDiff,Nat.reduceLT];have HB:=mH HB hb;have HX1_1:=uH hb HX1_1;have HX6_3:=uH hb HX6_3;obtain ⟨w4,hw⟩:∃w8,w8=w:=⟨_,rfl⟩;subst hw;rw [e8,e9];clear hS hb e8 e9;have k4:w4.cell? ⟨bk1,0,none⟩=some (.bool nn):=by rw [Lib.cell_of_heap HX1_1.out];rfl
    cases nn
    case false =>
     by_cases hc:c<10
     ·have hx:=Lib.decDigits_one hc;obtain ⟨x,hx1⟩:∃x,UInt8.ofNat (48+c)=x:=⟨_,rfl⟩;rw [hx1] at hx;clear hx1;have C7:Hid (∀w,Gv 91 #[.string (encS c)] w (.string ⟨#[x]⟩)):=hD fun w=>by
       have h:=HC7.out w;rw [hx] at h;exact h
      have HX:=hD (K1.out x hc hx);go_wp2_with fail;clear k4;refine (C7.out _).mono ?_;rintro e w5 ⟨rfl,hb⟩;have HX1_1:=uH hb HX1_1;have HX6_3:=uH hb HX6_3;have HB:=mH HB hb;clear hb;have hU:=HU.out;go_wp2_with fail;refine (C6.out _).mono ?_;rintro e w6 ⟨rfl,hb⟩;have HX1_1:=uH hb HX1_1;have HX6_3:=uH hb HX6_3;have HB:=mH HB hb;clear hb;have hU:=HU.out;go_wp2_with fail;go_ret2;have h:R=.tuple #[.string X,.bool true]:=by rw [HV.out];rfl
      subst h;rw [HX.out];exact ⟨by first|rfl|simp,by rw [HN0.out];exact HB.out⟩
     ·have hx:=Lib.decDigits_two hc HCC.out;obtain ⟨x,hx1⟩:∃x,UInt8.ofNat (48+c/10)=x:=⟨_,rfl⟩;obtain ⟨y,hx2⟩:∃x,UInt8.ofNat (48+c%10)=x:=⟨_,rfl⟩;rw [hx1,hx2] at hx;clear hx1 hx2;have C7:Hid (∀w,Gv 91 #[.string (encS c)] w (.string ⟨#[x,y]⟩)):=hD fun w=>by
       have h:=HC7.out w;rw [hx] at h;exact h
      have HX:=hD (K2.out x y hc hx);go_wp2_with fail;clear k4;refine (C7.out _).mono ?_;rintro e w7 ⟨rfl,hb⟩;have HX1_1:=uH hb HX1_1;have HX6_3:=uH hb HX6_3;have HB:=mH HB hb;clear hb;have hU:=HU.out;go_wp2_with fail;refine (C6.out _).mono ?_;rintro e w8 ⟨rfl,hb⟩;have HX1_1:=uH hb HX1_1;have HX6_3:=uH hb HX6_3;have HB:=mH HB hb;clear hb;have hU:=HU.out;go_wp2_with fail;go_ret2;have h:R=.tuple #[.string X,.bool true]:=by rw [HV.out];rfl
      subst h;rw [HX.out];exact ⟨by first|rfl|simp,by rw [HN0.out];exact HB.out⟩
    case true =>
     by_cases hc:c<10
     ·have hx:=Lib.decDigits_one hc;obtain ⟨x,hx1⟩:∃x,UInt8.ofNat (48+c)=x:=⟨_,rfl⟩;rw [hx1] at hx;clear hx1;have C7:Hid (∀w,Gv 91 #[.string (encS c)] w (.string ⟨#[x]⟩)):=hD fun w=>by
       have h:=HC7.out w;rw [hx] at h;exact h
      have HX:=hD (K1.out x hc hx);go_wp2_with fail;clear k4;refine (C7.out _).mono ?_;rintro e w9 ⟨rfl,hb⟩;have HX1_1:=uH hb HX1_1;have HX6_3:=uH hb HX6_3;have HB:=mH HB hb;clear hb;have hU:=HU.out;go_wp2_with fail;refine (C6.out _).mono ?_;rintro e w10 ⟨rfl,hb⟩;have HX1_1:=uH hb HX1_1;have HX6_3:=uH hb HX6_3;have HB:=mH HB hb;clear hb;have hU:=HU.out;go_wp2_with fail;go_ret2;have h:R=.tuple #[.string X,.bool true]:=by rw [HV.out];rfl
      subst h;rw [HX.out];exact ⟨by first|rfl|simp,by rw [HN0.out];exact HB.out⟩
     ·have hx:=Lib.decDigits_two hc HCC.out;obtain ⟨x,hx1⟩:∃x,UInt8.ofNat (48+c/10)=x:=⟨_,rfl⟩;obtain ⟨y,hx2⟩:∃x,UInt8.ofNat (48+c%10)=x:=⟨_,rfl⟩;rw [hx1,hx2] at hx;clear hx1 hx2;have C7:Hid (∀w,Gv 91 #[.string (encS c)] w (.string ⟨#[x,y]⟩)):=hD fun w=>by
       have h:=HC7.out w;rw [hx] at h;exact h
      have HX:=hD (K2.out x y hc hx);go_wp2_with fail;clear k4;refine (C7.out _).mono ?_;rintro e w11 ⟨rfl,hb⟩;have HX1_1:=uH hb HX1_1;have HX6_3:=uH hb HX6_3;have HB:=mH HB hb;clear hb;have hU:=HU.out;go_wp2_with fail;refine (C6.out _).mono ?_;rintro e w12 ⟨rfl,hb⟩;have HX1_1:=uH hb HX1_1;have HX6_3:=uH hb HX6_3;have HB:=mH HB hb;clear hb;have hU:=HU.out;go_wp2_with fail;go_ret2;have h:R=.tuple #[.string X,.bool true]:=by rw [HV.out];rfl
      subst h;rw [HX.out];exact ⟨by first|rfl|simp,by rw [HN0.out];exact HB.out⟩
set_option maxRecDepth 100000 in
theorem rText_no (na:Bool) (sa da:ByteArray) (za:sa.size≤100000) (zda:da.size≤100000) (h:rightR na sa da=false) (wq:World) :
  Gv 50 #[.agg #[.bool na,.string sa,.string da]] wq (.tuple #[.string ⟨#[]⟩,.bool false]):=by
 unfold Gv;have c1:=fun w=>rCents_no na sa da za zda h w
 have C1:Hid (∀w,Gv 49 #[.agg #[.bool na,.string sa,.string da]] w (.tuple #[.int .i64 0,.bool false])):=hD c1;clear c1 h za zda;have HB:=hD (Below.refl wq.heap.size wq);obtain ⟨n0,hn0⟩:∃n,n=wq.heap.size:=⟨_,rfl⟩;rw [←hn0];have HN0:=hD hn0;clear hn0;go_enter Tryz.func50,Tryz.ntmps50;obtain ⟨W1,bk1,hW1,hbk1,HX1_1,HB,HG1_1,hup⟩:=boxS HB HN0 na sa da;clear hup;obtain ⟨k2a,k2b,k2c⟩:=c3 HX1_1;go_wp2_with fail;clear hW1 hbk1 k2a k2b k2c;refine (C1.out _).mono ?_;rintro e w2 ⟨rfl,hb⟩;have HX1_1:=uH hb HX1_1;have HB:=mH HB hb;clear hb;go_wp2_with fail;go_ret2;exact ⟨rfl,by rw [HN0.out];exact HB.out⟩
end Go.Proofs.YtabfjecegpaoaaaGreatDoor
