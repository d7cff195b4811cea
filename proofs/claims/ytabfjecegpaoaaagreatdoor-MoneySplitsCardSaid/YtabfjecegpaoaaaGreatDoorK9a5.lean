/- MoneySplits: for every input the law returns true, and each argument reads afterwards as it read before; the listed tables read as the program lays them (the tied card). -/
import Derived.WalkKit
import Derived.Deep.LoopGhost
import Derived.Deep.QuietTactic
import Derived.BigQuiet
import Derived.Test.YtabfjecegpaoaaaGreatDoorProg
import Derived.WalkSpells
import Derived.WalkLawsBesides
import Derived.IntWalk
import Derived.Lib.Hide
import Derived.Laws.BitsAllLaws
import Derived.StillTailTactics
import Derived.Deep.OwnRows
import Derived.Lib.ConvBytes
import Derived.Below
import Derived.RangeFuncNested
import Derived.RangeFuncCalls
import Derived.RangeFuncLeaves
import Derived.Shelf.Abstract
import Derived.Lib.LaidIn
import Derived.RegionTactic
import Derived.KernelRfl
import Derived.OrdersIn
import Derived.Shelf.Strings.Builder1
import Derived.Shelf.Strings.Builder2
import Derived.Shelf.Strings.Trim
import Derived.Shelf.Small.Utf8
import Derived.Shelf.Small.Bits
import Derived.Shelf.Small.Strs
import Derived.Shelf.Strings.BuilderF
import Derived.Shelf.Strings.BuilderK
import Derived.Shelf.Strings.Builder2Cap
import Derived.Shelf.Strconv.Atoi
import Derived.Shelf.Strconv.Itoa0
import Derived.Shelf.Strconv.Itoa1
import Derived.Shelf.LaysM
import Derived.Shelf.Strconv.Itoa2
import Derived.Shelf.Strconv.Itoa3
import Derived.Shelf.Strconv.AtoiErrFast
import Derived.Shelf.Strconv.ParseIntEmpty
import Derived.Shelf.Strconv.AtoiFail
import Derived.Shelf.Strconv.Clone
import Derived.Shelf.Strconv.SyntaxError
import Derived.Shelf.LaysC
import Derived.Shelf.Strconv.ToError
import Derived.Shelf.Strconv.Lower
import Derived.Shelf.Strconv.ParseUint10
import Derived.Shelf.Strconv.ParseUint10Empty
import Derived.Shelf.Strconv.ParseUint10Any
import Derived.Shelf.Strconv.ParseInt10
import Derived.Shelf.Strconv.AtoiLong
import Derived.Shelf.Strconv.AtoiInnerAll
import Derived.Shelf.Strconv.RangeError
import Derived.Shelf.Strconv.ToErrorRange
import Derived.Shelf.Strconv.AtoiAll
import Derived.Shelf.Strconv.ErrVarAll
import Derived.Shelf.Strconv.ParseUintEmpty
import Derived.Shelf.Strconv.ParseUint10b64
import Derived.Shelf.Strconv.ParseUint10b32
import Derived.Shelf.Strconv.ParseUint10b16
import Derived.Shelf.Strconv.ParseUint10b8
import Derived.Shelf.Strconv.ParseUint10At
import Derived.Shelf.Strconv.ParseInt10At64
import Derived.Shelf.Strconv.ParseInt10At32
import Derived.Shelf.Strconv.ParseInt10At16
import Derived.Shelf.Strconv.ParseInt10At8
import Derived.Shelf.Strconv.ParseInt10All
import Derived.Shelf.Strings.Search1
import Derived.Shelf.GgClosure.StringsIndexFunc
import Derived.Ground.GgwProg
import Derived.Shelf.GgClosure.StringsIndexFuncTop
import Derived.Shelf.GgClosure.StringsRunes
import Derived.Shelf.Strings.Prefix
import Derived.Shelf.Strings.Runes
import Derived.Shelf.Strings.AsciiSet
import Derived.Shelf.Bits.Mul64
import Derived.Shelf.Strings.Repeat
import Derived.Shelf.Unicode.DecodeSlow
import Derived.Shelf.Unicode.DecodeAny
import Derived.Shelf.Strings.FuncGrows
import Derived.Shelf.Strings.BuilderCap
import Derived.Laws.AppendOwnNone
import Derived.Lib.AtoiAll
import Derived.Lib.UnsafeStr
import Derived.Lib.AppendIntMem
import Derived.Lib.ItoaNum
import Derived.Lib.Itoa
import Derived.OwnWalkIn
import Derived.TacticsInMore
import Derived.LoopNIn
import Derived.LoopIn
import Derived.RangeFuncKeeps
import Derived.Lib.IndexMore
import Derived.Laws.AppendOwn
import Derived.Deep.DeepAppendWide
import Derived.Test.YtabfjecegpaoaaaGreatDoorZc4
import Derived.Test.YtabfjecegpaoaaaGreatDoorZc1
import Derived.Test.YtabfjecegpaoaaaGreatDoorZc0
import Derived.Test.YtabfjecegpaoaaaGreatDoorZb9
import Derived.Test.YtabfjecegpaoaaaGreatDoorZb8
import Derived.Test.YtabfjecegpaoaaaGreatDoorZb2
import Derived.Test.YtabfjecegpaoaaaGreatDoorZb1
import Derived.Test.YtabfjecegpaoaaaGreatDoorZa6
import Derived.Test.YtabfjecegpaoaaaGreatDoorZa5
import Derived.Test.YtabfjecegpaoaaaGreatDoorZa4
import Derived.Test.YtabfjecegpaoaaaGreatDoorZa3
import Derived.Test.YtabfjecegpaoaaaGreatDoorZa0
import Derived.Test.YtabfjecegpaoaaaGreatDoorZa1
import Derived.Test.YtabfjecegpaoaaaGreatDoorZa2
import Derived.Test.YtabfjecegpaoaaaGreatDoorK9a3
import Derived.Test.YtabfjecegpaoaaaGreatDoorZb4
import Derived.Test.YtabfjecegpaoaaaGreatDoorZb3
import Derived.Test.YtabfjecegpaoaaaGreatDoorZb6
import Derived.Test.YtabfjecegpaoaaaGreatDoorZb5
import Derived.Test.YtabfjecegpaoaaaGreatDoorZa9
import Derived.Test.YtabfjecegpaoaaaGreatDoorZa8
import Derived.Test.YtabfjecegpaoaaaGreatDoorK9a0
import Derived.Test.YtabfjecegpaoaaaGreatDoorK9a2
import Derived.Test.YtabfjecegpaoaaaGreatDoorZb0
import Derived.Test.YtabfjecegpaoaaaGreatDoorK9a4
import Derived.Test.YtabfjecegpaoaaaGreatDoorK9a1
import Derived.Test.YtabfjecegpaoaaaGreatDoorZc2
import Derived.Test.YtabfjecegpaoaaaGreatDoorZb7
import Derived.Test.YtabfjecegpaoaaaGreatDoorZc6
import Derived.Test.YtabfjecegpaoaaaGreatDoorZc3
import Derived.Test.YtabfjecegpaoaaaGreatDoorZc5
set_option maxHeartbeats 16000000
set_option linter.unusedVariables false
namespace Go.Proofs.YtabfjecegpaoaaaGreatDoor
open Go.RowKit Go.Shelf
open Dgt
theorem rcents_1 {a:Rt} (h:(centN a).den=1) (h2:(centN a).neg=false):centsV a=.tuple #[.int .i64 (intV (centN a).num:Int),.bool (intOk (centN a).num)]:=by
 by_cases h3:(centN a).num<9223372036854775808
 ·have hy:=int_yes h3;have h4:centsOk a=true:=by unfold centsOk;simp [h,h3]
  unfold centsV centsI;rw [h4,if_pos rfl,h2,hy.1,hy.2];rfl
 ·have hy:=int_no (show 9223372036854775808≤(centN a).num by omega);have h4:centsOk a=false:=by unfold centsOk;rw [h2];simp [h3]
  unfold centsV;rw [cents_no h4,h4,hy.1,hy.2];rfl
theorem rcents_2 {a:Rt} (ha:a.Ok) (h:(centN a).den=1) (h2:(centN a).neg=true) (h3:intOk ((centN a).num-1)=false):centsV a=.tuple #[.int .i64 0,.bool false]:=by
 have h5:¬(centN a).num-1<9223372036854775808:=by simpa [intOk] using h3
 have h4:centsOk a=false:=by
  unfold centsOk;rw [h2];have e1:¬(centN a).num<9223372036854775808:=by omega
  have e2:¬(centN a).num=9223372036854775808:=by omega
  simp [e1,e2]
 unfold centsV;rw [cents_no h4,h4]
theorem rcents_3 {a:Rt} (ha:a.Ok) (h:(centN a).den=1) (h2:(centN a).neg=true) (h3:intOk ((centN a).num-1)=true):centsV a=.tuple #[.int .i64 (-(intV ((centN a).num-1):Int)-1),.bool true]:=by
 have h5:(centN a).num-1<9223372036854775808:=by simpa [intOk] using h3
 have h6:=(centN_ok ha).nz h2;have h4:centsOk a=true:=by
  unfold centsOk;rw [h2]
  by_cases e1:(centN a).num<9223372036854775808
  ·simp [h,e1]
  ·have e2:(centN a).num=9223372036854775808:=by omega
   simp [h,e2]
 unfold centsV centsI;rw [h4,if_pos rfl,h2,(int_yes h5).2];unfold iv;simp only [if_true];rw [show-(((centN a).num-1:Nat):Int)-1= -((centN a).num:Int) by omega]
def ErCents_r_4_1 (a:Rt) (m:Rt) (t:Rt):Nat→Value
 | 0=>.agg #[.bool a.neg,.string (encS a.num),.string (encS a.den)]
 | 1=>.agg #[.bool t.neg,.string (encS t.num),.string (encS t.den)]
 | 2=>.agg #[.bool m.neg,.string (encS m.num),.string (encS m.den)]
 | 3=>undef
 | 4=>undef
 | _=>undef
def ErCents_r_5_2 (m:Rt) (Q:Bool) (bk5:Nat):Nat→Value
 | 0=>.pointer (some ⟨bk5,2,none⟩)
 | 1=>.string (encS m.den)
 | 2=>.string (encS 1)
 | 3=>.bool Q
 | _=>undef
def ErCents_r_9_3 (m:Rt) (p:Nat) (b:Bool) (bk5:Nat):Nat→Value
 | 0=>.pointer (some ⟨bk5,1,none⟩)
 | 1=>.string (encS m.num)
 | 2=>.string (encS 1)
 | 3=>.tuple #[.string (encS p),.bool b]
 | 4=>.tuple #[.string (encS p),.bool b]
 | 5=>.string (encS p)
 | 6=>.bool b
 | 7=>.string (encS p)
 | 8=>.bool b
 | _=>undef
set_option maxRecDepth 100000 in
theorem rCents_r {a:Rt} (ha:a.Ok) (za:Rz a 90000) (wq:World) :
  Gv 49 #[.agg #[.bool a.neg,.string (encS a.num),.string (encS a.den)]] wq (centsV a):=by
 unfold Gv;have z2:Rz (ofR 100) 90000:=(ofR_sz (by decide) (by decide)).mono (by decide);have zm:Rz (centN a) (90000+90000):=by unfold centN;exact mulR_sz za z2
 have hok:=centN_ok ha;have c1:=fun w=>rRatRight_any a.neg (encS a.num) (encS a.den) w (Nat.le_trans (encS_size_lt za.1) (by decide)) (Nat.le_trans (encS_size_lt za.2) (by decide))
 rw [rightR_of ha] at c1;have c2:=fun w=>rRatOf_any 100 w (by decide) (by decide)
 have c3:=fun w=>rRatMul_r (IsR.of ha za) (IsR.of hun_ok z2) (by decide) (by decide) w
 rw [show mulR a (ofR 100)=centN a from rfl] at c3;have c5:=fun w=>toBelow (rInt_any (encS (centN a).num) w (Nat.le_trans (encS_size_lt zm.1) (by decide)))
 rw [numS_encS] at c5;have c6:=fun w=>rSub_any (encS (centN a).num) (encS 1) w (Nat.le_trans (encS_size_lt zm.1) (by decide)) (Nat.le_trans (encS_size_lt sz_one') (by decide))
 simp only [numS_encS] at c6;have c7:=fun w=>toBelow (rInt_any (encS ((centN a).num-1)) w (Nat.le_trans (encS_size_lt (zm.1.sub 1)) (by decide)))
 rw [numS_encS] at c7;have K0:=hD (cents_c0 (a:=a));have K1:=hD (rcents_1 (a:=a));have K2:=hD (rcents_2 (a:=a) ha);have K3:=hD (rcents_3 (a:=a) ha);have HNZ:Hid ((centN a).neg=true→1≤(centN a).num):=hD hok.nz;obtain ⟨R,h0⟩:∃R,centsV a=R:=⟨_,rfl⟩;rw [h0] at K0 K1 K2 K3 ⊢;obtain ⟨m,h1⟩:∃m,centN a=m:=⟨_,rfl⟩;rw [h1] at c3 c5 c6 c7 K0 K1 K2 K3 HNZ;obtain ⟨t,h2⟩:∃t,ofR 100=t:=⟨_,rfl⟩;rw [h2] at c2 c3;obtain ⟨Q,h4⟩:∃Q,decide (m.den≠1)=Q:=⟨_,rfl⟩;have HQ:=hD h4;obtain ⟨j,h5⟩:∃k,intOk m.num=k:=⟨_,rfl⟩;rw [h5] at c5 K1;obtain ⟨y,h6⟩:∃k,((intV m.num:Nat):Int)=k:=⟨_,rfl⟩;rw [h6] at c5 K1;obtain ⟨p,h8⟩:∃p,m.num-1=p:=⟨_,rfl⟩;rw [h8] at c6 c7 K2 K3;obtain ⟨b,h9⟩:∃b,decide (1≤m.num)=b:=⟨_,rfl⟩;rw [h9] at c6;obtain ⟨k,h10⟩:∃k,intOk p=k:=⟨_,rfl⟩;rw [h10] at c7 K2 K3;obtain ⟨n,h11⟩:∃k,((intV p:Nat):Int)=k:=⟨_,rfl⟩;rw [h11] at c7 K3;obtain ⟨nn,h7⟩:∃k,m.neg=k:=⟨_,rfl⟩;have HNN:=hD h7
 have hr:0≤n∧n≤9223372036854775807:=by
  rw [←h11];have:intV p<9223372036854775808:=by unfold intV;split;rename_i h;simpa [intOk] using h;decide
  omega
 have HW:=hD (IntWalk.i64_in (-n) (by omega));have HW2:=hD (IntWalk.i64_in (-n-1) (by omega));have C1:Hid (∀w,Gv 89 #[rtV a] w (.bool true)):=hD c1;have C2:Hid (∀w,Gv 17 #[.int .i64 100] w (.agg #[.bool t.neg,.string (encS t.num),.string (encS t.den)])):=hD c2;have C3:Hid (∀w,Gv 16 #[rtV a,rtV t] w (.agg #[.bool m.neg,.string (encS m.num),.string (encS m.den)])):=hD c3;have C4:Hid (∀w,Gv 40 #[.int .i64 1] w (.string (encS 1))):=hD fun w=>by
  have h:=(fun w=>rOf_any 1 w (by decide)) w;exact h
 have C5:Hid (∀w,Gv 90 #[.string (encS m.num)] w (.tuple #[.int .i64 y,.bool j])):=hD c5;have C6:Hid (∀w,Gv 79 #[.string (encS m.num),.string (encS 1)] w (.tuple #[.string (encS p),.bool b])):=hD c6;have C7:Hid (∀w,Gv 90 #[.string (encS p)] w (.tuple #[.int .i64 n,.bool k])):=hD c7;clear c1 c2 c3 c5 c6 c7 h0 h1 h2 h4 h5 h6 h7 h8 h9 h10 h11 hr z2 zm hok ha za;have HB:=hD (Below.refl wq.heap.size wq);obtain ⟨n0,hn0⟩:∃n,n=wq.heap.size:=⟨_,rfl⟩;rw [←hn0];have HN0:=hD hn0;clear hn0;go_enter Tryz.func49,Tryz.ntmps49;obtain ⟨W1,bk1,hW1,hbk1,HX1_1,HB,HG1_1,hup⟩:=boxR HB HN0 a;clear hup;obtain ⟨k2a,k2b,k2c⟩:=c3 HX1_1;go_wp2_with fail;clear hW1 hbk1 k2a k2b k2c;refine (C1.out _).mono ?_;rintro e w2 ⟨rfl,hb⟩;have HX1_1:=uH hb HX1_1;have HB:=mH HB hb;clear hb;go_wp2_with fail
 refine wp_region_box (w0:=w2) (by kernel_rfl) (fun ix v _=>v=ErCents_r_4_1 a m t ix) 3 4 (.cells #[.bool false,.string ⟨#[]⟩,.string ⟨#[]⟩] 26 (0,0)) (.cells #[.bool m.neg,.string (encS m.num),.string (encS m.den)] 26 (0,0)) (fun t=>(decide (5≤t)&&decide (t<6))||(decide (14≤t)&&decide (t<17))) (by kernel_rfl) (by kernel_rfl) (by kernel_rfl) (by decide) (by decide) (by kernel_rfl) rfl (fun _ _ _ _ _ h=>h) ?_ ?_ ?_ ?_
 ·intro i hi hia his ov_ listed av_ w hR K hK;have ho:=hR.at_;have hi:i<5:=hi;have hii:i=0∨i=1∨i=2:=by omega
  rcases hii with rfl|rfl|rfl
  ·simp at ho;subst ho;have b1:av_.tmps.getD 1 undef=.pointer (some ⟨bk1,0,none⟩):=hR.b 1;obtain ⟨cx0,cx1,cx2⟩:=c3 (uH hR.below HX1_1);refine pSq ?_;go_simp;exact hK _ _ rfl rB
  ·simp at ho;subst ho;refine pSq ?_;go_simp;refine (C2.out w).mono ?_;rintro e w' ⟨rfl,hb⟩;exact hK _ _ (rfl) hb
  ·simp at ho;subst ho;have e0:av_.tmps.getD 14 undef=.agg #[.bool a.neg,.string (encS a.num),.string (encS a.den)]:=hR.dep ⟨0,.data⟩ (by simp) rfl (by decide) (by decide);have e1:av_.tmps.getD 15 undef=.agg #[.bool t.neg,.string (encS t.num),.string (encS t.den)]:=hR.dep ⟨1,.data⟩ (by simp) rfl (by decide) (by decide);refine pSq ?_;go_simp;refine (C3.out w).mono ?_;rintro e w' ⟨rfl,hb⟩;exact hK _ _ (rfl) hb
 ·intro ov_ av_ w ho K hK;simp at ho;subst ho;refine pSq ?_;go_simp;exact hK _ _ _ rfl (Nat.le_refl _) (heap_alloc_new _ _) (rB.alloc (Nat.le_refl _) _)
 ·intro ov_ listed av_ w g hR hv hg hz K hK;have ho:=hR.at_;simp at ho;subst ho;have e3:av_.tmps.getD 5 undef=.pointer (some ⟨g,0,none⟩):=hv;have e2:av_.tmps.getD 16 undef=.agg #[.bool m.neg,.string (encS m.num),.string (encS m.den)]:=hR.dep ⟨2,.data⟩ (by simp) rfl (by decide) (by decide);have cz0:w.cell? ⟨g,0,none⟩=some (.bool false):=by rw [Lib.cell_of_heap hz];rfl
  have fz0:w.frozen? ⟨g,0,none⟩=false:=frz0 hz 0;have cz1:w.cell? ⟨g,1,none⟩=some (.string ⟨#[]⟩):=by rw [Lib.cell_of_heap hz];rfl
  have fz1:w.frozen? ⟨g,1,none⟩=false:=frz0 hz 1;have cz2:w.cell? ⟨g,2,none⟩=some (.string ⟨#[]⟩):=by rw [Lib.cell_of_heap hz];rfl
  have fz2:w.frozen? ⟨g,2,none⟩=false:=frz0 hz 2;refine pSq ?_;go_simp;exact hK _ (by simp [World.setCell,Array.getElem?_modify,hz]) (((rB.setCell (p:=⟨g,0,none⟩) hg (.bool m.neg)).setCell (p:=⟨g,1,none⟩) hg (.string (encS m.num))).setCell (p:=⟨g,2,none⟩) hg (.string (encS m.den)))
 ·intro sv_ w g hS hg0 hge hN hb;have e3:sv_ 5=.pointer (some ⟨g,0,none⟩):=hg0;simp only [over,ovL,Nat.reduceAdd,Nat.reduceLeDiff,Nat.reduceLT];obtain ⟨bk5,hg1⟩:∃b,g=b:=⟨_,rfl⟩;rw [hg1] at e3 hge hN;clear hg1;have HG5_3:Hid (n0≤bk5):=hD (by rw [HN0.out];exact Nat.le_trans HB.out.size hge);have HL5_3:=hD (Nat.lt_of_lt_of_le (Array.getElem?_eq_some_iff.1 HX1_1.out).1 hge);have HX5_3:=hD hN;clear hN hge hg0;have HX1_1:=uH hb HX1_1;have HB:=mH HB hb;obtain ⟨w3,hw⟩:∃w8,w8=w:=⟨_,rfl⟩;subst hw;rw [e3];clear hS hb e3;go_wp2_with fail;refine wpVl (w:=w3) (by kernel_rfl) (fun ix v _=>v=ErCents_r_5_2 m Q bk5 ix) (fun t=>(decide (17≤t)&&decide (t<21))) (by kernel_rfl) (by kernel_rfl) (by kernel_rfl) (fun _ _ _ _ _ h=>h) ?_ ?_
  ·intro i hi ov_ listed av_ w hR K hK;have ho:=hR.at_;have hi:i<4:=hi;have hii:i=0∨i=1∨i=2∨i=3:=by omega
   rcases hii with rfl|rfl|rfl|rfl<;>(simp at ho;subst ho)
   ·have b5:av_.tmps.getD 5 undef=.pointer (some ⟨bk5,0,none⟩):=hR.b 5;refine pSq ?_;go_simp;exact hK _ _ rfl rB
   ·have e0:av_.tmps.getD 17 undef=.pointer (some ⟨bk5,2,none⟩):=hR.d 0;have cx0:w.cell? ⟨bk5,2,none⟩=some (.string (encS m.den)):=by rw [Lib.cell_of_heap (hpU hR.below HX5_3.out)];rfl
    refine pSq ?_;go_simp;exact hK _ _ rfl rB
   ·refine pSq ?_;go_simp;refine (C4.out w).mono ?_;rintro e w' ⟨rfl,hb⟩;exact hK _ _ (rfl) hb
   ·have e1:av_.tmps.getD 18 undef=.string (encS m.den):=hR.d 1;have e2:av_.tmps.getD 19 undef=.string (encS 1):=hR.d 2;refine pSq ?_;go_simp;exact hK _ _ (by show Value.bool _=Value.bool Q;congr 1;rw [Bool.eq_iff_iff];simp [neqS,HQ.out]) rB
  ·intro sv_ w hS hb;have e3:sv_ 20=.bool Q:=hS 3 (by decide);simp only [over,ovL,Nat.reduceAdd,Nat.reduceLeDiff,Nat.reduceLT];have HB:=mH HB hb;have HX1_1:=uH hb HX1_1;have HX5_3:=uH hb HX5_3;obtain ⟨w4,hw⟩:∃w8,w8=w:=⟨_,rfl⟩;subst hw;rw [e3];clear hS hb e3;cases Q
   case false =>
    have k4:w4.cell? ⟨bk5,0,none⟩=some (.bool m.neg):=by rw [Lib.cell_of_heap HX5_3.out];rfl
    rw [HNN.out] at k4;cases nn
    case false =>
     have k5:w4.cell? ⟨bk5,1,none⟩=some (.string (encS m.num)):=by rw [Lib.cell_of_heap HX5_3.out];rfl
     go_wp2_with fail;clear k4 k5;refine (C5.out _).mono ?_;rintro e w5 ⟨rfl,hb⟩;have HX1_1:=uH hb HX1_1;have HX5_3:=uH hb HX5_3;have HB:=mH HB hb;clear hb;go_wp2_with fail;go_ret2;have h:=K1.out (by have:=HQ.out;simpa using this) HNN.out;subst h;exact ⟨rfl,by rw [HN0.out];exact HB.out⟩
    case true =>
     go_wp2_with fail;clear k4;refine wpVl (w:=w4) (by kernel_rfl) (fun ix v _=>v=ErCents_r_9_3 m p b bk5 ix) (fun t=>(decide (6≤t)&&decide (t<8))||(decide (29≤t)&&decide (t<36))) (by kernel_rfl) (by kernel_rfl) (by kernel_rfl) (fun _ _ _ _ _ h=>h) ?_ ?_
     ·intro i hi ov_ listed av_ w hR K hK;have ho:=hR.at_;have hi:i<9:=hi;have hii:i=0∨i=1∨i=2∨i=3∨i=4∨i=5∨i=6∨i=7∨i=8:=by omega
      rcases hii with rfl|rfl|rfl|rfl|rfl|rfl|rfl|rfl|rfl<;>(simp at ho;subst ho)
      ·have b5:av_.tmps.getD 5 undef=.pointer (some ⟨bk5,0,none⟩):=hR.b 5;refine pSq ?_;go_simp;exact hK _ _ rfl rB
      ·have e0:av_.tmps.getD 30 undef=.pointer (some ⟨bk5,1,none⟩):=hR.d 0;have cx0:w.cell? ⟨bk5,1,none⟩=some (.string (encS m.num)):=by rw [Lib.cell_of_heap (hpU hR.below HX5_3.out)];rfl
       refine pSq ?_;go_simp;exact hK _ _ rfl rB
      ·refine pSq ?_;go_simp;refine (C4.out w).mono ?_;rintro e w' ⟨rfl,hb⟩;exact hK _ _ (rfl) hb
      ·have e1:av_.tmps.getD 31 undef=.string (encS m.num):=hR.d 1;have e2:av_.tmps.getD 32 undef=.string (encS 1):=hR.d 2;refine pSq ?_;go_simp;refine (C6.out w).mono ?_;rintro e w' ⟨rfl,hb⟩;exact hK _ _ (rfl) hb
      ·have e3:av_.tmps.getD 33 undef=.tuple #[.string (encS p),.bool b]:=hR.d 3;refine pSq ?_;go_simp;exact hK _ _ rfl rB
      ·have e4:av_.tmps.getD 29 undef=.tuple #[.string (encS p),.bool b]:=hR.d 4;refine pSq ?_;go_simp;exact hK _ _ rfl rB
      ·have e4:av_.tmps.getD 29 undef=.tuple #[.string (encS p),.bool b]:=hR.d 4;refine pSq ?_;go_simp;exact hK _ _ rfl rB
      ·have e5:av_.tmps.getD 34 undef=.string (encS p):=hR.d 5;refine pSq ?_;go_simp;exact hK _ _ rfl rB
      ·have e6:av_.tmps.getD 35 undef=.bool b:=hR.d 6;refine pSq ?_;go_simp;exact hK _ _ rfl rB
     ·intro sv_ w hS hb;have e7:sv_ 6=.string (encS p):=hS 7 (by decide);simp only [over,ovL,Nat.reduceAdd,Nat.reduceLeDiff,Nat.reduceLT];have HB:=mH HB hb;have HX1_1:=uH hb HX1_1;have HX5_3:=uH hb HX5_3;obtain ⟨w6,hw⟩:∃w8,w8=w:=⟨_,rfl⟩;subst hw;rw [e7];clear hS hb e7;go_wp2_with fail;refine (C7.out _).mono ?_;rintro e w7 ⟨rfl,hb⟩;have HX1_1:=uH hb HX1_1;have HX5_3:=uH hb HX5_3;have HB:=mH HB hb;clear hb;cases k
      case false =>
       go_wp2_with fail;go_ret2;have h:=K2.out (by have:=HQ.out;simpa using this) HNN.out trivial;subst h;exact ⟨rfl,by rw [HN0.out];exact HB.out⟩
      case true =>
       have q6:=HW.out;have q7:=HW2.out;go_wp2_with fail;clear q6 q7;go_ret2;have h:=K3.out (by have:=HQ.out;simpa using this) HNN.out trivial;subst h;exact ⟨rfl,by rw [HN0.out];exact HB.out⟩
   case true =>
    go_wp2_with fail;go_ret2;have h:=K0.out (by have:=HQ.out;simpa using this);subst h;exact ⟨rfl,by rw [HN0.out];exact HB.out⟩
def EQuota_r_1_1 (a:Rt) (S:Rt) (x:Rt) (m:Rt) (q:Rt) (n:Nat) (k:Nat) (g:Nat) (off:Nat) (ca:Nat):Nat→Value
 | 0=>.agg #[.bool a.neg,.string (encS a.num),.string (encS a.den)]
 | 1=>.slice (some ⟨g,off,none⟩) n ca
 | 2=>.int .i64 (k:Int)
 | 3=>.pointer (some ⟨g,off+k*3,none⟩)
 | 4=>.agg #[.bool x.neg,.string (encS x.num),.string (encS x.den)]
 | 5=>.agg #[.bool m.neg,.string (encS m.num),.string (encS m.den)]
 | 6=>.slice (some ⟨g,off,none⟩) n ca
 | 7=>.agg #[.bool S.neg,.string (encS S.num),.string (encS S.den)]
 | 8=>.tuple #[.agg #[.bool q.neg,.string (encS q.num),.string (encS q.den)],.bool true]
 | 9=>.tuple #[.agg #[.bool q.neg,.string (encS q.num),.string (encS q.den)],.bool true]
 | 10=>.agg #[.bool q.neg,.string (encS q.num),.string (encS q.den)]
 | 11=>.bool true
 | 12=>undef
 | 13=>undef
 | 14=>.bool true
 | _=>undef
set_option maxRecDepth 100000 in
theorem Quota_r {a:Rt} {ws:List Rt} (ha:a.Ok) (za:Rz a 90000) (ho:∀x ∈ ws,x.Ok) (hz:∀x ∈ ws,Rz x 1000) (hn:ws.length≤20) (hnum:(sumT ws).num≠0) (k:Nat) (hk:k<ws.length) (v:Value) (wq:World) (hl:LstR wq v (ws.map rawR)) :
  Gv 37 #[.agg #[.bool a.neg,.string (encS a.num),.string (encS a.den)],v,.int .i64 (k:Int)] wq (rtV (quoR (mulR a (ws.getD k zeroR)) (sumT ws))):=by
 unfold Gv;obtain ⟨p,ca,rfl,-,hcells⟩:=hl.open;rw [List.length_map] at hl ⊢;have hh:=hcells k (by rw [List.length_map];exact hk);simp only [List.getElem_map] at hh;obtain ⟨g,off,rfl,hg,hd⟩:=hh;rw [getD_at' hk];have hS:(sumT ws).Ok:=sumT_ok ho;have zS:Rz (sumT ws) 30000:=sumT_sz ho hz hn;have hx:=ho _ (List.getElem_mem hk);have zx:=hz _ (List.getElem_mem hk);have c1:=fun w=>rRatMul_r (IsR.of ha za) (IsR.of hx (zx.mono (show 1000≤90000 by decide))) (by decide) (by decide) w
 have c2:∀w,Below wq.heap.size wq w→_:=fun w h=>rSum_any (ws.map rawR) (.slice (some ⟨g,off,none⟩) ws.length ca) w (hl.up h) (by rw [List.length_map];exact hn) (szl_raw hz)
 rw [sumT_raw ho] at c2;have c3:=fun w=>rRatQuo_r (IsR.of (mulR_ok ha hx) (mulR_sz za zx)) (IsR.of hS (zS.mono (show 30000≤91000 by decide))) (by decide) (by decide) w
 unfold quoV at c3;rw [if_neg hnum] at c3;have HD:Hid (wq.cell? ⟨g,off+k*3,none⟩=some (.bool ws[k].neg)∧wq.cell? ⟨g,off+k*3+1,none⟩=some (.string (encS ws[k].num))∧wq.cell? ⟨g,off+k*3+2,none⟩=some (.string (encS ws[k].den))):=hD hd;have HGG:=hD hg;have HKN:=hD hk;obtain ⟨n,hnn⟩:∃n,ws.length=n:=⟨_,rfl⟩;rw [hnn] at c2 HKN;rw [hnn];obtain ⟨x,h1⟩:∃x,ws[k]=x:=⟨_,rfl⟩;rw [h1] at c1 c3 HD ⊢;obtain ⟨S,h2⟩:∃x,sumT ws=x:=⟨_,rfl⟩;rw [h2] at c2 c3 ⊢;obtain ⟨m,h3⟩:∃x,mulR a ws[k]=x:=⟨_,rfl⟩;rw [h1] at h3;rw [h3] at c1 c3 ⊢;obtain ⟨q,h4⟩:∃x,quoR m S=x:=⟨_,rfl⟩;rw [h4] at c3 ⊢;have C1:Hid (∀w,Gv 16 #[rtV a,rtV x] w (.agg #[.bool m.neg,.string (encS m.num),.string (encS m.den)])):=hD c1;have C2:Hid (∀w,Below wq.heap.size wq w→Gv 36 #[.slice (some ⟨g,off,none⟩) n ca] w (.agg #[.bool S.neg,.string (encS S.num),.string (encS S.den)])):=hD c2
 have C3:Hid (∀w,Gv 26 #[rtV m,rtV S] w (.tuple #[.agg #[.bool q.neg,.string (encS q.num),.string (encS q.den)],.bool true])):=hD c3;clear c1 c2 c3 hcells hl ha za ho hz hn hnum hk hg hd hS zS hx zx hnn h1 h2 h3 h4;have HB:=hD (Below.refl wq.heap.size wq);obtain ⟨n0,hn0⟩:∃n,n=wq.heap.size:=⟨_,rfl⟩;rw [←hn0];have HN0:=hD hn0;clear hn0;go_enter Tryz.func37,Tryz.ntmps37;obtain ⟨W1,bk3,hW1,hbk3,HX3_1,HB,HG3_1,hup⟩:=boxR HB HN0 a;clear hup;obtain ⟨W2,bk6,hW2,hbk6,HX6_2,HB,HG6_2,hup⟩:=boxZ HB HN0;have HL6_2:=(hup _ _ HX3_1).2;have HX3_1:=(hup _ _ HX3_1).1;clear hup;go_wp2_with fail;clear hW1 hbk3 hW2 hbk6
 refine wp_region_box (w0:=W2) (by kernel_rfl) (fun ix v _=>v=EQuota_r_1_1 a S x m q n k g off ca ix) 12 13 (.cells #[.bool false,.string ⟨#[]⟩,.string ⟨#[]⟩] 26 (0,0)) (.cells #[.bool q.neg,.string (encS q.num),.string (encS q.den)] 26 (0,0)) (fun t=>(decide (7≤t)&&decide (t<21))) (by kernel_rfl) (by kernel_rfl) (by kernel_rfl) (by decide) (by decide) (by kernel_rfl) rfl (fun _ _ _ _ _ h=>h) ?_ ?_ ?_ ?_
 ·intro i hi hia his ov_ listed av_ w hR K hK;have ho:=hR.at_;have hi:i<15:=hi;have hii:i=0∨i=1∨i=2∨i=3∨i=4∨i=5∨i=6∨i=7∨i=8∨i=9∨i=10∨i=11∨i=14:=by omega
  rcases hii with rfl|rfl|rfl|rfl|rfl|rfl|rfl|rfl|rfl|rfl|rfl|rfl|rfl
  ·simp at ho;subst ho;have b3:av_.tmps.getD 3 undef=.pointer (some ⟨bk3,0,none⟩):=hR.b 3;obtain ⟨cx0,cx1,cx2⟩:=c3 (uH hR.below HX3_1);refine pSq ?_;go_simp;exact hK _ _ rfl rB
  ·simp at ho;subst ho;have b1:av_.tmps.getD 1 undef=.slice (some ⟨g,off,none⟩) n ca:=hR.b 1;refine pSq ?_;go_simp;exact hK _ _ rfl rB
  ·simp at ho;subst ho;have b2:av_.tmps.getD 2 undef=.int .i64 (k:Int):=hR.b 2;refine pSq ?_;go_simp;exact hK _ _ rfl rB
  ·simp at ho;subst ho;have e1:av_.tmps.getD 11 undef=.slice (some ⟨g,off,none⟩) n ca:=hR.dep ⟨1,.data⟩ (by simp) rfl (by decide) (by decide);have e2:av_.tmps.getD 12 undef=.int .i64 (k:Int):=hR.dep ⟨2,.data⟩ (by simp) rfl (by decide) (by decide);have q1:(k:Int)<(n:Int):=by have:=HKN.out;omega
   refine pSq ?_;go_simp;exact hK _ _ rfl rB
  ·simp at ho;subst ho;have e3:av_.tmps.getD 13 undef=.pointer (some ⟨g,off+k*3,none⟩):=hR.dep ⟨3,.data⟩ (by simp) rfl (by decide) (by decide);have d0:w.cell? ⟨g,off+k*3,none⟩=some (.bool x.neg):=by rw [clU (HB.out.trans (hR.below.mono HB.out.size)) HGG.out];exact HD.out.1
   have d1:w.cell? ⟨g,off+k*3+1,none⟩=some (.string (encS x.num)):=by rw [clU (HB.out.trans (hR.below.mono HB.out.size)) HGG.out];exact HD.out.2.1
   have d2:w.cell? ⟨g,off+k*3+2,none⟩=some (.string (encS x.den)):=by rw [clU (HB.out.trans (hR.below.mono HB.out.size)) HGG.out];exact HD.out.2.2
   refine pSq ?_;go_simp;exact hK _ _ rfl rB
  ·simp at ho;subst ho;have e0:av_.tmps.getD 10 undef=.agg #[.bool a.neg,.string (encS a.num),.string (encS a.den)]:=hR.dep ⟨0,.data⟩ (by simp) rfl (by decide) (by decide);have e4:av_.tmps.getD 14 undef=.agg #[.bool x.neg,.string (encS x.num),.string (encS x.den)]:=hR.dep ⟨4,.data⟩ (by simp) rfl (by decide) (by decide);refine pSq ?_;go_simp;refine (C1.out w).mono ?_;rintro e w' ⟨rfl,hb⟩;exact hK _ _ (rfl) hb
  ·simp at ho;subst ho;have b1:av_.tmps.getD 1 undef=.slice (some ⟨g,off,none⟩) n ca:=hR.b 1;refine pSq ?_;go_simp;exact hK _ _ rfl rB
  ·simp at ho;subst ho;have e6:av_.tmps.getD 16 undef=.slice (some ⟨g,off,none⟩) n ca:=hR.dep ⟨6,.data⟩ (by simp) rfl (by decide) (by decide);refine pSq ?_;go_simp;refine (C2.out w (HB.out.trans (hR.below.mono HB.out.size))).mono ?_;rintro e w' ⟨rfl,hb⟩;exact hK _ _ (rfl) hb
  ·simp at ho;subst ho;have e5:av_.tmps.getD 15 undef=.agg #[.bool m.neg,.string (encS m.num),.string (encS m.den)]:=hR.dep ⟨5,.data⟩ (by simp) rfl (by decide) (by decide);have e7:av_.tmps.getD 17 undef=.agg #[.bool S.neg,.string (encS S.num),.string (encS S.den)]:=hR.dep ⟨7,.data⟩ (by simp) rfl (by decide) (by decide);refine pSq ?_;go_simp;refine (C3.out w).mono ?_;rintro e w' ⟨rfl,hb⟩;exact hK _ _ (rfl) hb
  ·simp at ho;subst ho;have e8:av_.tmps.getD 18 undef=.tuple #[.agg #[.bool q.neg,.string (encS q.num),.string (encS q.den)],.bool true]:=hR.dep ⟨8,.data⟩ (by simp) rfl (by decide) (by decide);refine pSq ?_;go_simp;exact hK _ _ rfl rB
  ·simp at ho;subst ho;have e9:av_.tmps.getD 9 undef=.tuple #[.agg #[.bool q.neg,.string (encS q.num),.string (encS q.den)],.bool true]:=hR.dep ⟨9,.data⟩ (by simp) rfl (by decide) (by decide);refine pSq ?_;go_simp;exact hK _ _ rfl rB
  ·simp at ho;subst ho;have e9:av_.tmps.getD 9 undef=.tuple #[.agg #[.bool q.neg,.string (encS q.num),.string (encS q.den)],.bool true]:=hR.dep ⟨9,.data⟩ (by simp) rfl (by decide) (by decide);refine pSq ?_;go_simp;exact hK _ _ rfl rB
  ·simp at ho;subst ho;have e11:av_.tmps.getD 20 undef=.bool true:=hR.dep ⟨11,.data⟩ (by simp) rfl (by decide) (by decide);refine pSq ?_;go_simp;exact hK _ _ rfl rB
 ·intro ov_ av_ w ho K hK;simp at ho;subst ho;refine pSq ?_;go_simp;exact hK _ _ _ rfl (Nat.le_refl _) (heap_alloc_new _ _) (rB.alloc (Nat.le_refl _) _)
 ·intro ov_ listed av_ w g hR hv hg hz K hK;have ho:=hR.at_;simp at ho;subst ho;have e12:av_.tmps.getD 7 undef=.pointer (some ⟨g,0,none⟩):=hv;have e10:av_.tmps.getD 19 undef=.agg #[.bool q.neg,.string (encS q.num),.string (encS q.den)]:=hR.dep ⟨10,.data⟩ (by simp) rfl (by decide) (by decide);have cz0:w.cell? ⟨g,0,none⟩=some (.bool false):=by rw [Lib.cell_of_heap hz];rfl
  have fz0:w.frozen? ⟨g,0,none⟩=false:=frz0 hz 0;have cz1:w.cell? ⟨g,1,none⟩=some (.string ⟨#[]⟩):=by rw [Lib.cell_of_heap hz];rfl
  have fz1:w.frozen? ⟨g,1,none⟩=false:=frz0 hz 1;have cz2:w.cell? ⟨g,2,none⟩=some (.string ⟨#[]⟩):=by rw [Lib.cell_of_heap hz];rfl
  have fz2:w.frozen? ⟨g,2,none⟩=false:=frz0 hz 2;refine pSq ?_;go_simp;exact hK _ (by simp [World.setCell,Array.getElem?_modify,hz]) (((rB.setCell (p:=⟨g,0,none⟩) hg (.bool q.neg)).setCell (p:=⟨g,1,none⟩) hg (.string (encS q.num))).setCell (p:=⟨g,2,none⟩) hg (.string (encS q.den)))
 ·intro sv_ w g hS hg0 hge hN hb;have e12:sv_ 7=.pointer (some ⟨g,0,none⟩):=hg0;simp only [over,ovL,Nat.reduceAdd,Nat.reduceLeDiff,Nat.reduceLT];obtain ⟨bk7,hg1⟩:∃b,g=b:=⟨_,rfl⟩;rw [hg1] at e12 hge hN;clear hg1;have HG7_3:Hid (n0≤bk7):=hD (by rw [HN0.out];exact Nat.le_trans HB.out.size hge);have HL7_3:=hD (Nat.lt_of_lt_of_le (Array.getElem?_eq_some_iff.1 HX6_2.out).1 hge);have HX7_3:=hD hN;clear hN hge hg0;have HX3_1:=uH hb HX3_1;have HX6_2:=uH hb HX6_2;have HB:=mH HB hb;obtain ⟨w3,hw⟩:∃w8,w8=w:=⟨_,rfl⟩;subst hw;rw [e12];clear hS hb e12;obtain ⟨k4a,k4b,k4c⟩:=c3 HX7_3;obtain ⟨W4,hW4,HX6_2,HB,ho,f5a,f5b,f5c,k5a,k5b,k5c⟩:=putR HX6_2 HB HN0 HG6_2 q;have HX3_1:=ho _ _ (en1 HL6_2) HX3_1;have HX7_3:=ho _ _ (ne1 HL7_3) HX7_3;clear ho;go_wp2_with fail;clear k4a k4b k4c f5a f5b f5c k5a k5b k5c hW4;refine bodyPost_ret (rC1 HX6_2.out) rfl ?_;exact ⟨rfl,by rw [HN0.out];exact HB.out⟩
end Go.Proofs.YtabfjecegpaoaaaGreatDoor
namespace Go.Proofs.YtabfjecegpaoaaaGreatDoor
open Go.RowKit Go.Shelf Go
open Dgt
theorem ofC_sz {c:Int} (h1: -9223372036854775808≤c) (h2:c≤9223372036854775807):Rz (ofC c) 16:=quoR_sz (ofR_sz h1 h2) (ofR_sz (n:=100) (by decide) (by decide))
theorem wts_of {ws:List Rt} (ho:∀a ∈ ws,a.Ok) (hn:∀a ∈ ws,a.neg=false) (h:0<sgnR (sumT ws)):Wts ws∧1≤ws.length:=by
 refine ⟨⟨ho,hn,?_⟩,?_⟩
 ·have h2:=q_sgn (sumT_ok ho);rcases sgn_cases (sumT ws) with h3|h3|h3
  ·omega
  ·exact h2.2.1.1 h3
  ·omega
 ·cases ws with
  | nil=>exact absurd h (by decide)
  | cons a l=>simp
section
variable {c:Int} {ws:List Rt} {s:List Nat}
theorem cel_cells3 (l:List Rt):cel l=cells3 (l.map rawR):=by
 unfold cel cells3;rw [List.flatMap_map];rfl
end
end Go.Proofs.YtabfjecegpaoaaaGreatDoor
namespace Go.Proofs.YtabfjecegpaoaaaGreatDoor
open Go.RowKit Go.Shelf
open Dgt
def sharesB (l:List Rw):Bool:=decide (1≤l.length)&&(!(l.any Rw.bad)&&decide (0<sgnR (sumL l zeroR)))
set_option maxRecDepth 100000 in
theorem shares_any (l:List Rw) (v:Value) (wq:World) (hl:LstR wq v l) (hn:l.length≤20) (hs:SzL l 1000) :
  Gv 67 #[v] wq (.bool (sharesB l)):=by
 unfold Gv;have HUP:=hD (fun w (h:Below wq.heap.size wq w)=>rSum_any l v w (hl.up h) hn hs);obtain ⟨p,ca,rfl,hla,hca⟩:=hl.open;have HC:=hD hca;have HF:Hid (∀k (h:k<l.length) w,Gv 89 #[.agg #[.bool l[k].neg,.string l[k].n,.string l[k].d]] w (.bool l[k].right)):=hD fun k h w=>by
  have:=hs _ (List.getElem_mem h);exact rRatRight_any l[k].neg l[k].n l[k].d w (by omega) (by omega)
 have hSok:(sumL l zeroR).Ok:=sumL_ok l zeroR zeroR_ok;have hSz:Rz (sumL l zeroR) 30000:=(sumL_sz l zeroR 1 hs zeroR_sz).mono (by omega);have HSG:=hD (fun w=>rRatSign_r (IsR.of hSok hSz) (by decide) w);obtain ⟨AB,hAB⟩:∃b,l.any Rw.bad=b:=⟨_,rfl⟩;obtain ⟨S,hS⟩:∃s,sumL l zeroR=s:=⟨_,rfl⟩;obtain ⟨z,hz⟩:∃z,sgnR S=z:=⟨_,rfl⟩;obtain ⟨n,hnn⟩:∃n,l.length=n:=⟨_,rfl⟩;unfold sharesB;rw [hS] at HUP HSG;rw [hz] at HSG;rw [hAB,hS,hz,hnn];rw [hnn] at HUP hn;have HAB:=hD hAB;have HNN:=hD hnn;have HLN:=hD hn;clear hAB hca hl hs hla hS hz hSok hSz hnn hn
 by_cases h0:n=0
 ·subst h0;clear HLN HF HC HAB HNN;go_enter Tryz.func67,Tryz.ntmps67;go_wp2_with fail;go_ret;exact ⟨rfl,Below.refl _ _⟩
 ·have h1:¬(n:Int)<1:=by omega
  have h2:¬(n:Int)>100:=by have:=HLN.out;omega
  have h3:¬(100:Int)<(n:Int):=by have:=HLN.out;omega
  have H0:=hD h0;clear h0;go_enter Tryz.func67,Tryz.ntmps67;go_wp2_with fail;clear h1 h2 h3
  go_loopw [3] (fun i wr=>∃k:Nat,k≤n∧i=.int .i64 (k:Int)∧Hid ((l.take k).any Rw.bad=false)∧Hid (Below wq.heap.size wq wr)) (fun i _=>n-(intOf i).toNat)
  case atStart=>exact ⟨0,by omega,rfl,hD rfl,hD rB⟩
  case round =>
   obtain ⟨k,hk,rfl,HA,HB⟩:=hrel
   by_cases hlt:k<n
   ·have hlt' :(k:Int)<(n:Int):=by omega
    have hkl:k<l.length:=by rw [HNN.out];exact hlt
    obtain ⟨g,off,rfl,hg,c1,c2,c3⟩:=HC.out k hkl;have d1:wr.cell? ⟨g,off+k*3,none⟩=some (.bool l[k].neg):=by rw [clU HB.out hg];exact c1
    have d2:wr.cell? ⟨g,off+k*3+1,none⟩=some (.string l[k].n):=by rw [clU HB.out hg];exact c2
    have d3:wr.cell? ⟨g,off+k*3+2,none⟩=some (.string l[k].d):=by rw [clU HB.out hg];exact c3
    have hwi:IntKind.i64.wrap ((k:Int)+1)=((k+1:Nat):Int):=by rw [IntWalk.i64_in _ (by have:=HLN.out;omega)];omega
    have HK:=hD (HF.out k hkl);have HT:Hid ((l.take (k+1)).any Rw.bad=l[k].bad):=hD (by rw [List.take_succ_eq_append_getElem hkl,List.any_append,HA.out];simp);have HM:Hid (l[k].bad=true→AB=true):=hD fun h=>HAB.out ▸ List.any_eq_true.2 ⟨_,List.getElem_mem hkl,h⟩
    have HBD:Hid (l[k].bad= !(l[k].right&& !l[k].neg)):=hD rfl;have HGR:=hD hg;obtain ⟨r,hr⟩:∃r,l[k]=r:=⟨_,rfl⟩;rw [hr] at d1 d2 d3 HK HT HM HBD;obtain ⟨ng,hng⟩:∃b,r.neg=b:=⟨_,rfl⟩;obtain ⟨rg,hrg⟩:∃b,r.right=b:=⟨_,rfl⟩;obtain ⟨rn,hrn⟩:∃b,r.n=b:=⟨_,rfl⟩;obtain ⟨rd,hrd⟩:∃b,r.d=b:=⟨_,rfl⟩;rw [hng] at d1 HK HBD;rw [hrg] at HK HBD;rw [hrn] at d2 HK;rw [hrd] at d3 HK;have HLT:=hD hlt;clear c1 c2 c3 hr hlt hk hkl hg hng hrg hrn hrd;go_wp2_with fail;refine (HK.out _).mono ?_;rintro e w1 ⟨rfl,hb⟩;have e1:w1.cell? ⟨g,off+k*3,none⟩=some (.bool ng):=by rw [clU hb (Nat.lt_of_lt_of_le HGR.out HB.out.size)];exact d1
    have HB:=mH HB hb;clear hb d1 d2 d3;cases rg
    ·have HAT:Hid (AB=true):=hD (HM.out (by rw [HBD.out];rfl));clear hwi e1;go_wp2_with fail;go_ret;exact ⟨by rw [HAT.out];simp,HB.out⟩
    ·cases ng
     ·have HT2:Hid ((l.take (k+1)).any Rw.bad=false):=hD (by rw [HT.out,HBD.out];rfl);go_wp2_with fail
      go_roundw
      case rel=>exact ⟨k+1,by have:=HLT.out;omega,by first|rfl|go_num,HT2,HB⟩
      case measure=>have:=HLT.out;simp [intOf];omega
     ·have HAT:Hid (AB=true):=hD (HM.out (by rw [HBD.out];rfl));clear hwi;go_wp2_with fail;go_ret;exact ⟨by rw [HAT.out];simp,HB.out⟩
   ·have hge:¬(k:Int)<(n:Int):=by omega
    have HAF:Hid (AB=false):=hD (by have:=HA.out;rw [List.take_of_length_le (by have:=HNN.out;omega)] at this;rw [←HAB.out];exact this);clear hlt hk;go_wp2_with fail;refine (HUP.out _ HB.out).mono ?_;rintro e w1 ⟨rfl,hb⟩;unfold rtV;have HB:=mH HB hb;clear hb hge;go_wp2_with fail;refine (HSG.out _).mono ?_;rintro e w2 ⟨rfl,hb⟩;have HB:=mH HB hb;clear hb;go_wp2_with fail;go_ret;exact ⟨by rw [HAF.out];simp;have:=H0.out;omega,HB.out⟩
end Go.Proofs.YtabfjecegpaoaaaGreatDoor
namespace Go.Proofs.YtabfjecegpaoaaaGreatDoor
open Go Go.RowKit
def Moved (w:World) (v v' :Value):Prop:=v'.ownBlock=v.ownBlock∨v'.ownBlock=some w.heap.size
theorem append_moved {P:Program} (w:World) (base:Nat) (t ty e:TypeId) (i:TypeInfo) (z:Value) (ht:P.underlying t=some (.slice e)) (hi:P.info? e=some i) (hz:i.zero=some z)
  (v:Value) (n:Nat) (xs:List Value) (hown:w.ownsRow base e i.size v n xs)
  (a:Addr) (m c:Nat) (news:List Value) (hl:news.length=m*i.size) (hnews:∀j u,news[j]? =some u→w.cell? (a.add j)=some u) (h1:∀u ∈ news,u.oneCell' =true)
  (hm:0<m) (h63:n+m≤maxLen) (hbytes:(n+m)*i.bytes≤140737488355328) {v' :Value} {w' :World}
  (hr:(Builtin.append_ #[t,t] ty #[v,.slice (some a) m c]).run P w=.ok v' w'):Moved w v v' :=by
 have hsmall:n+m≤9223372036854775807:=by simp only [maxLen] at h63;omega
 rcases hown.2 with ⟨rfl,rfl⟩|⟨g,cap,cur,rfl,hbg,hg,hnc,hcm,hcs,htake⟩
 ·have h:=run_append_nil (P:=P) w t ty e i z ht hi hz a m c news hl hnews hm (by omega) (by simp only [Nat.zero_add] at hbytes;omega)
  rw [h] at hr
  cases hr
  exact .inr rfl
 ·by_cases hroom:n+m≤cap
  ·have hfit:n*i.size+news.length≤cur.size:=by rw [hl,hcs, ←Nat.add_mul];exact Nat.mul_le_mul_right _ hroom
   have h:=run_append_room (P:=P) w t ty e i ht hi g n cap cur hg a m c news hl hnews h1 hroom hfit
   rw [h] at hr
   cases hr
   exact .inl rfl
  ·have holds:∀j u,xs[j]? =some u→w.cell? ((⟨g,0,none⟩:Addr).add j)=some u:=hown.cells (g:=g) rfl
   have h:=run_append_grow (P:=P) w t ty e i z ht hi hz ⟨g,0,none⟩ n cap xs hown.1 holds a m c news hl hnews (by omega) (by omega) (growslice_fits (by omega) hbytes)
   rw [h] at hr
   cases hr
   exact .inr rfl
theorem wp_append_moved {P:Program} {w:World} {o:Oper} {a:Act} {K:Act→World→Prop} {Q:Exit→Act→World→Prop} (s x:Operand) (t:TypeId)
  (ho:o.op=.call { callee:=.builtin .append,args:=#[s,x],argTypes:=#[t,t] })
  (base:Nat) (e:TypeId) (i:TypeInfo) (z:Value) (size bytes:Nat) (ht:P.underlying t=some (.slice e)) (hi:P.info? e=some i) (hz:i.zero=some z)
  (hsize:i.size=size) (hby:i.bytes=bytes) (hzs:z.cells.size=size) (hsz:0<size)
  (v:Value) (n:Nat) (xs:List Value) (hs:a.eval s=v) (hown:w.ownsRow base e size v n xs)
  (ad:Addr) (m c:Nat) (news:List Value) (hx:a.eval x=.slice (some ad) m c) (hl:news.length=m*size) (hnews:∀j u,news[j]? =some u→w.cell? (ad.add j)=some u) (h1:∀u ∈ news,u.oneCell' =true)
  (hm:0<m) (h63:n+m≤maxLen) (hbytes:(n+m)*bytes≤140737488355328) (hbase:base≤w.heap.size)
  (h:∀v' w',w'.ownsRow base e size v' (n+m) (xs++news)→w.grownBy w' v.ownBlock→Moved w v v' →K (a.put o.dst v') w'):o.wp P a w K Q:=by
 obtain ⟨v',w',hr,h2,h3,h4⟩:=run_append_own (P:=P) w base t o.type e i z size bytes ht hi hz hsize hby hzs hsz v n xs hown ad m c news hl hnews h1 h63 hbytes hbase
 have hmv:Moved w v v' :=by subst hsize;subst hby;exact append_moved w base t o.type e i z ht hi hz v n xs hown ad m c news hl hnews h1 hm h63 hbytes hr
 unfold Oper.wp execOp
 simp only [ho,resolve,invoke,builtin,Sem.run_bind,Sem.run_pure,Result.andThen_ok,List.map_toArray,List.map_cons,List.map_nil,hs,hx,hr]
 exact h v' w' h2 h3 hmv
theorem wpList_append_moved {P:Program} {w:World} {ops:Array Oper} {rest:List Oper} {o:Oper} {a:Act} {Q:Exit→Act→World→Prop} (hgd:o.guard=none) (s x:Operand) (t:TypeId)
  (ho:o.op=.call { callee:=.builtin .append,args:=#[s,x],argTypes:=#[t,t] })
  (base:Nat) (e:TypeId) (i:TypeInfo) (z:Value) (size bytes:Nat) (ht:P.underlying t=some (.slice e)) (hi:P.info? e=some i) (hz:i.zero=some z)
  (hsize:i.size=size) (hby:i.bytes=bytes) (hzs:z.cells.size=size) (hsz:0<size)
  (v:Value) (n:Nat) (xs:List Value) (hs:a.eval s=v) (hown:w.ownsRow base e size v n xs)
  (ad:Addr) (m c:Nat) (news:List Value) (hx:a.eval x=.slice (some ad) m c) (hl:news.length=m*size) (hnews:∀j u,news[j]? =some u→w.cell? (ad.add j)=some u) (h1:∀u ∈ news,u.oneCell' =true)
  (hm:0<m) (h63:n+m≤maxLen) (hbytes:(n+m)*bytes≤140737488355328) (hbase:base≤w.heap.size)
  (h:∀v' w',w'.ownsRow base e size v' (n+m) (xs++news)→w.grownBy w' v.ownBlock→Moved w v v' →wpList P ops Q rest (a.put o.dst v') w'):wpList P ops Q (o::rest) a w :=
 wpList_plain hgd fun _ hK=>wp_append_moved s x t ho base e i z size bytes ht hi hz hsize hby hzs hsz v n xs hs hown ad m c news hx hl hnews h1 hm h63 hbytes hbase fun v' w' h2 h3 h4=>hK _ _ (h v' w' h2 h3 h4)
def Apart (v u:Value):Prop:=u.ownBlock=none∨u.ownBlock≠v.ownBlock
theorem Apart.moved {w:World} {base size n:Nat} {e:TypeId} {xs:List Value} {v v' u:Value} (h:Apart v u) (hm:Moved w v v') (hu:w.ownsRow base e size u n xs):Apart v' u:=by
 rcases hm with hm|hm
 ·unfold Apart;rw [hm];exact h
 ·unfold Apart
  cases hb:u.ownBlock with
  | none=>exact .inl rfl
  | some g =>
   right
   rw [hm]
   intro e
   have:=(hu.lt g hb).2
   injection e with e
   omega
theorem Apart.symm {v u:Value} (h:Apart v u):Apart u v:=by
 unfold Apart at *
 rcases h with h|h
 ·cases hv:v.ownBlock with
  | none=>exact .inl rfl
  | some g=>right;rw [h];simp
 ·cases hv:v.ownBlock with
  | none=>exact .inl rfl
  | some g=>right;rw [←hv];exact fun e=>h e.symm
theorem own_cell {w:World} {B size b k n:Nat} {e:TypeId} {v u:Value} {xs:List Value} (h:w.ownsRow B e size v n xs) (hne:∀g,v.ownBlock=some g→b≠g):(w.setCell ⟨b,k,none⟩ u).ownsRow B e size v n xs:=by
 refine ⟨h.1,?_⟩
 rcases h.2 with h0|⟨g,cap,cur,rfl,h1,h2,h3⟩
 ·exact .inl h0
 ·have hn:b≠g:=hne g rfl
  exact .inr ⟨g,cap,cur,rfl,h1,by simp [World.setCell,Array.getElem?_modify,h2,hn],h3⟩
theorem own_new {w:World} {B size n:Nat} {e:TypeId} {v:Value} {xs:List Value} (h:w.ownsRow B e size v n xs):∀g,v.ownBlock=some g→w.heap.size≠g:=fun g hg=>by
 have:=(h.lt g hg).2;omega
theorem own_old {w:World} {B size n b:Nat} {e:TypeId} {v:Value} {xs:List Value} (h:w.ownsRow B e size v n xs) (hb:b<B):∀g,v.ownBlock=some g→b≠g:=fun g hg=>by
 have:=(h.lt g hg).1;omega
theorem grown_keep {w w' :World} {v:Value} {b:Nat} {o:Obj} (hg:w.grownBy w' v.ownBlock) (hb:w.heap[b]? =some o) (hne:∀g,v.ownBlock=some g→b≠g):w'.heap[b]? =some o:=by
 rw [hg.block b (Array.getElem?_eq_some_iff.1 hb).1 (fun e=>hne b e.symm rfl)]
 exact hb
theorem own_base {w:World} {B B' size n:Nat} {e:TypeId} {v:Value} {xs:List Value} (h:w.ownsRow B e size v n xs) (hb:B' ≤B):w.ownsRow B' e size v n xs:=by
 refine ⟨h.1,?_⟩
 rcases h.2 with h0|⟨g,cap,cur,e1,h1,h2⟩
 ·exact .inl h0
 ·exact .inr ⟨g,cap,cur,e1,Nat.le_trans hb h1,h2⟩
theorem moved_apart {w:World} {v v' :Value} {b:Nat} (hm:Moved w v v') (hne:∀g,v.ownBlock=some g→b≠g) (hb:b<w.heap.size):∀g,v'.ownBlock=some g→b≠g:=by
 intro g hg
 rcases hm with hm|hm
 ·exact hne g (hm ▸ hg)
 ·rw [hm] at hg
  cases hg
  omega
end Go.Proofs.YtabfjecegpaoaaaGreatDoor
