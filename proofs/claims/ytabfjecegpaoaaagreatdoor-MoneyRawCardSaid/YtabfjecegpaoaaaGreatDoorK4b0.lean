/- MoneyRaw: for every input the law returns true, and each argument reads afterwards as it read before; the listed tables read as the program lays them (the tied card). -/
import Derived.RangeFuncNested
import Derived.RangeFuncCalls
import Derived.RangeFuncLeaves
import Derived.Shelf.Abstract
import Derived.Below
import Derived.Lib.LaidIn
import Derived.RegionTactic
import Derived.KernelRfl
import Derived.Lib.Hide
import Derived.OrdersIn
import Derived.WalkKit
import Derived.Deep.LoopGhost
import Derived.Deep.QuietTactic
import Derived.BigQuiet
import Derived.Test.YtabfjecegpaoaaaGreatDoorProg
import Derived.WalkSpells
import Derived.WalkLawsBesides
import Derived.IntWalk
import Derived.Laws.BitsAllLaws
import Derived.StillTailTactics
import Derived.Deep.OwnRows
import Derived.Lib.ConvBytes
import Derived.Shelf.Strings.Builder1
import Derived.Shelf.Strings.Builder2
import Derived.Shelf.Strings.Trim
import Derived.Shelf.Small.Utf8
import Derived.Shelf.Small.Bits
import Derived.Shelf.Small.Strs
import Derived.Shelf.Strings.BuilderF
import Derived.Shelf.Strings.BuilderK
import Derived.Shelf.Strings.Builder2Cap
import Derived.Shelf.Strconv.Atoi
import Derived.Shelf.Strconv.Itoa0
import Derived.Shelf.Strconv.Itoa1
import Derived.Shelf.LaysM
import Derived.Shelf.Strconv.Itoa2
import Derived.Shelf.Strconv.Itoa3
import Derived.Shelf.Strconv.AtoiErrFast
import Derived.Shelf.Strconv.ParseIntEmpty
import Derived.Shelf.Strconv.AtoiFail
import Derived.Shelf.Strconv.Clone
import Derived.Shelf.Strconv.SyntaxError
import Derived.Shelf.LaysC
import Derived.Shelf.Strconv.ToError
import Derived.Shelf.Strconv.Lower
import Derived.Shelf.Strconv.ParseUint10
import Derived.Shelf.Strconv.ParseUint10Empty
import Derived.Shelf.Strconv.ParseUint10Any
import Derived.Shelf.Strconv.ParseInt10
import Derived.Shelf.Strconv.AtoiLong
import Derived.Shelf.Strconv.AtoiInnerAll
import Derived.Shelf.Strconv.RangeError
import Derived.Shelf.Strconv.ToErrorRange
import Derived.Shelf.Strconv.AtoiAll
import Derived.Shelf.Strconv.ErrVarAll
import Derived.Shelf.Strconv.ParseUintEmpty
import Derived.Shelf.Strconv.ParseUint10b64
import Derived.Shelf.Strconv.ParseUint10b32
import Derived.Shelf.Strconv.ParseUint10b16
import Derived.Shelf.Strconv.ParseUint10b8
import Derived.Shelf.Strconv.ParseUint10At
import Derived.Shelf.Strconv.ParseInt10At64
import Derived.Shelf.Strconv.ParseInt10At32
import Derived.Shelf.Strconv.ParseInt10At16
import Derived.Shelf.Strconv.ParseInt10At8
import Derived.Shelf.Strconv.ParseInt10All
import Derived.Shelf.Strings.Search1
import Derived.Shelf.GgClosure.StringsIndexFunc
import Derived.Ground.GgwProg
import Derived.Shelf.GgClosure.StringsIndexFuncTop
import Derived.Shelf.GgClosure.StringsRunes
import Derived.Shelf.Strings.Prefix
import Derived.Shelf.Unicode.Decode
import Derived.Shelf.Strings.Runes
import Derived.Shelf.Strings.AsciiSet
import Derived.Shelf.Bits.Mul64
import Derived.Shelf.Strings.Repeat
import Derived.Shelf.Unicode.DecodeSlow
import Derived.Shelf.Unicode.DecodeAny
import Derived.Shelf.Strings.FuncGrows
import Derived.Shelf.Strings.BuilderCap
import Derived.Test.YtabfjecegpaoaaaGreatDoorZc6
import Derived.Test.YtabfjecegpaoaaaGreatDoorK4a7
import Derived.Test.YtabfjecegpaoaaaGreatDoorZb8
import Derived.Test.YtabfjecegpaoaaaGreatDoorZb1
import Derived.Test.YtabfjecegpaoaaaGreatDoorZa1
import Derived.Test.YtabfjecegpaoaaaGreatDoorZb6
import Derived.Test.YtabfjecegpaoaaaGreatDoorZb2
import Derived.Test.YtabfjecegpaoaaaGreatDoorZa6
import Derived.Test.YtabfjecegpaoaaaGreatDoorZa5
import Derived.Test.YtabfjecegpaoaaaGreatDoorZa4
import Derived.Test.YtabfjecegpaoaaaGreatDoorZa3
import Derived.Test.YtabfjecegpaoaaaGreatDoorZa0
import Derived.Test.YtabfjecegpaoaaaGreatDoorZa2
import Derived.Test.YtabfjecegpaoaaaGreatDoorK4a2
set_option maxHeartbeats 16000000
set_option linter.unusedVariables false
namespace Go.Proofs.YtabfjecegpaoaaaGreatDoor
open Go.RowKit Go.Shelf
open Dgt
def Erounds_any_11_1 (na:Bool) (nr0:Bool) (nr1:Bool) (nr2:Bool) (br0:Bool) (br1:Bool) (br2:Bool) (b3:Bool) (b4:Bool) (fi:Bool) (sa:ByteArray) (da:ByteArray) (sr0:ByteArray) (dr0:ByteArray) (sr1:ByteArray) (dr1:ByteArray) (sr2:ByteArray) (dr2:ByteArray) (ts:ByteArray) (ci:Int):Nat→Value
 | 0=>.agg #[.bool nr0,.string sr0,.string dr0]
 | 1=>.agg #[.bool nr0,.string sr0,.string dr0]
 | 2=>.bool true
 | 3=>.bool true
 | 4=>.agg #[.bool nr1,.string sr1,.string dr1]
 | 5=>.agg #[.bool nr1,.string sr1,.string dr1]
 | 6=>.bool true
 | 7=>.bool true
 | 8=>.bool true
 | 9=>.agg #[.bool nr2,.string sr2,.string dr2]
 | 10=>.agg #[.bool nr2,.string sr2,.string dr2]
 | 11=>.bool true
 | 12=>.bool true
 | 13=>.bool true
 | 14=>.int .i64 ci
 | 15=>.int .i64 ci
 | 16=>.bool true
 | 17=>.bool true
 | 18=>.bool true
 | 19=>.string ts
 | 20=>.string ts
 | 21=>.bool true
 | 22=>.bool true
 | 23=>.bool true
 | 24=>.bool br0
 | 25=>.bool br0
 | 26=>.bool true
 | 27=>.bool true
 | 28=>.bool true
 | 29=>.bool br1
 | 30=>.bool br1
 | 31=>.bool true
 | 32=>.bool true
 | 33=>.bool true
 | 34=>.bool br2
 | 35=>.bool br2
 | 36=>.bool true
 | 37=>.bool true
 | 38=>.bool true
 | 39=>.bool b3
 | 40=>.bool b3
 | 41=>.bool true
 | 42=>.bool true
 | 43=>.bool true
 | 44=>.bool b4
 | 45=>.bool b4
 | 46=>.bool true
 | 47=>.bool true
 | 48=>.bool true
 | 49=>.agg #[.bool na,.string sa,.string da]
 | 50=>.bool fi
 | 51=>.agg #[.bool na,.string sa,.string da]
 | 52=>.bool fi
 | 53=>.bool true
 | 54=>.bool true
 | 55=>.bool true
 | _=>undef
set_option maxRecDepth 100000 in
theorem rounds_any (na:Bool) (sa da:ByteArray) (nb:Bool) (sb db:ByteArray) (za:sa.size≤9000) (zda:da.size≤9000) (zb:sb.size≤9000) (zdb:db.size≤9000) (wq:World) (htab:Lib.TabIs Tryz.prog wq "internal/strconv.uint64pow10" .u64 Lib.pow10Tab) :
  Gv 15 #[.agg #[.bool na,.string sa,.string da],.agg #[.bool nb,.string sb,.string db]] wq (.bool true):=by
 unfold Gv;have HT:=hD (Lib.tabBelow_of_tabIs htab);clear htab;obtain ⟨nr0,sr0,dr0,br0,c0⟩:=Down_both na sa da nb sb db za zda zb zdb;have C1:Hid (∀w,Gv 23 #[.agg #[.bool na,.string sa,.string da],.agg #[.bool nb,.string sb,.string db]] w (.tuple #[.agg #[.bool nr0,.string sr0,.string dr0],.bool br0])):=hD fun w=>(c0 w).1
 have C2:Hid (∀w,Gv 46 #[.agg #[.bool na,.string sa,.string da],.agg #[.bool nb,.string sb,.string db]] w (.tuple #[.agg #[.bool nr0,.string sr0,.string dr0],.bool br0])):=hD fun w=>(c0 w).2
 obtain ⟨nr1,sr1,dr1,br1,c1⟩:=Up_both na sa da nb sb db za zda zb zdb;have C3:Hid (∀w,Gv 24 #[.agg #[.bool na,.string sa,.string da],.agg #[.bool nb,.string sb,.string db]] w (.tuple #[.agg #[.bool nr1,.string sr1,.string dr1],.bool br1])):=hD fun w=>(c1 w).1
 have C4:Hid (∀w,Gv 47 #[.agg #[.bool na,.string sa,.string da],.agg #[.bool nb,.string sb,.string db]] w (.tuple #[.agg #[.bool nr1,.string sr1,.string dr1],.bool br1])):=hD fun w=>(c1 w).2
 obtain ⟨nr2,sr2,dr2,br2,c2⟩:=Near_both na sa da nb sb db za zda zb zdb;have C5:Hid (∀w,Gv 25 #[.agg #[.bool na,.string sa,.string da],.agg #[.bool nb,.string sb,.string db]] w (.tuple #[.agg #[.bool nr2,.string sr2,.string dr2],.bool br2])):=hD fun w=>(c2 w).1
 have C6:Hid (∀w,Gv 48 #[.agg #[.bool na,.string sa,.string da],.agg #[.bool nb,.string sb,.string db]] w (.tuple #[.agg #[.bool nr2,.string sr2,.string dr2],.bool br2])):=hD fun w=>(c2 w).2
 obtain ⟨ci,b3,c3⟩:=Cents_both na sa da (by omega) (by omega);obtain ⟨ts,b4,c4⟩:=Text_both na sa da (by omega) (by omega);have C7:Hid (∀w,Gv 29 #[.agg #[.bool na,.string sa,.string da]] w (.tuple #[.int .i64 ci,.bool b3])):=hD fun w=>(c3 w).1
 have C8:Hid (∀w,Gv 49 #[.agg #[.bool na,.string sa,.string da]] w (.tuple #[.int .i64 ci,.bool b3])):=hD fun w=>(c3 w).2
 have C9:Hid (∀w,Below wq.heap.size wq w→Gv 30 #[.agg #[.bool na,.string sa,.string da]] w (.tuple #[.string ts,.bool b4])):=hD fun w hp0=>(c4 w).1 (HT.out.on hp0).here
 have C10:Hid (∀w,Gv 50 #[.agg #[.bool na,.string sa,.string da]] w (.tuple #[.string ts,.bool b4])):=hD fun w=>(c4 w).2
 obtain ⟨fi,hf⟩:∃b,fitsB na sa da=b:=⟨_,rfl⟩;have C11:Hid (∀w,Gv 39 #[.agg #[.bool na,.string sa,.string da]] w (.bool fi)):=hD fun w=>by
  have h:=MoFits_any na sa da (by omega) (by omega) w;rw [hf] at h;exact h
 have C12:Hid (∀w,Gv 51 #[.agg #[.bool na,.string sa,.string da]] w (.bool fi)):=hD fun w=>by
  have h:=rFits_any na sa da (by omega) (by omega) w;rw [hf] at h;exact h
 clear c0 c1 c2 c3 c4 hf za zda zb zdb;have HB:=hD (Below.refl wq.heap.size wq);obtain ⟨n0,hn0⟩:∃n,n=wq.heap.size:=⟨_,rfl⟩;rw [←hn0];have HN0:=hD hn0;clear hn0;go_enter Tryz.func15,Tryz.ntmps15;obtain ⟨W1,bk2,hW1,hbk2,HX2_1,HB,HG2_1,hup⟩:=boxS HB HN0 na sa da;clear hup;obtain ⟨W2,bk3,hW2,hbk3,HX3_2,HB,HG3_2,hup⟩:=boxS HB HN0 nb sb db;have HL3_2:=(hup _ _ HX2_1).2;have HX2_1:=(hup _ _ HX2_1).1;clear hup;obtain ⟨k3a,k3b,k3c⟩:=c3 HX2_1;obtain ⟨k4a,k4b,k4c⟩:=c3 HX3_2;go_wp2_with fail;clear hW1 hbk2 hW2 hbk3 k3a k3b k3c k4a k4b k4c;refine (C1.out _).mono ?_;rintro e w3 ⟨rfl,hb⟩;have HX2_1:=uH hb HX2_1;have HX3_2:=uH hb HX3_2;have HB:=mH HB hb;clear hb;obtain ⟨W4,bk5,hW4,hbk5,HX5_5,HB,HG5_5,hup⟩:=boxZ HB HN0;have HL5_5:=(hup _ _ HX3_2).2;have HX2_1:=(hup _ _ HX2_1).1;have HX3_2:=(hup _ _ HX3_2).1;clear hup
 obtain ⟨W5,hW5,HX5_5,HB,ho,f6a,f6b,f6c,k6a,k6b,k6c⟩:=put3 HX5_5 HB HN0 HG5_5 (.bool nr0) (.string sr0) (.string dr0);have HX2_1:=ho _ _ (en2 HL3_2 HL5_5) HX2_1;have HX3_2:=ho _ _ (en1 HL5_5) HX3_2;clear ho;obtain ⟨k7a,k7b,k7c⟩:=c3 HX2_1;obtain ⟨k8a,k8b,k8c⟩:=c3 HX3_2;go_wp2_with fail;clear hW4 hbk5 f6a f6b f6c k6a k6b k6c hW5 k7a k7b k7c k8a k8b k8c;refine (C3.out _).mono ?_;rintro e w6 ⟨rfl,hb⟩;have HX2_1:=uH hb HX2_1;have HX3_2:=uH hb HX3_2;have HX5_5:=uH hb HX5_5;have HB:=mH HB hb;clear hb;obtain ⟨W7,bk7,hW7,hbk7,HX7_9,HB,HG7_9,hup⟩:=boxZ HB HN0;have HL7_9:=(hup _ _ HX5_5).2;have HX2_1:=(hup _ _ HX2_1).1;have HX3_2:=(hup _ _ HX3_2).1;have HX5_5:=(hup _ _ HX5_5).1;clear hup;obtain ⟨W8,hW8,HX7_9,HB,ho,f10a,f10b,f10c,k10a,k10b,k10c⟩:=put3 HX7_9 HB HN0 HG7_9 (.bool nr1) (.string sr1) (.string dr1);have HX2_1:=ho _ _ (en3 HL3_2 HL5_5 HL7_9) HX2_1;have HX3_2:=ho _ _ (en2 HL5_5 HL7_9) HX3_2
 have HX5_5:=ho _ _ (en1 HL7_9) HX5_5;clear ho;obtain ⟨k11a,k11b,k11c⟩:=c3 HX2_1;obtain ⟨k12a,k12b,k12c⟩:=c3 HX3_2;go_wp2_with fail;clear hW7 hbk7 f10a f10b f10c k10a k10b k10c hW8 k11a k11b k11c k12a k12b k12c;refine (C5.out _).mono ?_;rintro e w9 ⟨rfl,hb⟩;have HX2_1:=uH hb HX2_1;have HX3_2:=uH hb HX3_2;have HX5_5:=uH hb HX5_5;have HX7_9:=uH hb HX7_9;have HB:=mH HB hb;clear hb;obtain ⟨W10,bk9,hW10,hbk9,HX9_13,HB,HG9_13,hup⟩:=boxZ HB HN0;have HL9_13:=(hup _ _ HX7_9).2;have HX2_1:=(hup _ _ HX2_1).1;have HX3_2:=(hup _ _ HX3_2).1;have HX5_5:=(hup _ _ HX5_5).1;have HX7_9:=(hup _ _ HX7_9).1;clear hup;obtain ⟨W11,hW11,HX9_13,HB,ho,f14a,f14b,f14c,k14a,k14b,k14c⟩:=put3 HX9_13 HB HN0 HG9_13 (.bool nr2) (.string sr2) (.string dr2);have HX2_1:=ho _ _ (en4 HL3_2 HL5_5 HL7_9 HL9_13) HX2_1;have HX3_2:=ho _ _ (en3 HL5_5 HL7_9 HL9_13) HX3_2;have HX5_5:=ho _ _ (en2 HL7_9 HL9_13) HX5_5
 have HX7_9:=ho _ _ (en1 HL9_13) HX7_9;clear ho;obtain ⟨k15a,k15b,k15c⟩:=c3 HX2_1;go_wp2_with fail;clear hW10 hbk9 f14a f14b f14c k14a k14b k14c hW11 k15a k15b k15c;refine (C7.out _).mono ?_;rintro e w12 ⟨rfl,hb⟩;have HX2_1:=uH hb HX2_1;have HX3_2:=uH hb HX3_2;have HX5_5:=uH hb HX5_5;have HX7_9:=uH hb HX7_9;have HX9_13:=uH hb HX9_13;have HB:=mH HB hb;clear hb;obtain ⟨k16a,k16b,k16c⟩:=c3 HX2_1;go_wp2_with fail;clear k16a k16b k16c;refine (C9.out _ HB.out).mono ?_;rintro e w13 ⟨rfl,hb⟩;have HX2_1:=uH hb HX2_1;have HX3_2:=uH hb HX3_2;have HX5_5:=uH hb HX5_5;have HX7_9:=uH hb HX7_9;have HX9_13:=uH hb HX9_13;have HB:=mH HB hb;clear hb;obtain ⟨k17a,k17b,k17c⟩:=c3 HX2_1;obtain ⟨k18a,k18b,k18c⟩:=c3 HX3_2;go_wp2_with fail;clear k17a k17b k17c k18a k18b k18c;refine (C2.out _).mono ?_;rintro e w14 ⟨rfl,hb⟩;have HX2_1:=uH hb HX2_1;have HX3_2:=uH hb HX3_2;have HX5_5:=uH hb HX5_5
 have HX7_9:=uH hb HX7_9;have HX9_13:=uH hb HX9_13;have HB:=mH HB hb;clear hb;obtain ⟨W15,bk15,hW15,hbk15,HX15_19,HB,HG15_19,hup⟩:=boxZ HB HN0;have HL15_19:=(hup _ _ HX9_13).2;have HX2_1:=(hup _ _ HX2_1).1;have HX3_2:=(hup _ _ HX3_2).1;have HX5_5:=(hup _ _ HX5_5).1;have HX7_9:=(hup _ _ HX7_9).1;have HX9_13:=(hup _ _ HX9_13).1;clear hup;obtain ⟨W16,hW16,HX15_19,HB,ho,f20a,f20b,f20c,k20a,k20b,k20c⟩:=put3 HX15_19 HB HN0 HG15_19 (.bool nr0) (.string sr0) (.string dr0);have HX2_1:=ho _ _ (en5 HL3_2 HL5_5 HL7_9 HL9_13 HL15_19) HX2_1;have HX3_2:=ho _ _ (en4 HL5_5 HL7_9 HL9_13 HL15_19) HX3_2;have HX5_5:=ho _ _ (en3 HL7_9 HL9_13 HL15_19) HX5_5;have HX7_9:=ho _ _ (en2 HL9_13 HL15_19) HX7_9;have HX9_13:=ho _ _ (en1 HL15_19) HX9_13;clear ho;obtain ⟨k21a,k21b,k21c⟩:=c3 HX2_1;obtain ⟨k22a,k22b,k22c⟩:=c3 HX3_2;go_wp2_with fail
 clear hW15 hbk15 f20a f20b f20c k20a k20b k20c hW16 k21a k21b k21c k22a k22b k22c;refine (C4.out _).mono ?_;rintro e w17 ⟨rfl,hb⟩;have HX2_1:=uH hb HX2_1;have HX3_2:=uH hb HX3_2;have HX5_5:=uH hb HX5_5;have HX7_9:=uH hb HX7_9;have HX9_13:=uH hb HX9_13;have HX15_19:=uH hb HX15_19;have HB:=mH HB hb;clear hb;obtain ⟨W18,bk17,hW18,hbk17,HX17_23,HB,HG17_23,hup⟩:=boxZ HB HN0;have HL17_23:=(hup _ _ HX15_19).2;have HX2_1:=(hup _ _ HX2_1).1;have HX3_2:=(hup _ _ HX3_2).1;have HX5_5:=(hup _ _ HX5_5).1;have HX7_9:=(hup _ _ HX7_9).1;have HX9_13:=(hup _ _ HX9_13).1;have HX15_19:=(hup _ _ HX15_19).1;clear hup;obtain ⟨W19,hW19,HX17_23,HB,ho,f24a,f24b,f24c,k24a,k24b,k24c⟩:=put3 HX17_23 HB HN0 HG17_23 (.bool nr1) (.string sr1) (.string dr1);have HX2_1:=ho _ _ (by have h0:=HL3_2.out;have h1:=HL5_5.out;have h2:=HL7_9.out;have h3:=HL9_13.out;have h4:=HL15_19.out;have h5:=HL17_23.out;omega) HX2_1
 have HX3_2:=ho _ _ (en5 HL5_5 HL7_9 HL9_13 HL15_19 HL17_23) HX3_2;have HX5_5:=ho _ _ (en4 HL7_9 HL9_13 HL15_19 HL17_23) HX5_5;have HX7_9:=ho _ _ (en3 HL9_13 HL15_19 HL17_23) HX7_9;have HX9_13:=ho _ _ (en2 HL15_19 HL17_23) HX9_13;have HX15_19:=ho _ _ (en1 HL17_23) HX15_19;clear ho;obtain ⟨k25a,k25b,k25c⟩:=c3 HX2_1;obtain ⟨k26a,k26b,k26c⟩:=c3 HX3_2;go_wp2_with fail;clear hW18 hbk17 f24a f24b f24c k24a k24b k24c hW19 k25a k25b k25c k26a k26b k26c;refine (C6.out _).mono ?_;rintro e w20 ⟨rfl,hb⟩;have HX2_1:=uH hb HX2_1;have HX3_2:=uH hb HX3_2;have HX5_5:=uH hb HX5_5;have HX7_9:=uH hb HX7_9;have HX9_13:=uH hb HX9_13;have HX15_19:=uH hb HX15_19;have HX17_23:=uH hb HX17_23;have HB:=mH HB hb;clear hb;obtain ⟨W21,bk19,hW21,hbk19,HX19_27,HB,HG19_27,hup⟩:=boxZ HB HN0;have HL19_27:=(hup _ _ HX17_23).2;have HX2_1:=(hup _ _ HX2_1).1;have HX3_2:=(hup _ _ HX3_2).1;have HX5_5:=(hup _ _ HX5_5).1
 have HX7_9:=(hup _ _ HX7_9).1;have HX9_13:=(hup _ _ HX9_13).1;have HX15_19:=(hup _ _ HX15_19).1;have HX17_23:=(hup _ _ HX17_23).1;clear hup;obtain ⟨W22,hW22,HX19_27,HB,ho,f28a,f28b,f28c,k28a,k28b,k28c⟩:=put3 HX19_27 HB HN0 HG19_27 (.bool nr2) (.string sr2) (.string dr2);have HX2_1:=ho _ _ (by have h0:=HL3_2.out;have h1:=HL5_5.out;have h2:=HL7_9.out;have h3:=HL9_13.out;have h4:=HL15_19.out;have h5:=HL17_23.out;have h6:=HL19_27.out;omega) HX2_1;have HX3_2:=ho _ _ (by have h1:=HL5_5.out;have h2:=HL7_9.out;have h3:=HL9_13.out;have h4:=HL15_19.out;have h5:=HL17_23.out;have h6:=HL19_27.out;omega) HX3_2;have HX5_5:=ho _ _ (en5 HL7_9 HL9_13 HL15_19 HL17_23 HL19_27) HX5_5;have HX7_9:=ho _ _ (en4 HL9_13 HL15_19 HL17_23 HL19_27) HX7_9;have HX9_13:=ho _ _ (en3 HL15_19 HL17_23 HL19_27) HX9_13;have HX15_19:=ho _ _ (en2 HL17_23 HL19_27) HX15_19;have HX17_23:=ho _ _ (en1 HL19_27) HX17_23;clear ho
 obtain ⟨k29a,k29b,k29c⟩:=c3 HX2_1;go_wp2_with fail;clear hW21 hbk19 f28a f28b f28c k28a k28b k28c hW22 k29a k29b k29c;refine (C8.out _).mono ?_;rintro e w23 ⟨rfl,hb⟩;have HX2_1:=uH hb HX2_1;have HX3_2:=uH hb HX3_2;have HX5_5:=uH hb HX5_5;have HX7_9:=uH hb HX7_9;have HX9_13:=uH hb HX9_13;have HX15_19:=uH hb HX15_19;have HX17_23:=uH hb HX17_23;have HX19_27:=uH hb HX19_27;have HB:=mH HB hb;clear hb;obtain ⟨k30a,k30b,k30c⟩:=c3 HX2_1;go_wp2_with fail;clear k30a k30b k30c;refine (C10.out _).mono ?_;rintro e w24 ⟨rfl,hb⟩;have HX2_1:=uH hb HX2_1;have HX3_2:=uH hb HX3_2;have HX5_5:=uH hb HX5_5;have HX7_9:=uH hb HX7_9;have HX9_13:=uH hb HX9_13;have HX15_19:=uH hb HX15_19;have HX17_23:=uH hb HX17_23;have HX19_27:=uH hb HX19_27;have HB:=mH HB hb;clear hb;go_wp2_with fail
 refine wpVl (w:=w24) (by kernel_rfl) (fun ix v _=>v=Erounds_any_11_1 na nr0 nr1 nr2 br0 br1 br2 b3 b4 fi sa da sr0 dr0 sr1 dr1 sr2 dr2 ts ci ix) (fun t=>(decide (4≤t)&&decide (t<5))||(decide (81≤t)&&decide (t<136))) (by kernel_rfl) (by kernel_rfl) (by kernel_rfl) (fun _ _ _ _ _ h=>h) ?_ ?_
 ·intro i hi ov_ listed av_ w hR K hK;have ho:=hR.at_;have hi:i<56:=hi;have hii:i=0∨i=1∨i=2∨i=3∨i=4∨i=5∨i=6∨i=7∨i=8∨i=9∨i=10∨i=11∨i=12∨i=13∨i=14∨i=15∨i=16∨i=17∨i=18∨i=19∨i=20∨i=21∨i=22∨i=23∨i=24∨i=25∨i=26∨i=27∨i=28∨i=29∨i=30∨i=31∨i=32∨i=33∨i=34∨i=35∨i=36∨i=37∨i=38∨i=39∨i=40∨i=41∨i=42∨i=43∨i=44∨i=45∨i=46∨i=47∨i=48∨i=49∨i=50∨i=51∨i=52∨i=53∨i=54∨i=55:=by omega
  rcases hii with rfl|rfl|rfl|rfl|rfl|rfl|rfl|rfl|rfl|rfl|rfl|rfl|rfl|rfl|rfl|rfl|rfl|rfl|rfl|rfl|rfl|rfl|rfl|rfl|rfl|rfl|rfl|rfl|rfl|rfl|rfl|rfl|rfl|rfl|rfl|rfl|rfl|rfl|rfl|rfl|rfl|rfl|rfl|rfl|rfl|rfl|rfl|rfl|rfl|rfl|rfl|rfl|rfl|rfl|rfl|rfl<;>(simp at ho;subst ho)
  ·have b5:av_.tmps.getD 5 undef=.pointer (some ⟨bk5,0,none⟩):=hR.b 5;obtain ⟨cx0,cx1,cx2⟩:=c3 (uH hR.below HX5_5);refine pSq ?_;go_simp;exact hK _ _ rfl rB
  ·have b15:av_.tmps.getD 15 undef=.pointer (some ⟨bk15,0,none⟩):=hR.b 15;obtain ⟨cx0,cx1,cx2⟩:=c3 (uH hR.below HX15_19);refine pSq ?_;go_simp;exact hK _ _ rfl rB
  ·have e0:av_.tmps.getD 81 undef=.agg #[.bool nr0,.string sr0,.string dr0]:=hR.d 0;have e1:av_.tmps.getD 82 undef=.agg #[.bool nr0,.string sr0,.string dr0]:=hR.d 1;refine pSq ?_;go_simp;exact hK _ _ rfl rB
  ·have e2:av_.tmps.getD 83 undef=.bool true:=hR.d 2;refine pSq ?_;go_simp;exact hK _ _ rfl rB
  ·have e3:av_.tmps.getD 84 undef=.bool true:=hR.g 3;have b7:av_.tmps.getD 7 undef=.pointer (some ⟨bk7,0,none⟩):=hR.b 7;obtain ⟨cx0,cx1,cx2⟩:=c3 (uH hR.below HX7_9);refine gSq (b:=true) e3 ?_;go_simp;exact hK _ _ rfl rB
  ·have e3:av_.tmps.getD 84 undef=.bool true:=hR.g 3;have b17:av_.tmps.getD 17 undef=.pointer (some ⟨bk17,0,none⟩):=hR.b 17;obtain ⟨cx0,cx1,cx2⟩:=c3 (uH hR.below HX17_23);refine gSq (b:=true) e3 ?_;go_simp;exact hK _ _ rfl rB
  ·have e4:av_.tmps.getD 85 undef=.agg #[.bool nr1,.string sr1,.string dr1]:=hR.d 4;have e5:av_.tmps.getD 86 undef=.agg #[.bool nr1,.string sr1,.string dr1]:=hR.d 5;have e3:av_.tmps.getD 84 undef=.bool true:=hR.g 3;refine gSq (b:=true) e3 ?_;go_simp;exact hK _ _ rfl rB
  ·have e3:av_.tmps.getD 84 undef=.bool true:=hR.d 3;have e6:av_.tmps.getD 87 undef=.bool true:=hR.d 6;refine pSq ?_;go_simp;exact hK _ _ rfl rB
  ·have e7:av_.tmps.getD 88 undef=.bool true:=hR.d 7;refine pSq ?_;go_simp;exact hK _ _ rfl rB
  ·have e8:av_.tmps.getD 89 undef=.bool true:=hR.g 8;have b9:av_.tmps.getD 9 undef=.pointer (some ⟨bk9,0,none⟩):=hR.b 9;obtain ⟨cx0,cx1,cx2⟩:=c3 (uH hR.below HX9_13);refine gSq (b:=true) e8 ?_;go_simp;exact hK _ _ rfl rB
  ·have e8:av_.tmps.getD 89 undef=.bool true:=hR.g 8;have b19:av_.tmps.getD 19 undef=.pointer (some ⟨bk19,0,none⟩):=hR.b 19;obtain ⟨cx0,cx1,cx2⟩:=c3 (uH hR.below HX19_27);refine gSq (b:=true) e8 ?_;go_simp;exact hK _ _ rfl rB
  ·have e9:av_.tmps.getD 90 undef=.agg #[.bool nr2,.string sr2,.string dr2]:=hR.d 9;have e10:av_.tmps.getD 91 undef=.agg #[.bool nr2,.string sr2,.string dr2]:=hR.d 10;have e8:av_.tmps.getD 89 undef=.bool true:=hR.g 8;refine gSq (b:=true) e8 ?_;go_simp;exact hK _ _ rfl rB
  ·have e8:av_.tmps.getD 89 undef=.bool true:=hR.d 8;have e11:av_.tmps.getD 92 undef=.bool true:=hR.d 11;refine pSq ?_;go_simp;exact hK _ _ rfl rB
  ·have e12:av_.tmps.getD 93 undef=.bool true:=hR.d 12;refine pSq ?_;go_simp;exact hK _ _ rfl rB
  ·have e13:av_.tmps.getD 94 undef=.bool true:=hR.g 13;have b11:av_.tmps.getD 11 undef=.int .i64 ci:=hR.b 11;refine gSq (b:=true) e13 ?_;go_simp;exact hK _ _ rfl rB
  ·have e13:av_.tmps.getD 94 undef=.bool true:=hR.g 13;have b21:av_.tmps.getD 21 undef=.int .i64 ci:=hR.b 21;refine gSq (b:=true) e13 ?_;go_simp;exact hK _ _ rfl rB
  ·have e14:av_.tmps.getD 95 undef=.int .i64 ci:=hR.d 14;have e15:av_.tmps.getD 96 undef=.int .i64 ci:=hR.d 15;have e13:av_.tmps.getD 94 undef=.bool true:=hR.g 13;refine gSq (b:=true) e13 ?_;go_simp;exact hK _ _ rfl rB
  ·have e13:av_.tmps.getD 94 undef=.bool true:=hR.d 13;have e16:av_.tmps.getD 97 undef=.bool true:=hR.d 16;refine pSq ?_;go_simp;exact hK _ _ rfl rB
  ·have e17:av_.tmps.getD 98 undef=.bool true:=hR.d 17;refine pSq ?_;go_simp;exact hK _ _ rfl rB
  ·have e18:av_.tmps.getD 99 undef=.bool true:=hR.g 18;have b13:av_.tmps.getD 13 undef=.string ts:=hR.b 13;refine gSq (b:=true) e18 ?_;go_simp;exact hK _ _ rfl rB
  ·have e18:av_.tmps.getD 99 undef=.bool true:=hR.g 18;have b23:av_.tmps.getD 23 undef=.string ts:=hR.b 23;refine gSq (b:=true) e18 ?_;go_simp;exact hK _ _ rfl rB
  ·have e19:av_.tmps.getD 100 undef=.string ts:=hR.d 19;have e20:av_.tmps.getD 101 undef=.string ts:=hR.d 20;have e18:av_.tmps.getD 99 undef=.bool true:=hR.g 18;refine gSq (b:=true) e18 ?_;go_simp;exact hK _ _ rfl rB
  ·have e18:av_.tmps.getD 99 undef=.bool true:=hR.d 18;have e21:av_.tmps.getD 102 undef=.bool true:=hR.d 21;refine pSq ?_;go_simp;exact hK _ _ rfl rB
  ·have e22:av_.tmps.getD 103 undef=.bool true:=hR.d 22;refine pSq ?_;go_simp;exact hK _ _ rfl rB
  ·have e23:av_.tmps.getD 104 undef=.bool true:=hR.g 23;have b6:av_.tmps.getD 6 undef=.bool br0:=hR.b 6;refine gSq (b:=true) e23 ?_;go_simp;exact hK _ _ rfl rB
  ·have e23:av_.tmps.getD 104 undef=.bool true:=hR.g 23;have b16:av_.tmps.getD 16 undef=.bool br0:=hR.b 16;refine gSq (b:=true) e23 ?_;go_simp;exact hK _ _ rfl rB
  ·have e24:av_.tmps.getD 105 undef=.bool br0:=hR.d 24;have e25:av_.tmps.getD 106 undef=.bool br0:=hR.d 25;have e23:av_.tmps.getD 104 undef=.bool true:=hR.g 23;refine gSq (b:=true) e23 ?_;go_simp;exact hK _ _ rfl rB
  ·have e23:av_.tmps.getD 104 undef=.bool true:=hR.d 23;have e26:av_.tmps.getD 107 undef=.bool true:=hR.d 26;refine pSq ?_;go_simp;exact hK _ _ rfl rB
  ·have e27:av_.tmps.getD 108 undef=.bool true:=hR.d 27;refine pSq ?_;go_simp;exact hK _ _ rfl rB
  ·have e28:av_.tmps.getD 109 undef=.bool true:=hR.g 28;have b8:av_.tmps.getD 8 undef=.bool br1:=hR.b 8;refine gSq (b:=true) e28 ?_;go_simp;exact hK _ _ rfl rB
  ·have e28:av_.tmps.getD 109 undef=.bool true:=hR.g 28;have b18:av_.tmps.getD 18 undef=.bool br1:=hR.b 18;refine gSq (b:=true) e28 ?_;go_simp;exact hK _ _ rfl rB
  ·have e29:av_.tmps.getD 110 undef=.bool br1:=hR.d 29;have e30:av_.tmps.getD 111 undef=.bool br1:=hR.d 30;have e28:av_.tmps.getD 109 undef=.bool true:=hR.g 28;refine gSq (b:=true) e28 ?_;go_simp;exact hK _ _ rfl rB
  ·have e28:av_.tmps.getD 109 undef=.bool true:=hR.d 28;have e31:av_.tmps.getD 112 undef=.bool true:=hR.d 31;refine pSq ?_;go_simp;exact hK _ _ rfl rB
  ·have e32:av_.tmps.getD 113 undef=.bool true:=hR.d 32;refine pSq ?_;go_simp;exact hK _ _ rfl rB
  ·have e33:av_.tmps.getD 114 undef=.bool true:=hR.g 33;have b10:av_.tmps.getD 10 undef=.bool br2:=hR.b 10;refine gSq (b:=true) e33 ?_;go_simp;exact hK _ _ rfl rB
  ·have e33:av_.tmps.getD 114 undef=.bool true:=hR.g 33;have b20:av_.tmps.getD 20 undef=.bool br2:=hR.b 20;refine gSq (b:=true) e33 ?_;go_simp;exact hK _ _ rfl rB
  ·have e34:av_.tmps.getD 115 undef=.bool br2:=hR.d 34;have e35:av_.tmps.getD 116 undef=.bool br2:=hR.d 35;have e33:av_.tmps.getD 114 undef=.bool true:=hR.g 33;refine gSq (b:=true) e33 ?_;go_simp;exact hK _ _ rfl rB
  ·have e33:av_.tmps.getD 114 undef=.bool true:=hR.d 33;have e36:av_.tmps.getD 117 undef=.bool true:=hR.d 36;refine pSq ?_;go_simp;exact hK _ _ rfl rB
  ·have e37:av_.tmps.getD 118 undef=.bool true:=hR.d 37;refine pSq ?_;go_simp;exact hK _ _ rfl rB
  ·have e38:av_.tmps.getD 119 undef=.bool true:=hR.g 38;have b12:av_.tmps.getD 12 undef=.bool b3:=hR.b 12;refine gSq (b:=true) e38 ?_;go_simp;exact hK _ _ rfl rB
  ·have e38:av_.tmps.getD 119 undef=.bool true:=hR.g 38;have b22:av_.tmps.getD 22 undef=.bool b3:=hR.b 22;refine gSq (b:=true) e38 ?_;go_simp;exact hK _ _ rfl rB
  ·have e39:av_.tmps.getD 120 undef=.bool b3:=hR.d 39;have e40:av_.tmps.getD 121 undef=.bool b3:=hR.d 40;have e38:av_.tmps.getD 119 undef=.bool true:=hR.g 38;refine gSq (b:=true) e38 ?_;go_simp;exact hK _ _ rfl rB
  ·have e38:av_.tmps.getD 119 undef=.bool true:=hR.d 38;have e41:av_.tmps.getD 122 undef=.bool true:=hR.d 41;refine pSq ?_;go_simp;exact hK _ _ rfl rB
  ·have e42:av_.tmps.getD 123 undef=.bool true:=hR.d 42;refine pSq ?_;go_simp;exact hK _ _ rfl rB
  ·have e43:av_.tmps.getD 124 undef=.bool true:=hR.g 43;have b14:av_.tmps.getD 14 undef=.bool b4:=hR.b 14;refine gSq (b:=true) e43 ?_;go_simp;exact hK _ _ rfl rB
  ·have e43:av_.tmps.getD 124 undef=.bool true:=hR.g 43;have b24:av_.tmps.getD 24 undef=.bool b4:=hR.b 24;refine gSq (b:=true) e43 ?_;go_simp;exact hK _ _ rfl rB
  ·have e44:av_.tmps.getD 125 undef=.bool b4:=hR.d 44;have e45:av_.tmps.getD 126 undef=.bool b4:=hR.d 45;have e43:av_.tmps.getD 124 undef=.bool true:=hR.g 43;refine gSq (b:=true) e43 ?_;go_simp;exact hK _ _ rfl rB
  ·have e43:av_.tmps.getD 124 undef=.bool true:=hR.d 43;have e46:av_.tmps.getD 127 undef=.bool true:=hR.d 46;refine pSq ?_;go_simp;exact hK _ _ rfl rB
  ·have e47:av_.tmps.getD 128 undef=.bool true:=hR.d 47;refine pSq ?_;go_simp;exact hK _ _ rfl rB
  ·have e48:av_.tmps.getD 129 undef=.bool true:=hR.g 48;have b2:av_.tmps.getD 2 undef=.pointer (some ⟨bk2,0,none⟩):=hR.b 2;obtain ⟨cx0,cx1,cx2⟩:=c3 (uH hR.below HX2_1);refine gSq (b:=true) e48 ?_;go_simp;exact hK _ _ rfl rB
  ·have e49:av_.tmps.getD 130 undef=.agg #[.bool na,.string sa,.string da]:=hR.d 49;have e48:av_.tmps.getD 129 undef=.bool true:=hR.g 48;refine gSq (b:=true) e48 ?_;go_simp;refine (C11.out w).mono ?_;rintro e w' ⟨rfl,hb⟩;exact hK _ _ (rfl) hb
  ·have e48:av_.tmps.getD 129 undef=.bool true:=hR.g 48;have b2:av_.tmps.getD 2 undef=.pointer (some ⟨bk2,0,none⟩):=hR.b 2;obtain ⟨cx0,cx1,cx2⟩:=c3 (uH hR.below HX2_1);refine gSq (b:=true) e48 ?_;go_simp;exact hK _ _ rfl rB
  ·have e51:av_.tmps.getD 132 undef=.agg #[.bool na,.string sa,.string da]:=hR.d 51;have e48:av_.tmps.getD 129 undef=.bool true:=hR.g 48;refine gSq (b:=true) e48 ?_;go_simp;refine (C12.out w).mono ?_;rintro e w' ⟨rfl,hb⟩;exact hK _ _ (rfl) hb
  ·have e50:av_.tmps.getD 131 undef=.bool fi:=hR.d 50;have e52:av_.tmps.getD 133 undef=.bool fi:=hR.d 52;have e48:av_.tmps.getD 129 undef=.bool true:=hR.g 48;refine gSq (b:=true) e48 ?_;go_simp;exact hK _ _ rfl rB
  ·have e48:av_.tmps.getD 129 undef=.bool true:=hR.d 48;have e53:av_.tmps.getD 134 undef=.bool true:=hR.d 53;refine pSq ?_;go_simp;exact hK _ _ rfl rB
  ·have e54:av_.tmps.getD 135 undef=.bool true:=hR.d 54;refine pSq ?_;go_simp;exact hK _ _ rfl rB
 ·intro sv_ w hS hb;have e55:sv_ 4=.bool true:=hS 55 (by decide);simp only [over,ovL,Nat.reduceAdd,Nat.reduceLeDiff,Nat.reduceLT];have HB:=mH HB hb;have HX2_1:=uH hb HX2_1;have HX3_2:=uH hb HX3_2;have HX5_5:=uH hb HX5_5;have HX7_9:=uH hb HX7_9;have HX9_13:=uH hb HX9_13;have HX15_19:=uH hb HX15_19;have HX17_23:=uH hb HX17_23;have HX19_27:=uH hb HX19_27;obtain ⟨w25,hw⟩:∃w8,w8=w:=⟨_,rfl⟩;subst hw;rw [e55];clear hS hb e55;go_wp2_with fail;go_ret;exact ⟨rfl,by rw [HN0.out];exact HB.out⟩
end Go.Proofs.YtabfjecegpaoaaaGreatDoor
