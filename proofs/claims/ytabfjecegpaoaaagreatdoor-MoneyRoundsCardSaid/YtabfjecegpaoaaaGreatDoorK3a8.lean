/- MoneyRounds: for every input the law returns true, and each argument reads afterwards as it read before; the listed tables read as the program lays them (the tied card). -/
import Derived.WalkKit
import Derived.Deep.LoopGhost
import Derived.Deep.QuietTactic
import Derived.BigQuiet
import Derived.Test.YtabfjecegpaoaaaGreatDoorProg
import Derived.WalkSpells
import Derived.WalkLawsBesides
import Derived.IntWalk
import Derived.Lib.Hide
import Derived.Laws.BitsAllLaws
import Derived.StillTailTactics
import Derived.Deep.OwnRows
import Derived.Lib.ConvBytes
import Derived.Below
import Derived.RangeFuncNested
import Derived.RangeFuncCalls
import Derived.RangeFuncLeaves
import Derived.Shelf.Abstract
import Derived.Lib.LaidIn
import Derived.RegionTactic
import Derived.KernelRfl
import Derived.OrdersIn
import Derived.Shelf.Strings.Builder1
import Derived.Shelf.Strings.Builder2
import Derived.Shelf.Strings.Trim
import Derived.Shelf.Small.Utf8
import Derived.Shelf.Small.Bits
import Derived.Shelf.Small.Strs
import Derived.Shelf.Strings.BuilderF
import Derived.Shelf.Strings.BuilderK
import Derived.Shelf.Strings.Builder2Cap
import Derived.Shelf.Strconv.Atoi
import Derived.Shelf.Strconv.Itoa0
import Derived.Shelf.Strconv.Itoa1
import Derived.Shelf.LaysM
import Derived.Shelf.Strconv.Itoa2
import Derived.Shelf.Strconv.Itoa3
import Derived.Shelf.Strconv.AtoiErrFast
import Derived.Shelf.Strconv.ParseIntEmpty
import Derived.Shelf.Strconv.AtoiFail
import Derived.Shelf.Strconv.Clone
import Derived.Shelf.Strconv.SyntaxError
import Derived.Shelf.LaysC
import Derived.Shelf.Strconv.ToError
import Derived.Shelf.Strconv.Lower
import Derived.Shelf.Strconv.ParseUint10
import Derived.Shelf.Strconv.ParseUint10Empty
import Derived.Shelf.Strconv.ParseUint10Any
import Derived.Shelf.Strconv.ParseInt10
import Derived.Shelf.Strconv.AtoiLong
import Derived.Shelf.Strconv.AtoiInnerAll
import Derived.Shelf.Strconv.RangeError
import Derived.Shelf.Strconv.ToErrorRange
import Derived.Shelf.Strconv.AtoiAll
import Derived.Shelf.Strconv.ErrVarAll
import Derived.Shelf.Strconv.ParseUintEmpty
import Derived.Shelf.Strconv.ParseUint10b64
import Derived.Shelf.Strconv.ParseUint10b32
import Derived.Shelf.Strconv.ParseUint10b16
import Derived.Shelf.Strconv.ParseUint10b8
import Derived.Shelf.Strconv.ParseUint10At
import Derived.Shelf.Strconv.ParseInt10At64
import Derived.Shelf.Strconv.ParseInt10At32
import Derived.Shelf.Strconv.ParseInt10At16
import Derived.Shelf.Strconv.ParseInt10At8
import Derived.Shelf.Strconv.ParseInt10All
import Derived.Shelf.Strings.Search1
import Derived.Shelf.GgClosure.StringsIndexFunc
import Derived.Ground.GgwProg
import Derived.Shelf.GgClosure.StringsIndexFuncTop
import Derived.Shelf.GgClosure.StringsRunes
import Derived.Shelf.Strings.Prefix
import Derived.Shelf.Strings.Runes
import Derived.Shelf.Strings.AsciiSet
import Derived.Shelf.Bits.Mul64
import Derived.Shelf.Strings.Repeat
import Derived.Shelf.Unicode.DecodeSlow
import Derived.Shelf.Unicode.DecodeAny
import Derived.Shelf.Strings.FuncGrows
import Derived.Shelf.Strings.BuilderCap
import Derived.RangeFuncKeeps
import Derived.Lib.ItoaLen
import Derived.OwnWalkIn
import Derived.TacticsInMore
import Derived.LoopNIn
import Derived.LoopIn
import Derived.Lib.IndexMore
import Derived.Test.YtabfjecegpaoaaaGreatDoorK3a4
import Derived.Test.YtabfjecegpaoaaaGreatDoorZb5
import Derived.Test.YtabfjecegpaoaaaGreatDoorK3a2
import Derived.Test.YtabfjecegpaoaaaGreatDoorZb2
import Derived.Test.YtabfjecegpaoaaaGreatDoorZb1
import Derived.Test.YtabfjecegpaoaaaGreatDoorZa6
import Derived.Test.YtabfjecegpaoaaaGreatDoorZa5
import Derived.Test.YtabfjecegpaoaaaGreatDoorZa4
import Derived.Test.YtabfjecegpaoaaaGreatDoorZa3
import Derived.Test.YtabfjecegpaoaaaGreatDoorZa0
import Derived.Test.YtabfjecegpaoaaaGreatDoorZa1
import Derived.Test.YtabfjecegpaoaaaGreatDoorZa2
import Derived.Test.YtabfjecegpaoaaaGreatDoorK3a3
import Derived.Test.YtabfjecegpaoaaaGreatDoorZb6
import Derived.Test.YtabfjecegpaoaaaGreatDoorZc3
import Derived.Test.YtabfjecegpaoaaaGreatDoorZc2
import Derived.Test.YtabfjecegpaoaaaGreatDoorZb0
import Derived.Test.YtabfjecegpaoaaaGreatDoorZb4
import Derived.Test.YtabfjecegpaoaaaGreatDoorZb3
import Derived.Test.YtabfjecegpaoaaaGreatDoorZb8
import Derived.Test.YtabfjecegpaoaaaGreatDoorZb7
import Derived.Test.YtabfjecegpaoaaaGreatDoorZc1
import Derived.Test.YtabfjecegpaoaaaGreatDoorZc4
import Derived.Test.YtabfjecegpaoaaaGreatDoorK3a5
import Derived.Test.YtabfjecegpaoaaaGreatDoorK3a7
import Derived.Test.YtabfjecegpaoaaaGreatDoorZc5
import Derived.Test.YtabfjecegpaoaaaGreatDoorK3a6
import Derived.Test.YtabfjecegpaoaaaGreatDoorK3a1
import Derived.Test.YtabfjecegpaoaaaGreatDoorZc6
set_option maxHeartbeats 16000000
set_option linter.unusedVariables false
namespace Go.Proofs.YtabfjecegpaoaaaGreatDoor
open Go.RowKit Go.Shelf
open Dgt
set_option maxRecDepth 100000 in
theorem Step_r (q0 q1 q2:Int) (r0: -9223372036854775808≤q0∧q0≤9223372036854775807) (r1: -9223372036854775808≤q1∧q1≤9223372036854775807) (r2: -9223372036854775808≤q2∧q2≤9223372036854775807) (wq:World) :
  Calls Tryz.prog 13 #[.agg #[.int .i64 q0,.int .i64 q1,.int .i64 q2]] wq fun e w' =>∃m:Rt,e=.returned (.agg #[.bool m.neg,.string (encS m.num),.string (encS m.den)])∧m.Ok∧Rz m 32∧m.neg=false∧m.num≠0∧Below wq.heap.size wq w' :=by
 have R0:=hD r0;have R1:=hD r1;have R2:=hD r2;have C1:Hid (∀w,Calls Tryz.prog 12 #[.agg #[.int .i64 q0,.int .i64 q1,.int .i64 q2]] w fun e w' =>∃ng nu de,e=.returned (.agg #[.bool ng,.string (encS nu),.string (encS de)])∧Rt.Ok ⟨ng,nu,de⟩∧Rz ⟨ng,nu,de⟩ 32∧Below w.heap.size w w'):=hD fun w=>by
  refine (Made_r q0 q1 q2 w R0.out R1.out R2.out).mono ?_;rintro e w' ⟨⟨ng,nu,de⟩,rfl,ho,hz,hb⟩;exact ⟨ng,nu,de,rfl,ho,hz,hb⟩
 have C2:Hid (∀w,Gv 45 #[] w (.agg #[.bool centR.neg,.string (encS centR.num),.string (encS centR.den)])):=hD cent_any;clear r0 r1 r2;have HB:=hD (Below.refl wq.heap.size wq);obtain ⟨n0,hn0⟩:∃n,n=wq.heap.size:=⟨_,rfl⟩;rw [←hn0];have HN0:=hD hn0;clear hn0;go_enter Tryz.func13,Tryz.ntmps13;obtain ⟨W1,bk1,hW1,hbk1,HX1_1,HB,HG1_1,hup⟩:=boxn HB HN0 (.cells #[.int .i64 q0,.int .i64 q1,.int .i64 q2] 22);clear hup;obtain ⟨W2,bk2,hW2,hbk2,HX2_2,HB,HG2_2,hup⟩:=boxZ HB HN0;have HL2_2:=(hup _ _ HX1_1).2;have HX1_1:=(hup _ _ HX1_1).1;clear hup;obtain ⟨k3a,k3b,k3c⟩:=c3 HX1_1;go_wp2_with fail;clear hW1 hbk1 hW2 hbk2 k3a k3b k3c;refine (C1.out _).mono ?_;rintro e w3 ⟨ng,nu,de,rfl,ho,hz,hb⟩;have HX1_1:=uH hb HX1_1;have HX2_2:=uH hb HX2_2;have HB:=mH HB hb;clear hb;obtain ⟨W4,bk3,hW4,hbk3,HX3_4,HB,HG3_4,hup⟩:=boxZ HB HN0;have HL3_4:=(hup _ _ HX2_2).2;have HX1_1:=(hup _ _ HX1_1).1
 have HX2_2:=(hup _ _ HX2_2).1;clear hup;obtain ⟨W5,hW5,HX3_4,HB,ho,f5a,f5b,f5c,k5a,k5b,k5c⟩:=put3 HX3_4 HB HN0 HG3_4 (.bool ng) (.string (encS nu)) (.string (encS de));have HX1_1:=ho _ _ (en2 HL2_2 HL3_4) HX1_1;have HX2_2:=ho _ _ (en1 HL3_4) HX2_2;clear ho;have HO:=hD ho;have HZ:=hD hz;clear ho hz;have k6:W5.cell? ⟨bk3,0,none⟩=some (.bool ng):=by rw [Lib.cell_of_heap HX3_4.out];rfl
 cases ng
 case false =>
  by_cases hz0:nu=0
  ·subst hz0;have C3:Hid (∀w,Gv 35 #[.agg #[.bool false,.string (encS 0),.string (encS de)]] w (.int .i64 0)):=hD fun w=>by
    have h:=(fun w=>rRatSign_r (IsR.of HO.out HZ.out) (by decide) w) w;exact h
   obtain ⟨k7a,k7b,k7c⟩:=c3 HX3_4;go_wp2_with fail;clear hW4 hbk3 f5a f5b f5c k5a k5b k5c hW5 k6 k7a k7b k7c;refine (C3.out _).mono ?_;rintro e w6 ⟨rfl,hb⟩;have HX1_1:=uH hb HX1_1;have HX2_2:=uH hb HX2_2;have HX3_4:=uH hb HX3_4;have HB:=mH HB hb;clear hb;go_wp2_with fail;refine (C2.out _).mono ?_;rintro e w7 ⟨rfl,hb⟩;have HX1_1:=uH hb HX1_1;have HX2_2:=uH hb HX2_2;have HX3_4:=uH hb HX3_4;have HB:=mH HB hb;clear hb;obtain ⟨W8,hW8,HX2_2,HB,ho,f8a,f8b,f8c,k8a,k8b,k8c⟩:=putR HX2_2 HB HN0 HG2_2 centR;have HX1_1:=ho _ _ (en1 HL2_2) HX1_1;have HX3_4:=ho _ _ (ne1 HL3_4) HX3_4;clear ho;go_wp2_with fail;clear f8a f8b f8c k8a k8b k8c hW8;refine bodyPost_ret (rC1 HX2_2.out) rfl ?_;exact ⟨centR,rfl,centR_ok,centR_sz.mono (by decide),rfl,by decide,by rw [HN0.out];exact HB.out⟩
  ·have HNZ:=hD hz0;have C3:Hid (∀w,Gv 35 #[.agg #[.bool false,.string (encS nu),.string (encS de)]] w (.int .i64 1)):=hD fun w=>by
    have h:=rRatSign_r (IsR.of HO.out HZ.out) (by decide) w;rw [show sgnR ⟨false,nu,de⟩=1 from by unfold sgnR;simp [HNZ.out]] at h;exact h
   clear hz0;obtain ⟨k9a,k9b,k9c⟩:=c3 HX3_4;go_wp2_with fail;clear hW4 hbk3 f5a f5b f5c k5a k5b k5c hW5 k6 k9a k9b k9c;refine (C3.out _).mono ?_;rintro e w9 ⟨rfl,hb⟩;have HX1_1:=uH hb HX1_1;have HX2_2:=uH hb HX2_2;have HX3_4:=uH hb HX3_4;have HB:=mH HB hb;clear hb;obtain ⟨k10a,k10b,k10c⟩:=c3 HX3_4;obtain ⟨W10,hW10,HX2_2,HB,ho,f11a,f11b,f11c,k11a,k11b,k11c⟩:=put3 HX2_2 HB HN0 HG2_2 (.bool false) (.string (encS nu)) (.string (encS de));have HX1_1:=ho _ _ (en1 HL2_2) HX1_1;have HX3_4:=ho _ _ (ne1 HL3_4) HX3_4;clear ho;go_wp2_with fail;clear k10a k10b k10c f11a f11b f11c k11a k11b k11c hW10;refine bodyPost_ret (rC1 HX2_2.out) rfl ?_;exact ⟨⟨false,nu,de⟩,rfl,HO.out,HZ.out,rfl,HNZ.out,by rw [HN0.out];exact HB.out⟩
 case true =>
  have HNG:Hid (negR ⟨true,nu,de⟩=⟨false,nu,de⟩):=hD rfl;have C3:Hid (∀w,Gv 44 #[.agg #[.bool true,.string (encS nu),.string (encS de)]] w (.agg #[.bool false,.string (encS nu),.string (encS de)])):=hD fun w=>by
   have h:=rRatNeg_r (IsR.of HO.out HZ.out) (by decide) w;rw [HNG.out] at h;exact h
  obtain ⟨k12a,k12b,k12c⟩:=c3 HX3_4;go_wp2_with fail;clear hW4 hbk3 f5a f5b f5c k5a k5b k5c hW5 k6 k12a k12b k12c;refine (C3.out _).mono ?_;rintro e w11 ⟨rfl,hb⟩;have HX1_1:=uH hb HX1_1;have HX2_2:=uH hb HX2_2;have HX3_4:=uH hb HX3_4;have HB:=mH HB hb;clear hb;obtain ⟨W12,hW12,HX3_4,HB,ho,f13a,f13b,f13c,k13a,k13b,k13c⟩:=put3 HX3_4 HB HN0 HG3_4 (.bool false) (.string (encS nu)) (.string (encS de));have HX1_1:=ho _ _ (en2 HL2_2 HL3_4) HX1_1;have HX2_2:=ho _ _ (en1 HL3_4) HX2_2;clear ho;have HO2:Hid (Rt.Ok ⟨false,nu,de⟩):=hD (by rw [←HNG.out];exact negR_ok HO.out);have HZ2:Hid (Rz ⟨false,nu,de⟩ 32):=hD (by rw [←HNG.out];exact negR_sz HZ.out);clear HO HZ;have HO:=HO2;have HZ:=HZ2;clear HO2 HZ2
  by_cases hz0:nu=0
  ·subst hz0;have C4:Hid (∀w,Gv 35 #[.agg #[.bool false,.string (encS 0),.string (encS de)]] w (.int .i64 0)):=hD fun w=>by
    have h:=(fun w=>rRatSign_r (IsR.of HO.out HZ.out) (by decide) w) w;exact h
   obtain ⟨k14a,k14b,k14c⟩:=c3 HX3_4;go_wp2_with fail;clear f13a f13b f13c k13a k13b k13c hW12 k14a k14b k14c;refine (C4.out _).mono ?_;rintro e w13 ⟨rfl,hb⟩;have HX1_1:=uH hb HX1_1;have HX2_2:=uH hb HX2_2;have HX3_4:=uH hb HX3_4;have HB:=mH HB hb;clear hb;go_wp2_with fail;refine (C2.out _).mono ?_;rintro e w14 ⟨rfl,hb⟩;have HX1_1:=uH hb HX1_1;have HX2_2:=uH hb HX2_2;have HX3_4:=uH hb HX3_4;have HB:=mH HB hb;clear hb;obtain ⟨W15,hW15,HX2_2,HB,ho,f15a,f15b,f15c,k15a,k15b,k15c⟩:=putR HX2_2 HB HN0 HG2_2 centR;have HX1_1:=ho _ _ (en1 HL2_2) HX1_1;have HX3_4:=ho _ _ (ne1 HL3_4) HX3_4;clear ho;go_wp2_with fail;clear f15a f15b f15c k15a k15b k15c hW15;refine bodyPost_ret (rC1 HX2_2.out) rfl ?_;exact ⟨centR,rfl,centR_ok,centR_sz.mono (by decide),rfl,by decide,by rw [HN0.out];exact HB.out⟩
  ·have HNZ:=hD hz0;have C4:Hid (∀w,Gv 35 #[.agg #[.bool false,.string (encS nu),.string (encS de)]] w (.int .i64 1)):=hD fun w=>by
    have h:=rRatSign_r (IsR.of HO.out HZ.out) (by decide) w;rw [show sgnR ⟨false,nu,de⟩=1 from by unfold sgnR;simp [HNZ.out]] at h;exact h
   clear hz0;obtain ⟨k16a,k16b,k16c⟩:=c3 HX3_4;go_wp2_with fail;clear f13a f13b f13c k13a k13b k13c hW12 k16a k16b k16c;refine (C4.out _).mono ?_;rintro e w16 ⟨rfl,hb⟩;have HX1_1:=uH hb HX1_1;have HX2_2:=uH hb HX2_2;have HX3_4:=uH hb HX3_4;have HB:=mH HB hb;clear hb;obtain ⟨k17a,k17b,k17c⟩:=c3 HX3_4;obtain ⟨W17,hW17,HX2_2,HB,ho,f18a,f18b,f18c,k18a,k18b,k18c⟩:=put3 HX2_2 HB HN0 HG2_2 (.bool false) (.string (encS nu)) (.string (encS de));have HX1_1:=ho _ _ (en1 HL2_2) HX1_1;have HX3_4:=ho _ _ (ne1 HL3_4) HX3_4;clear ho;go_wp2_with fail;clear k17a k17b k17c f18a f18b f18c k18a k18b k18c hW17;refine bodyPost_ret (rC1 HX2_2.out) rfl ?_;exact ⟨⟨false,nu,de⟩,rfl,HO.out,HZ.out,rfl,HNZ.out,by rw [HN0.out];exact HB.out⟩
section
variable (na:Bool) (sa da:ByteArray) (nb:Bool) (sb db:ByteArray)
theorem steps_cases (za:sa.size≤9000) (zda:da.size≤9000) (zb:sb.size≤9000) (zdb:db.size≤9000) (h:stepsB na sa da nb sb db=true) :
  ∃a s:Rt,a.Ok∧s.Ok∧Rz a 9000∧Rz s 9000∧0<sgnR s∧na=a.neg∧sa=encS a.num∧da=encS a.den∧nb=s.neg∧sb=encS s.num∧db=encS s.den:=by
 unfold stepsB at h;simp only [Bool.and_eq_true,decide_eq_true_eq] at h;obtain ⟨⟨h1,h2⟩,h3⟩:=h;obtain ⟨a,oa,ka,ea1,ea2,ea3,-⟩:=right_row h1 za zda;obtain ⟨s,os,ks,es1,es2,es3,e4⟩:=right_row h2 zb zdb;rw [←e4] at h3;exact ⟨a,s,oa,os,ka,ks,h3,ea1,ea2,ea3,es1,es2,es3⟩
end
theorem Down_both (na:Bool) (sa da:ByteArray) (nb:Bool) (sb db:ByteArray) (za:sa.size≤9000) (zda:da.size≤9000) (zb:sb.size≤9000) (zdb:db.size≤9000):∃n s d b,∀w,Gv 23 #[.agg #[.bool na,.string sa,.string da],.agg #[.bool nb,.string sb,.string db]] w (.tuple #[.agg #[.bool n,.string s,.string d],.bool b])∧Gv 46 #[.agg #[.bool na,.string sa,.string da],.agg #[.bool nb,.string sb,.string db]] w (.tuple #[.agg #[.bool n,.string s,.string d],.bool b]):=by
 by_cases h:stepsB na sa da nb sb db=true
 ·obtain ⟨a,s,oa,os,ka,ks,hp,rfl,rfl,rfl,rfl,rfl,rfl⟩:=steps_cases na sa da nb sb db za zda zb zdb h;exact ⟨_,_,_,true,fun w=>⟨MoDown_r oa os ka ks hp w,rDown_r oa os (ka.mono (by decide)) (ks.mono (by decide)) hp w⟩⟩
 ·have h:stepsB na sa da nb sb db=false:=by simpa using h
  exact ⟨_,_,_,false,fun w=>⟨MoDown_no na sa da nb sb db (by omega) (by omega) (by omega) (by omega) h w,rDown_no na sa da nb sb db (by omega) (by omega) (by omega) (by omega) h w⟩⟩
theorem Up_both (na:Bool) (sa da:ByteArray) (nb:Bool) (sb db:ByteArray) (za:sa.size≤9000) (zda:da.size≤9000) (zb:sb.size≤9000) (zdb:db.size≤9000):∃n s d b,∀w,Gv 24 #[.agg #[.bool na,.string sa,.string da],.agg #[.bool nb,.string sb,.string db]] w (.tuple #[.agg #[.bool n,.string s,.string d],.bool b])∧Gv 47 #[.agg #[.bool na,.string sa,.string da],.agg #[.bool nb,.string sb,.string db]] w (.tuple #[.agg #[.bool n,.string s,.string d],.bool b]):=by
 by_cases h:stepsB na sa da nb sb db=true
 ·obtain ⟨a,s,oa,os,ka,ks,hp,rfl,rfl,rfl,rfl,rfl,rfl⟩:=steps_cases na sa da nb sb db za zda zb zdb h;exact ⟨_,_,_,true,fun w=>⟨MoUp_r oa os ka ks hp w,rUp_r oa os (ka.mono (by decide)) (ks.mono (by decide)) hp w⟩⟩
 ·have h:stepsB na sa da nb sb db=false:=by simpa using h
  exact ⟨_,_,_,false,fun w=>⟨MoUp_no na sa da nb sb db (by omega) (by omega) (by omega) (by omega) h w,rUp_no na sa da nb sb db (by omega) (by omega) (by omega) (by omega) h w⟩⟩
theorem Near_both (na:Bool) (sa da:ByteArray) (nb:Bool) (sb db:ByteArray) (za:sa.size≤9000) (zda:da.size≤9000) (zb:sb.size≤9000) (zdb:db.size≤9000):∃n s d b,∀w,Gv 25 #[.agg #[.bool na,.string sa,.string da],.agg #[.bool nb,.string sb,.string db]] w (.tuple #[.agg #[.bool n,.string s,.string d],.bool b])∧Gv 48 #[.agg #[.bool na,.string sa,.string da],.agg #[.bool nb,.string sb,.string db]] w (.tuple #[.agg #[.bool n,.string s,.string d],.bool b]):=by
 by_cases h:stepsB na sa da nb sb db=true
 ·obtain ⟨a,s,oa,os,ka,ks,hp,rfl,rfl,rfl,rfl,rfl,rfl⟩:=steps_cases na sa da nb sb db za zda zb zdb h;exact ⟨_,_,_,true,fun w=>⟨MoNear_r oa os ka ks hp w,rNear_r oa os (ka.mono (by decide)) (ks.mono (by decide)) hp w⟩⟩
 ·have h:stepsB na sa da nb sb db=false:=by simpa using h
  exact ⟨_,_,_,false,fun w=>⟨MoNear_no na sa da nb sb db (by omega) (by omega) (by omega) (by omega) h w,rNear_no na sa da nb sb db (by omega) (by omega) (by omega) (by omega) h w⟩⟩
theorem Cents_both (na:Bool) (sa da:ByteArray) (za:sa.size≤90000) (zda:da.size≤90000):∃c b,∀w,Gv 29 #[.agg #[.bool na,.string sa,.string da]] w (.tuple #[.int .i64 c,.bool b])∧Gv 49 #[.agg #[.bool na,.string sa,.string da]] w (.tuple #[.int .i64 c,.bool b]):=by
 by_cases h:rightR na sa da=true
 ·obtain ⟨a,oa,ka,rfl,rfl,rfl,-⟩:=right_row h za zda;exact ⟨_,_,fun w=>⟨MoCents_r oa ka w,rCents_r oa ka w⟩⟩
 ·have h:rightR na sa da=false:=by simpa using h
  exact ⟨_,_,fun w=>⟨MoCents_no na sa da (by omega) (by omega) h w,rCents_no na sa da (by omega) (by omega) h w⟩⟩
theorem Text_both (na:Bool) (sa da:ByteArray) (za:sa.size≤90000) (zda:da.size≤90000):∃t b,∀w,(Lib.TabIs Tryz.prog w "internal/strconv.uint64pow10" .u64 Lib.pow10Tab→Gv 30 #[.agg #[.bool na,.string sa,.string da]] w (.tuple #[.string t,.bool b]))∧Gv 50 #[.agg #[.bool na,.string sa,.string da]] w (.tuple #[.string t,.bool b]):=by
 by_cases h:rightR na sa da=true
 ·obtain ⟨a,oa,ka,rfl,rfl,rfl,-⟩:=right_row h za zda;have h1:=fun w ht=>MoText_r oa ka w ht;have h2:=fun w=>rText_r oa ka w
  unfold textV at h1 h2
  split at h1
  ·next hc=>rw [if_pos hc] at h2;exact ⟨_,_,fun w=>⟨h1 w,h2 w⟩⟩
  ·next hc=>rw [if_neg hc] at h2;exact ⟨_,_,fun w=>⟨h1 w,h2 w⟩⟩
 ·have h:rightR na sa da=false:=by simpa using h
  exact ⟨_,_,fun w=>⟨fun _=>MoText_no na sa da (by omega) (by omega) h w,rText_no na sa da (by omega) (by omega) h w⟩⟩
end Go.Proofs.YtabfjecegpaoaaaGreatDoor
