/- MoneyRaw: for every input the law returns true, and each argument reads afterwards as it read before; the listed tables read as the program lays them (the tied card). -/
import Derived.WalkKit
import Derived.Deep.LoopGhost
import Derived.Deep.QuietTactic
import Derived.BigQuiet
import Derived.Test.YtabfjecegpaoaaaGreatDoorProg
import Derived.WalkSpells
import Derived.WalkLawsBesides
import Derived.IntWalk
import Derived.Lib.Hide
import Derived.Laws.BitsAllLaws
import Derived.StillTailTactics
import Derived.Deep.OwnRows
import Derived.Lib.ConvBytes
import Derived.Below
import Derived.RangeFuncNested
import Derived.RangeFuncCalls
import Derived.RangeFuncLeaves
import Derived.Shelf.Abstract
import Derived.Lib.LaidIn
import Derived.RegionTactic
import Derived.KernelRfl
import Derived.OrdersIn
import Derived.Shelf.Strings.Builder1
import Derived.Shelf.Strings.Builder2
import Derived.Shelf.Strings.Trim
import Derived.Shelf.Small.Utf8
import Derived.Shelf.Small.Bits
import Derived.Shelf.Small.Strs
import Derived.Shelf.Strings.BuilderF
import Derived.Shelf.Strings.BuilderK
import Derived.Shelf.Strings.Builder2Cap
import Derived.Shelf.Strconv.Atoi
import Derived.Shelf.Strconv.Itoa0
import Derived.Shelf.Strconv.Itoa1
import Derived.Shelf.LaysM
import Derived.Shelf.Strconv.Itoa2
import Derived.Shelf.Strconv.Itoa3
import Derived.Shelf.Strconv.AtoiErrFast
import Derived.Shelf.Strconv.ParseIntEmpty
import Derived.Shelf.Strconv.AtoiFail
import Derived.Shelf.Strconv.Clone
import Derived.Shelf.Strconv.SyntaxError
import Derived.Shelf.LaysC
import Derived.Shelf.Strconv.ToError
import Derived.Shelf.Strconv.Lower
import Derived.Shelf.Strconv.ParseUint10
import Derived.Shelf.Strconv.ParseUint10Empty
import Derived.Shelf.Strconv.ParseUint10Any
import Derived.Shelf.Strconv.ParseInt10
import Derived.Shelf.Strconv.AtoiLong
import Derived.Shelf.Strconv.AtoiInnerAll
import Derived.Shelf.Strconv.RangeError
import Derived.Shelf.Strconv.ToErrorRange
import Derived.Shelf.Strconv.AtoiAll
import Derived.Shelf.Strconv.ErrVarAll
import Derived.Shelf.Strconv.ParseUintEmpty
import Derived.Shelf.Strconv.ParseUint10b64
import Derived.Shelf.Strconv.ParseUint10b32
import Derived.Shelf.Strconv.ParseUint10b16
import Derived.Shelf.Strconv.ParseUint10b8
import Derived.Shelf.Strconv.ParseUint10At
import Derived.Shelf.Strconv.ParseInt10At64
import Derived.Shelf.Strconv.ParseInt10At32
import Derived.Shelf.Strconv.ParseInt10At16
import Derived.Shelf.Strconv.ParseInt10At8
import Derived.Shelf.Strconv.ParseInt10All
import Derived.Shelf.Strings.Search1
import Derived.Shelf.GgClosure.StringsIndexFunc
import Derived.Ground.GgwProg
import Derived.Shelf.GgClosure.StringsIndexFuncTop
import Derived.Shelf.GgClosure.StringsRunes
import Derived.Shelf.Strings.Prefix
import Derived.Shelf.Unicode.Decode
import Derived.Shelf.Strings.Runes
import Derived.Shelf.Strings.AsciiSet
import Derived.Shelf.Bits.Mul64
import Derived.Shelf.Strings.Repeat
import Derived.Shelf.Unicode.DecodeSlow
import Derived.Shelf.Unicode.DecodeAny
import Derived.Shelf.Strings.FuncGrows
import Derived.Shelf.Strings.BuilderCap
import Derived.Test.YtabfjecegpaoaaaGreatDoorK4a3
import Derived.Test.YtabfjecegpaoaaaGreatDoorZb6
import Derived.Test.YtabfjecegpaoaaaGreatDoorZb2
import Derived.Test.YtabfjecegpaoaaaGreatDoorZb1
import Derived.Test.YtabfjecegpaoaaaGreatDoorZa6
import Derived.Test.YtabfjecegpaoaaaGreatDoorZa5
import Derived.Test.YtabfjecegpaoaaaGreatDoorZa4
import Derived.Test.YtabfjecegpaoaaaGreatDoorZa3
import Derived.Test.YtabfjecegpaoaaaGreatDoorZa0
import Derived.Test.YtabfjecegpaoaaaGreatDoorZa1
import Derived.Test.YtabfjecegpaoaaaGreatDoorZa2
import Derived.Test.YtabfjecegpaoaaaGreatDoorK4a2
set_option maxHeartbeats 16000000
set_option linter.unusedVariables false
namespace Go.Proofs.YtabfjecegpaoaaaGreatDoor
open Go.RowKit Go.Shelf
open Dgt
def ErDown_r_6_1 (s:Rt) (q:Rt) (f:Rt) (d:Rt):Nat→Value
 | 0=>.agg #[.bool q.neg,.string (encS q.num),.string (encS q.den)]
 | 1=>.agg #[.bool f.neg,.string (encS f.num),.string (encS f.den)]
 | 2=>.agg #[.bool s.neg,.string (encS s.num),.string (encS s.den)]
 | 3=>.agg #[.bool d.neg,.string (encS d.num),.string (encS d.den)]
 | _=>undef
set_option maxRecDepth 100000 in
theorem rDown_r {a s:Rt} (ha:a.Ok) (hs:s.Ok) (za:Rz a 60000) (zs:Rz s 60000) (hp:0<sgnR s) (wq:World) :
  Gv 46 #[.agg #[.bool a.neg,.string (encS a.num),.string (encS a.den)],.agg #[.bool s.neg,.string (encS s.num),.string (encS s.den)]] wq (.tuple #[rtV (downR a s),.bool true]):=by
 unfold Gv;have hn:=sgn_pos hp;have c1:=fun w=>rRatRight_any a.neg (encS a.num) (encS a.den) w (Nat.le_trans (encS_size_lt za.1) (by decide)) (Nat.le_trans (encS_size_lt za.2) (by decide));rw [rightR_of ha] at c1
 have c2:=fun w=>rRatRight_any s.neg (encS s.num) (encS s.den) w (Nat.le_trans (encS_size_lt zs.1) (by decide)) (Nat.le_trans (encS_size_lt zs.2) (by decide));rw [rightR_of hs] at c2
 have ia:IsR (rtV a) a 60000:=IsR.of ha za;have is:IsR (rtV s) s 60000:=IsR.of hs zs;have c3:=fun w=>rRatSign_r is (by decide) w
 have hq:(quoR a s).Ok:=quoR_ok ha (by omega);have zq:=quoR_sz za zs;have c4:=fun w=>rRatQuo_r ia is (by decide) (by decide) w
 have c5:=fun w=>rFloor_r hq zq (by decide) w
 have c6:=fun w=>rRatMul_r (IsR.of (flR_ok (quoR a s)) ((fl_sz hq zq).mono (show 60000+60000+1≤130000 by decide))) (IsR.of hs (zs.mono (show 60000≤130000 by decide))) (by decide) (by decide) w
 unfold quoV at c4;rw [if_neg hn] at c4;rw [show mulR (flR (quoR a s)) s=downR a s from rfl] at c6;obtain ⟨q,h1⟩:∃q,quoR a s=q:=⟨_,rfl⟩;rw [h1] at c4 c5 c6;obtain ⟨f,h2⟩:∃f,flR q=f:=⟨_,rfl⟩;rw [h2] at c5 c6;obtain ⟨d,h3⟩:∃d,downR a s=d:=⟨_,rfl⟩;rw [h3] at c6 ⊢;obtain ⟨g,h4⟩:∃g,sgnR s=g:=⟨_,rfl⟩;rw [h4] at c3 hp;have HP:Hid (¬g≤0):=hD (by omega);have C1:Hid (∀w,Gv 89 #[rtV a] w (.bool true)):=hD c1;have C2:Hid (∀w,Gv 89 #[rtV s] w (.bool true)):=hD c2;have C3:Hid (∀w,Gv 35 #[rtV s] w (.int .i64 g)):=hD c3;have C4:Hid (∀w,Gv 26 #[rtV a,rtV s] w (.tuple #[.agg #[.bool q.neg,.string (encS q.num),.string (encS q.den)],.bool true])):=hD c4;have C5:Hid (∀w,Gv 68 #[rtV q] w (.agg #[.bool f.neg,.string (encS f.num),.string (encS f.den)])):=hD c5;have C6:Hid (∀w,Gv 16 #[rtV f,rtV s] w (.agg #[.bool d.neg,.string (encS d.num),.string (encS d.den)])):=hD c6
 clear c1 c2 c3 c4 c5 c6 h1 h2 h3 h4 ia is hq zq hn ha hs za zs hp;have HB:=hD (Below.refl wq.heap.size wq);obtain ⟨n0,hn0⟩:∃n,n=wq.heap.size:=⟨_,rfl⟩;rw [←hn0];have HN0:=hD hn0;clear hn0;go_enter Tryz.func46,Tryz.ntmps46;obtain ⟨W1,bk2,hW1,hbk2,HX2_1,HB,HG2_1,hup⟩:=boxR HB HN0 a;clear hup;obtain ⟨W2,bk3,hW2,hbk3,HX3_2,HB,HG3_2,hup⟩:=boxR HB HN0 s;have HL3_2:=(hup _ _ HX2_1).2;have HX2_1:=(hup _ _ HX2_1).1;clear hup;obtain ⟨W3,bk4,hW3,hbk4,HX4_3,HB,HG4_3,hup⟩:=boxZ HB HN0;have HL4_3:=(hup _ _ HX3_2).2;have HX2_1:=(hup _ _ HX2_1).1;have HX3_2:=(hup _ _ HX3_2).1;clear hup;obtain ⟨k4a,k4b,k4c⟩:=c3 HX2_1;go_wp2_with fail;clear hW1 hbk2 hW2 hbk3 hW3 hbk4 k4a k4b k4c;refine (C1.out _).mono ?_;rintro e w4 ⟨rfl,hb⟩;have HX2_1:=uH hb HX2_1;have HX3_2:=uH hb HX3_2;have HX4_3:=uH hb HX4_3;have HB:=mH HB hb;clear hb;obtain ⟨k5a,k5b,k5c⟩:=c3 HX3_2;go_wp2_with fail;clear k5a k5b k5c
 refine (C2.out _).mono ?_;rintro e w5 ⟨rfl,hb⟩;have HX2_1:=uH hb HX2_1;have HX3_2:=uH hb HX3_2;have HX4_3:=uH hb HX4_3;have HB:=mH HB hb;clear hb;obtain ⟨k6a,k6b,k6c⟩:=c3 HX3_2;go_wp2_with fail;clear k6a k6b k6c;refine (C3.out _).mono ?_;rintro e w6 ⟨rfl,hb⟩;have HX2_1:=uH hb HX2_1;have HX3_2:=uH hb HX3_2;have HX4_3:=uH hb HX4_3;have HB:=mH HB hb;clear hb;have q7:=HP.out;obtain ⟨k8a,k8b,k8c⟩:=c3 HX2_1;obtain ⟨k9a,k9b,k9c⟩:=c3 HX3_2;go_wp2_with fail;clear q7 k8a k8b k8c k9a k9b k9c;refine (C4.out _).mono ?_;rintro e w7 ⟨rfl,hb⟩;have HX2_1:=uH hb HX2_1;have HX3_2:=uH hb HX3_2;have HX4_3:=uH hb HX4_3;have HB:=mH HB hb;clear hb;obtain ⟨W8,bk8,hW8,hbk8,HX8_10,HB,HG8_10,hup⟩:=boxZ HB HN0;have HL8_10:=(hup _ _ HX4_3).2;have HX2_1:=(hup _ _ HX2_1).1;have HX3_2:=(hup _ _ HX3_2).1;have HX4_3:=(hup _ _ HX4_3).1;clear hup
 obtain ⟨W9,hW9,HX8_10,HB,ho,f11a,f11b,f11c,k11a,k11b,k11c⟩:=putR HX8_10 HB HN0 HG8_10 q;have HX2_1:=ho _ _ (en3 HL3_2 HL4_3 HL8_10) HX2_1;have HX3_2:=ho _ _ (en2 HL4_3 HL8_10) HX3_2;have HX4_3:=ho _ _ (en1 HL8_10) HX4_3;clear ho;go_wp2_with fail;clear hW8 hbk8 f11a f11b f11c k11a k11b k11c hW9;refine wpTl (w:=W9) (by kernel_rfl) (fun ix v _=>v=ErDown_r_6_1 s q f d ix) 4 (fun t=>(decide (32≤t)&&decide (t<36))) (by decide) (by kernel_rfl) (by kernel_rfl) (by kernel_rfl) (by kernel_rfl) (by kernel_rfl) (fun _ _ _ _ _ h=>h) ?_ ?_
 ·intro i hi ov_ listed av_ w hR K hK;have ho:=hR.at_;have hi:i<4:=hi;have hii:i=0∨i=1∨i=2∨i=3:=by omega
  rcases hii with rfl|rfl|rfl|rfl<;>(simp at ho;subst ho)
  ·have b8:av_.tmps.getD 8 undef=.pointer (some ⟨bk8,0,none⟩):=hR.b 8;obtain ⟨cx0,cx1,cx2⟩:=c3 (uH hR.below HX8_10);refine pSq ?_;go_simp;exact hK _ _ rfl rB
  ·have e0:av_.tmps.getD 32 undef=.agg #[.bool q.neg,.string (encS q.num),.string (encS q.den)]:=hR.t 0;refine pSq ?_;go_simp;refine (C5.out w).mono ?_;rintro e w' ⟨rfl,hb⟩;exact hK _ _ (rfl) hb
  ·have b3:av_.tmps.getD 3 undef=.pointer (some ⟨bk3,0,none⟩):=hR.b 3;obtain ⟨cx0,cx1,cx2⟩:=c3 (uH hR.below HX3_2);refine pSq ?_;go_simp;exact hK _ _ rfl rB
  ·have e1:av_.tmps.getD 33 undef=.agg #[.bool f.neg,.string (encS f.num),.string (encS f.den)]:=hR.t 1;have e2:av_.tmps.getD 34 undef=.agg #[.bool s.neg,.string (encS s.num),.string (encS s.den)]:=hR.t 2;refine pSq ?_;go_simp;refine (C6.out w).mono ?_;rintro e w' ⟨rfl,hb⟩;exact hK _ _ (rfl) hb
 ·intro sv_ w hS hb;have e3:sv_ 35=.agg #[.bool d.neg,.string (encS d.num),.string (encS d.den)]:=hS 3 (by decide);simp only [over,ovL,Nat.reduceAdd,Nat.reduceLeDiff,Nat.reduceLT];have HX2_1:=uH hb HX2_1;have HX3_2:=uH hb HX3_2;have HX4_3:=uH hb HX4_3;have HX8_10:=uH hb HX8_10;have HB:=mH HB hb;obtain ⟨w10,hw⟩:∃w8,w8=w:=⟨_,rfl⟩;subst hw;rw [e3];clear hS hb e3;obtain ⟨W11,hW11,HX4_3,HB,ho,f12a,f12b,f12c,k12a,k12b,k12c⟩:=putR HX4_3 HB HN0 HG4_3 d;have HX2_1:=ho _ _ (en2 HL3_2 HL4_3) HX2_1;have HX3_2:=ho _ _ (en1 HL4_3) HX3_2;have HX8_10:=ho _ _ (ne1 HL8_10) HX8_10;clear ho;refine tail_step (n:=1) rfl rfl ?_;go_simp
  try rw [hW11]
  clear f12a f12b f12c k12a k12b k12c hW11;refine tail_step (n:=0) rfl rfl ?_;go_simp;simp only [wpTail];go_wp2_with fail;refine bodyPost_ret (rC2 HX4_3.out) rfl ?_;exact ⟨rfl,by rw [HN0.out];exact HB.out⟩
set_option maxRecDepth 100000 in
theorem rDown_no2 (na:Bool) (sa da:ByteArray) (nb:Bool) (sb db:ByteArray) (za:sa.size≤100000) (zda:da.size≤100000) (zb:sb.size≤10000) (zdb:db.size≤10000) (h:stepsB na sa da nb sb db=false) (wq:World) :
  Gv 46 #[.agg #[.bool na,.string sa,.string da],.agg #[.bool nb,.string sb,.string db]] wq (.tuple #[.agg #[.bool false,.string ⟨#[]⟩,.string ⟨#[]⟩],.bool false]):=by
 unfold Gv;have c1:=fun w=>rRatRight_any na sa da w (by omega) (by omega);have c2:=fun w=>rRatRight_any nb sb db w (by omega) (by omega)
 have c3:=fun w=>rRatSign_r (show IsR (.agg #[.bool nb,.string sb,.string db]) (valQ nb sb db) 10000 from ⟨_,_,_,rfl,zb,zdb,rfl⟩) (by decide) w
 have HE:Hid (stepsB na sa da nb sb db=(rightR na sa da&&rightR nb sb db&&decide (0<sgnR (valQ nb sb db)))):=hD rfl;obtain ⟨R1,h1⟩:∃b,rightR na sa da=b:=⟨_,rfl⟩;obtain ⟨R2,h2⟩:∃b,rightR nb sb db=b:=⟨_,rfl⟩;obtain ⟨g,h3⟩:∃b,sgnR (valQ nb sb db)=b:=⟨_,rfl⟩;rw [h1] at c1 HE;rw [h2] at c2 HE;rw [h3] at c3 HE;rw [h] at HE;have C1:Hid (∀w,Gv 89 #[.agg #[.bool na,.string sa,.string da]] w (.bool R1)):=hD c1;have C2:Hid (∀w,Gv 89 #[.agg #[.bool nb,.string sb,.string db]] w (.bool R2)):=hD c2;have C3:Hid (∀w,Gv 35 #[.agg #[.bool nb,.string sb,.string db]] w (.int .i64 g)):=hD c3;clear c1 c2 c3 h1 h2 h3 h za zda zb zdb;have HB:=hD (Below.refl wq.heap.size wq);obtain ⟨n0,hn0⟩:∃n,n=wq.heap.size:=⟨_,rfl⟩;rw [←hn0];have HN0:=hD hn0;clear hn0;go_enter Tryz.func46,Tryz.ntmps46;obtain ⟨W1,bk2,hW1,hbk2,HX2_1,HB,HG2_1,hup⟩:=boxS HB HN0 na sa da;clear hup
 obtain ⟨W2,bk3,hW2,hbk3,HX3_2,HB,HG3_2,hup⟩:=boxS HB HN0 nb sb db;have HL3_2:=(hup _ _ HX2_1).2;have HX2_1:=(hup _ _ HX2_1).1;clear hup;obtain ⟨W3,bk4,hW3,hbk4,HX4_3,HB,HG4_3,hup⟩:=boxZ HB HN0;have HL4_3:=(hup _ _ HX3_2).2;have HX2_1:=(hup _ _ HX2_1).1;have HX3_2:=(hup _ _ HX3_2).1;clear hup;obtain ⟨k4a,k4b,k4c⟩:=c3 HX2_1;go_wp2_with fail;clear hW1 hbk2 hW2 hbk3 hW3 hbk4 k4a k4b k4c;refine (C1.out _).mono ?_;rintro e w4 ⟨rfl,hb⟩;have HX2_1:=uH hb HX2_1;have HX3_2:=uH hb HX3_2;have HX4_3:=uH hb HX4_3;have HB:=mH HB hb;clear hb;obtain ⟨k5a,k5b,k5c⟩:=c3 HX3_2;go_wp2_with fail;clear k5a k5b k5c;refine (C2.out _).mono ?_;rintro e w5 ⟨rfl,hb⟩;have HX2_1:=uH hb HX2_1;have HX3_2:=uH hb HX3_2;have HX4_3:=uH hb HX4_3;have HB:=mH HB hb;clear hb;cases R1
 case false =>
  obtain ⟨W6,hW6,HX4_3,HB,ho,f6a,f6b,f6c,k6a,k6b,k6c⟩:=putZ HX4_3 HB HN0 HG4_3;have HX2_1:=ho _ _ (en2 HL3_2 HL4_3) HX2_1;have HX3_2:=ho _ _ (en1 HL4_3) HX3_2;clear ho;go_wp2_with fail;clear f6a f6b f6c k6a k6b k6c hW6;refine bodyPost_ret (rC2 HX4_3.out) rfl ?_;exact ⟨rfl,by rw [HN0.out];exact HB.out⟩
 case true =>
  cases R2
  case false =>
   obtain ⟨W7,hW7,HX4_3,HB,ho,f7a,f7b,f7c,k7a,k7b,k7c⟩:=putZ HX4_3 HB HN0 HG4_3;have HX2_1:=ho _ _ (en2 HL3_2 HL4_3) HX2_1;have HX3_2:=ho _ _ (en1 HL4_3) HX3_2;clear ho;go_wp2_with fail;clear f7a f7b f7c k7a k7b k7c hW7;refine bodyPost_ret (rC2 HX4_3.out) rfl ?_;exact ⟨rfl,by rw [HN0.out];exact HB.out⟩
  case true =>
   obtain ⟨k8a,k8b,k8c⟩:=c3 HX3_2;go_wp2_with fail;clear k8a k8b k8c;refine (C3.out _).mono ?_;rintro e w8 ⟨rfl,hb⟩;have HX2_1:=uH hb HX2_1;have HX3_2:=uH hb HX3_2;have HX4_3:=uH hb HX4_3;have HB:=mH HB hb;clear hb;have hg:g≤0:=by have:=HE.out;simp at this;omega
   obtain ⟨W9,hW9,HX4_3,HB,ho,f9a,f9b,f9c,k9a,k9b,k9c⟩:=putZ HX4_3 HB HN0 HG4_3;have HX2_1:=ho _ _ (en2 HL3_2 HL4_3) HX2_1;have HX3_2:=ho _ _ (en1 HL4_3) HX3_2;clear ho;go_wp2_with fail;clear hg f9a f9b f9c k9a k9b k9c hW9;refine bodyPost_ret (rC2 HX4_3.out) rfl ?_;exact ⟨rfl,by rw [HN0.out];exact HB.out⟩
def ErUp_r_4_1 (a:Rt) (s:Rt) (m:Rt) (d:Rt):Nat→Value
 | 0=>.agg #[.bool a.neg,.string (encS a.num),.string (encS a.den)]
 | 1=>.agg #[.bool m.neg,.string (encS m.num),.string (encS m.den)]
 | 2=>.agg #[.bool s.neg,.string (encS s.num),.string (encS s.den)]
 | 3=>.tuple #[.agg #[.bool d.neg,.string (encS d.num),.string (encS d.den)],.bool true]
 | 4=>.tuple #[.agg #[.bool d.neg,.string (encS d.num),.string (encS d.den)],.bool true]
 | 5=>.agg #[.bool d.neg,.string (encS d.num),.string (encS d.den)]
 | 6=>.bool true
 | 7=>undef
 | 8=>undef
 | 9=>.bool true
 | _=>undef
set_option maxRecDepth 100000 in
theorem rUp_r {a s:Rt} (ha:a.Ok) (hs:s.Ok) (za:Rz a 20000) (zs:Rz s 20000) (hp:0<sgnR s) (wq:World) :
  Gv 47 #[.agg #[.bool a.neg,.string (encS a.num),.string (encS a.den)],.agg #[.bool s.neg,.string (encS s.num),.string (encS s.den)]] wq (.tuple #[rtV (upR a s),.bool true]):=by
 unfold Gv;have hn:=sgn_pos hp;have c1:=fun w=>rRatRight_any a.neg (encS a.num) (encS a.den) w (Nat.le_trans (encS_size_lt za.1) (by decide)) (Nat.le_trans (encS_size_lt za.2) (by decide));rw [rightR_of ha] at c1
 have hq0:0<s.q:=(q_sgn hs).2.1.1 (by rcases sgn_cases s with h|h|h<;>omega);have hm:(negR a).Ok:=negR_ok ha;have c2:=fun w=>rRatNeg_r (IsR.of ha za) (by decide) w
 have c3:=fun w=>rDown_r hm hs ((negR_sz za).mono (by decide)) (zs.mono (by decide)) hp w
 have zd:Rz (downR (negR a) s) 100000:=(down_sz hm hs hn (negR_sz za) zs).mono (by decide);have c4:=fun w=>rRatNeg_r (IsR.of (downR_ok hs) zd) (by decide) w
 rw [up_ref ha hs hq0] at c4;obtain ⟨u,h0⟩:∃u,upR a s=u:=⟨_,rfl⟩;rw [h0] at c4 ⊢;obtain ⟨m,h1⟩:∃m,negR a=m:=⟨_,rfl⟩;rw [h1] at c2 c3 c4;obtain ⟨d,h2⟩:∃d,downR m s=d:=⟨_,rfl⟩;rw [h2] at c3 c4;have C1:Hid (∀w,Gv 89 #[rtV a] w (.bool true)):=hD c1;have C2:Hid (∀w,Gv 44 #[rtV a] w (.agg #[.bool m.neg,.string (encS m.num),.string (encS m.den)])):=hD c2;have C3:Hid (∀w,Gv 46 #[rtV m,rtV s] w (.tuple #[.agg #[.bool d.neg,.string (encS d.num),.string (encS d.den)],.bool true])):=hD c3;have C4:Hid (∀w,Gv 44 #[rtV d] w (.agg #[.bool u.neg,.string (encS u.num),.string (encS u.den)])):=hD c4;clear c1 c2 c3 c4 h0 h1 h2 hn hq0 hm zd ha hs za zs hp;have HB:=hD (Below.refl wq.heap.size wq);obtain ⟨n0,hn0⟩:∃n,n=wq.heap.size:=⟨_,rfl⟩;rw [←hn0];have HN0:=hD hn0;clear hn0;go_enter Tryz.func47,Tryz.ntmps47;obtain ⟨W1,bk2,hW1,hbk2,HX2_1,HB,HG2_1,hup⟩:=boxR HB HN0 a;clear hup
 obtain ⟨W2,bk3,hW2,hbk3,HX3_2,HB,HG3_2,hup⟩:=boxR HB HN0 s;have HL3_2:=(hup _ _ HX2_1).2;have HX2_1:=(hup _ _ HX2_1).1;clear hup;obtain ⟨W3,bk4,hW3,hbk4,HX4_3,HB,HG4_3,hup⟩:=boxZ HB HN0;have HL4_3:=(hup _ _ HX3_2).2;have HX2_1:=(hup _ _ HX2_1).1;have HX3_2:=(hup _ _ HX3_2).1;clear hup;obtain ⟨k4a,k4b,k4c⟩:=c3 HX2_1;go_wp2_with fail;clear hW1 hbk2 hW2 hbk3 hW3 hbk4 k4a k4b k4c;refine (C1.out _).mono ?_;rintro e w4 ⟨rfl,hb⟩;have HX2_1:=uH hb HX2_1;have HX3_2:=uH hb HX3_2;have HX4_3:=uH hb HX4_3;have HB:=mH HB hb;clear hb;go_wp2_with fail
 refine wp_region_box (w0:=w4) (by kernel_rfl) (fun ix v _=>v=ErUp_r_4_1 a s m d ix) 7 8 (.cells #[.bool false,.string ⟨#[]⟩,.string ⟨#[]⟩] 26 (0,0)) (.cells #[.bool d.neg,.string (encS d.num),.string (encS d.den)] 26 (0,0)) (fun t=>(decide (7≤t)&&decide (t<9))||(decide (14≤t)&&decide (t<21))) (by kernel_rfl) (by kernel_rfl) (by kernel_rfl) (by decide) (by decide) (by kernel_rfl) rfl (fun _ _ _ _ _ h=>h) ?_ ?_ ?_ ?_
 ·intro i hi hia his ov_ listed av_ w hR K hK;have ho:=hR.at_;have hi:i<10:=hi;have hii:i=0∨i=1∨i=2∨i=3∨i=4∨i=5∨i=6∨i=9:=by omega
  rcases hii with rfl|rfl|rfl|rfl|rfl|rfl|rfl|rfl
  ·simp at ho;subst ho;have b2:av_.tmps.getD 2 undef=.pointer (some ⟨bk2,0,none⟩):=hR.b 2;obtain ⟨cx0,cx1,cx2⟩:=c3 (uH hR.below HX2_1);refine pSq ?_;go_simp;exact hK _ _ rfl rB
  ·simp at ho;subst ho;have e0:av_.tmps.getD 15 undef=.agg #[.bool a.neg,.string (encS a.num),.string (encS a.den)]:=hR.dep ⟨0,.data⟩ (by simp) rfl (by decide) (by decide);refine pSq ?_;go_simp;refine (C2.out w).mono ?_;rintro e w' ⟨rfl,hb⟩;exact hK _ _ (rfl) hb
  ·simp at ho;subst ho;have b3:av_.tmps.getD 3 undef=.pointer (some ⟨bk3,0,none⟩):=hR.b 3;obtain ⟨cx0,cx1,cx2⟩:=c3 (uH hR.below HX3_2);refine pSq ?_;go_simp;exact hK _ _ rfl rB
  ·simp at ho;subst ho;have e1:av_.tmps.getD 16 undef=.agg #[.bool m.neg,.string (encS m.num),.string (encS m.den)]:=hR.dep ⟨1,.data⟩ (by simp) rfl (by decide) (by decide);have e2:av_.tmps.getD 17 undef=.agg #[.bool s.neg,.string (encS s.num),.string (encS s.den)]:=hR.dep ⟨2,.data⟩ (by simp) rfl (by decide) (by decide);refine pSq ?_;go_simp;refine (C3.out w).mono ?_;rintro e w' ⟨rfl,hb⟩;exact hK _ _ (rfl) hb
  ·simp at ho;subst ho;have e3:av_.tmps.getD 18 undef=.tuple #[.agg #[.bool d.neg,.string (encS d.num),.string (encS d.den)],.bool true]:=hR.dep ⟨3,.data⟩ (by simp) rfl (by decide) (by decide);refine pSq ?_;go_simp;exact hK _ _ rfl rB
  ·simp at ho;subst ho;have e4:av_.tmps.getD 14 undef=.tuple #[.agg #[.bool d.neg,.string (encS d.num),.string (encS d.den)],.bool true]:=hR.dep ⟨4,.data⟩ (by simp) rfl (by decide) (by decide);refine pSq ?_;go_simp;exact hK _ _ rfl rB
  ·simp at ho;subst ho;have e4:av_.tmps.getD 14 undef=.tuple #[.agg #[.bool d.neg,.string (encS d.num),.string (encS d.den)],.bool true]:=hR.dep ⟨4,.data⟩ (by simp) rfl (by decide) (by decide);refine pSq ?_;go_simp;exact hK _ _ rfl rB
  ·simp at ho;subst ho;have e6:av_.tmps.getD 20 undef=.bool true:=hR.dep ⟨6,.data⟩ (by simp) rfl (by decide) (by decide);refine pSq ?_;go_simp;exact hK _ _ rfl rB
 ·intro ov_ av_ w ho K hK;simp at ho;subst ho;refine pSq ?_;go_simp;exact hK _ _ _ rfl (Nat.le_refl _) (heap_alloc_new _ _) (rB.alloc (Nat.le_refl _) _)
 ·intro ov_ listed av_ w g hR hv hg hz K hK;have ho:=hR.at_;simp at ho;subst ho;have e7:av_.tmps.getD 7 undef=.pointer (some ⟨g,0,none⟩):=hv;have e5:av_.tmps.getD 19 undef=.agg #[.bool d.neg,.string (encS d.num),.string (encS d.den)]:=hR.dep ⟨5,.data⟩ (by simp) rfl (by decide) (by decide);have cz0:w.cell? ⟨g,0,none⟩=some (.bool false):=by rw [Lib.cell_of_heap hz];rfl
  have fz0:w.frozen? ⟨g,0,none⟩=false:=frz0 hz 0;have cz1:w.cell? ⟨g,1,none⟩=some (.string ⟨#[]⟩):=by rw [Lib.cell_of_heap hz];rfl
  have fz1:w.frozen? ⟨g,1,none⟩=false:=frz0 hz 1;have cz2:w.cell? ⟨g,2,none⟩=some (.string ⟨#[]⟩):=by rw [Lib.cell_of_heap hz];rfl
  have fz2:w.frozen? ⟨g,2,none⟩=false:=frz0 hz 2;refine pSq ?_;go_simp;exact hK _ (by simp [World.setCell,Array.getElem?_modify,hz]) (((rB.setCell (p:=⟨g,0,none⟩) hg (.bool d.neg)).setCell (p:=⟨g,1,none⟩) hg (.string (encS d.num))).setCell (p:=⟨g,2,none⟩) hg (.string (encS d.den)))
 ·intro sv_ w g hS hg0 hge hN hb;have e9:sv_ 8=.bool true:=hS 9 (by decide) (by decide) (by decide);have e7:sv_ 7=.pointer (some ⟨g,0,none⟩):=hg0;simp only [over,ovL,Nat.reduceAdd,Nat.reduceLeDiff,Nat.reduceLT];obtain ⟨bk7,hg1⟩:∃b,g=b:=⟨_,rfl⟩;rw [hg1] at e7 hge hN;clear hg1;have HG7_5:Hid (n0≤bk7):=hD (by rw [HN0.out];exact Nat.le_trans HB.out.size hge);have HL7_5:=hD (Nat.lt_of_lt_of_le (Array.getElem?_eq_some_iff.1 HX4_3.out).1 hge);have HX7_5:=hD hN;clear hN hge hg0;have HX2_1:=uH hb HX2_1;have HX3_2:=uH hb HX3_2;have HX4_3:=uH hb HX4_3;have HB:=mH HB hb;obtain ⟨w5,hw⟩:∃w8,w8=w:=⟨_,rfl⟩;subst hw;rw [e9,e7];clear hS hb e9 e7;obtain ⟨k6a,k6b,k6c⟩:=c3 HX7_5;go_wp2_with fail;clear k6a k6b k6c;refine (C4.out _).mono ?_;rintro e w6 ⟨rfl,hb⟩;have HX2_1:=uH hb HX2_1;have HX3_2:=uH hb HX3_2;have HX4_3:=uH hb HX4_3;have HX7_5:=uH hb HX7_5;have HB:=mH HB hb;clear hb
  obtain ⟨W7,hW7,HX4_3,HB,ho,f7a,f7b,f7c,k7a,k7b,k7c⟩:=putR HX4_3 HB HN0 HG4_3 u;have HX2_1:=ho _ _ (en2 HL3_2 HL4_3) HX2_1;have HX3_2:=ho _ _ (en1 HL4_3) HX3_2;have HX7_5:=ho _ _ (ne1 HL7_5) HX7_5;clear ho;go_wp2_with fail;clear f7a f7b f7c k7a k7b k7c hW7;refine bodyPost_ret (rC2 HX4_3.out) rfl ?_;exact ⟨rfl,by rw [HN0.out];exact HB.out⟩
def ErUp_no_4_1 (m:Rt) (na:Bool) (sa:ByteArray) (da:ByteArray) (nb:Bool) (sb:ByteArray) (db:ByteArray):Nat→Value
 | 0=>.agg #[.bool na,.string sa,.string da]
 | 1=>.agg #[.bool m.neg,.string (encS m.num),.string (encS m.den)]
 | 2=>.agg #[.bool nb,.string sb,.string db]
 | 3=>.tuple #[.agg #[.bool false,.string ⟨#[]⟩,.string ⟨#[]⟩],.bool false]
 | 4=>.tuple #[.agg #[.bool false,.string ⟨#[]⟩,.string ⟨#[]⟩],.bool false]
 | 5=>.agg #[.bool false,.string ⟨#[]⟩,.string ⟨#[]⟩]
 | 6=>.bool false
 | 7=>undef
 | 8=>undef
 | 9=>.bool false
 | _=>undef
set_option maxRecDepth 100000 in
theorem rUp_no (na:Bool) (sa da:ByteArray) (nb:Bool) (sb db:ByteArray) (za:sa.size≤10000) (zda:da.size≤10000) (zb:sb.size≤10000) (zdb:db.size≤10000) (h:stepsB na sa da nb sb db=false) (wq:World) :
  Gv 47 #[.agg #[.bool na,.string sa,.string da],.agg #[.bool nb,.string sb,.string db]] wq (.tuple #[.agg #[.bool false,.string ⟨#[]⟩,.string ⟨#[]⟩],.bool false]):=by
 unfold Gv;have c1:=fun w=>rRatRight_any na sa da w (by omega) (by omega)
 have c2:=fun w=>rRatNeg_r (show IsR (.agg #[.bool na,.string sa,.string da]) (valQ na sa da) 10000 from ⟨_,_,_,rfl,za,zda,rfl⟩) (by decide) w
 have hok:=valQ_ok na sa da;have hz:Rz (valQ na sa da) 10000:=valQ_sz (by decide) za zda;have HE:Hid (rightR na sa da=true→stepsB (negR (valQ na sa da)).neg (encS (negR (valQ na sa da)).num) (encS (negR (valQ na sa da)).den) nb sb db=false):=hD fun h1=>by
  unfold stepsB at h ⊢;rw [h1] at h;rw [rightR_of (negR_ok hok)];exact h
 have hz2:Rz (negR (valQ na sa da)) 10000:=negR_sz hz;have c3:rightR na sa da=true→∀w,_:=fun h1 w=>rDown_no2 (negR (valQ na sa da)).neg (encS (negR (valQ na sa da)).num) (encS (negR (valQ na sa da)).den) nb sb db (Nat.le_trans (encS_size_lt hz2.1) (by decide)) (Nat.le_trans (encS_size_lt hz2.2) (by decide)) zb zdb (HE.out h1) w
 obtain ⟨R1,h1⟩:∃b,rightR na sa da=b:=⟨_,rfl⟩;rw [h1] at c1 c3;obtain ⟨m,h2⟩:∃m,negR (valQ na sa da)=m:=⟨_,rfl⟩;rw [h2] at c2 c3;have HC3:=hD c3;have C1:Hid (∀w,Gv 89 #[.agg #[.bool na,.string sa,.string da]] w (.bool R1)):=hD c1;have C2:Hid (∀w,Gv 44 #[.agg #[.bool na,.string sa,.string da]] w (.agg #[.bool m.neg,.string (encS m.num),.string (encS m.den)])):=hD c2;clear c1 c2 c3 HE h1 h2 hok hz hz2 h za zda zb zdb;have HB:=hD (Below.refl wq.heap.size wq);obtain ⟨n0,hn0⟩:∃n,n=wq.heap.size:=⟨_,rfl⟩;rw [←hn0];have HN0:=hD hn0;clear hn0;go_enter Tryz.func47,Tryz.ntmps47;obtain ⟨W1,bk2,hW1,hbk2,HX2_1,HB,HG2_1,hup⟩:=boxS HB HN0 na sa da;clear hup;obtain ⟨W2,bk3,hW2,hbk3,HX3_2,HB,HG3_2,hup⟩:=boxS HB HN0 nb sb db;have HL3_2:=(hup _ _ HX2_1).2;have HX2_1:=(hup _ _ HX2_1).1;clear hup;obtain ⟨W3,bk4,hW3,hbk4,HX4_3,HB,HG4_3,hup⟩:=boxZ HB HN0;have HL4_3:=(hup _ _ HX3_2).2
 have HX2_1:=(hup _ _ HX2_1).1;have HX3_2:=(hup _ _ HX3_2).1;clear hup;obtain ⟨k4a,k4b,k4c⟩:=c3 HX2_1;go_wp2_with fail;clear hW1 hbk2 hW2 hbk3 hW3 hbk4 k4a k4b k4c;refine (C1.out _).mono ?_;rintro e w4 ⟨rfl,hb⟩;have HX2_1:=uH hb HX2_1;have HX3_2:=uH hb HX3_2;have HX4_3:=uH hb HX4_3;have HB:=mH HB hb;clear hb;cases R1
 case false =>
  obtain ⟨W5,hW5,HX4_3,HB,ho,f5a,f5b,f5c,k5a,k5b,k5c⟩:=putZ HX4_3 HB HN0 HG4_3;have HX2_1:=ho _ _ (en2 HL3_2 HL4_3) HX2_1;have HX3_2:=ho _ _ (en1 HL4_3) HX3_2;clear ho;go_wp2_with fail;clear f5a f5b f5c k5a k5b k5c hW5;refine bodyPost_ret (rC2 HX4_3.out) rfl ?_;exact ⟨rfl,by rw [HN0.out];exact HB.out⟩
 case true =>
  have C3:Hid (∀w,Gv 46 #[rtV m,.agg #[.bool nb,.string sb,.string db]] w (.tuple #[.agg #[.bool false,.string ⟨#[]⟩,.string ⟨#[]⟩],.bool false])):=hD fun w=>by
   have h:=(HC3.out rfl) w;exact h
  go_wp2_with fail;refine wp_region_box (w0:=w4) (by kernel_rfl) (fun ix v _=>v=ErUp_no_4_1 m na sa da nb sb db ix) 7 8 (.cells #[.bool false,.string ⟨#[]⟩,.string ⟨#[]⟩] 26 (0,0)) (.cells #[.bool false,.string ⟨#[]⟩,.string ⟨#[]⟩] 26 (0,0)) (fun t=>(decide (7≤t)&&decide (t<9))||(decide (14≤t)&&decide (t<21))) (by kernel_rfl) (by kernel_rfl) (by kernel_rfl) (by decide) (by decide) (by kernel_rfl) rfl (fun _ _ _ _ _ h=>h) ?_ ?_ ?_ ?_
  ·intro i hi hia his ov_ listed av_ w hR K hK;have ho:=hR.at_;have hi:i<10:=hi;have hii:i=0∨i=1∨i=2∨i=3∨i=4∨i=5∨i=6∨i=9:=by omega
   rcases hii with rfl|rfl|rfl|rfl|rfl|rfl|rfl|rfl
   ·simp at ho;subst ho;have b2:av_.tmps.getD 2 undef=.pointer (some ⟨bk2,0,none⟩):=hR.b 2;obtain ⟨cx0,cx1,cx2⟩:=c3 (uH hR.below HX2_1);refine pSq ?_;go_simp;exact hK _ _ rfl rB
   ·simp at ho;subst ho;have e0:av_.tmps.getD 15 undef=.agg #[.bool na,.string sa,.string da]:=hR.dep ⟨0,.data⟩ (by simp) rfl (by decide) (by decide);refine pSq ?_;go_simp;refine (C2.out w).mono ?_;rintro e w' ⟨rfl,hb⟩;exact hK _ _ (rfl) hb
   ·simp at ho;subst ho;have b3:av_.tmps.getD 3 undef=.pointer (some ⟨bk3,0,none⟩):=hR.b 3;obtain ⟨cx0,cx1,cx2⟩:=c3 (uH hR.below HX3_2);refine pSq ?_;go_simp;exact hK _ _ rfl rB
   ·simp at ho;subst ho;have e1:av_.tmps.getD 16 undef=.agg #[.bool m.neg,.string (encS m.num),.string (encS m.den)]:=hR.dep ⟨1,.data⟩ (by simp) rfl (by decide) (by decide);have e2:av_.tmps.getD 17 undef=.agg #[.bool nb,.string sb,.string db]:=hR.dep ⟨2,.data⟩ (by simp) rfl (by decide) (by decide);refine pSq ?_;go_simp;refine (C3.out w).mono ?_;rintro e w' ⟨rfl,hb⟩;exact hK _ _ (rfl) hb
   ·simp at ho;subst ho;have e3:av_.tmps.getD 18 undef=.tuple #[.agg #[.bool false,.string ⟨#[]⟩,.string ⟨#[]⟩],.bool false]:=hR.dep ⟨3,.data⟩ (by simp) rfl (by decide) (by decide);refine pSq ?_;go_simp;exact hK _ _ rfl rB
   ·simp at ho;subst ho;have e4:av_.tmps.getD 14 undef=.tuple #[.agg #[.bool false,.string ⟨#[]⟩,.string ⟨#[]⟩],.bool false]:=hR.dep ⟨4,.data⟩ (by simp) rfl (by decide) (by decide);refine pSq ?_;go_simp;exact hK _ _ rfl rB
   ·simp at ho;subst ho;have e4:av_.tmps.getD 14 undef=.tuple #[.agg #[.bool false,.string ⟨#[]⟩,.string ⟨#[]⟩],.bool false]:=hR.dep ⟨4,.data⟩ (by simp) rfl (by decide) (by decide);refine pSq ?_;go_simp;exact hK _ _ rfl rB
   ·simp at ho;subst ho;have e6:av_.tmps.getD 20 undef=.bool false:=hR.dep ⟨6,.data⟩ (by simp) rfl (by decide) (by decide);refine pSq ?_;go_simp;exact hK _ _ rfl rB
  ·intro ov_ av_ w ho K hK;simp at ho;subst ho;refine pSq ?_;go_simp;exact hK _ _ _ rfl (Nat.le_refl _) (heap_alloc_new _ _) (rB.alloc (Nat.le_refl _) _)
  ·intro ov_ listed av_ w g hR hv hg hz K hK;have ho:=hR.at_;simp at ho;subst ho;have e7:av_.tmps.getD 7 undef=.pointer (some ⟨g,0,none⟩):=hv;have e5:av_.tmps.getD 19 undef=.agg #[.bool false,.string ⟨#[]⟩,.string ⟨#[]⟩]:=hR.dep ⟨5,.data⟩ (by simp) rfl (by decide) (by decide);have cz0:w.cell? ⟨g,0,none⟩=some (.bool false):=by rw [Lib.cell_of_heap hz];rfl
   have fz0:w.frozen? ⟨g,0,none⟩=false:=frz0 hz 0;have cz1:w.cell? ⟨g,1,none⟩=some (.string ⟨#[]⟩):=by rw [Lib.cell_of_heap hz];rfl
   have fz1:w.frozen? ⟨g,1,none⟩=false:=frz0 hz 1;have cz2:w.cell? ⟨g,2,none⟩=some (.string ⟨#[]⟩):=by rw [Lib.cell_of_heap hz];rfl
   have fz2:w.frozen? ⟨g,2,none⟩=false:=frz0 hz 2;refine pSq ?_;go_simp;exact hK _ (by simp [World.setCell,Array.getElem?_modify,hz]) (((rB.setCell (p:=⟨g,0,none⟩) hg (.bool false)).setCell (p:=⟨g,1,none⟩) hg (.string ⟨#[]⟩)).setCell (p:=⟨g,2,none⟩) hg (.string ⟨#[]⟩))
  ·intro sv_ w g hS hg0 hge hN hb;have e9:sv_ 8=.bool false:=hS 9 (by decide) (by decide) (by decide);have e7:sv_ 7=.pointer (some ⟨g,0,none⟩):=hg0;simp only [over,ovL,Nat.reduceAdd,Nat.reduceLeDiff,Nat.reduceLT];obtain ⟨bk7,hg1⟩:∃b,g=b:=⟨_,rfl⟩;rw [hg1] at e7 hge hN;clear hg1;have HG7_6:Hid (n0≤bk7):=hD (by rw [HN0.out];exact Nat.le_trans HB.out.size hge);have HL7_6:=hD (Nat.lt_of_lt_of_le (Array.getElem?_eq_some_iff.1 HX4_3.out).1 hge);have HX7_6:=hD hN;clear hN hge hg0;have HX2_1:=uH hb HX2_1;have HX3_2:=uH hb HX3_2;have HX4_3:=uH hb HX4_3;have HB:=mH HB hb;obtain ⟨w6,hw⟩:∃w8,w8=w:=⟨_,rfl⟩;subst hw;rw [e9,e7];clear hS hb e9 e7;obtain ⟨W7,hW7,HX4_3,HB,ho,f7a,f7b,f7c,k7a,k7b,k7c⟩:=putZ HX4_3 HB HN0 HG4_3;have HX2_1:=ho _ _ (en2 HL3_2 HL4_3) HX2_1;have HX3_2:=ho _ _ (en1 HL4_3) HX3_2;have HX7_6:=ho _ _ (ne1 HL7_6) HX7_6;clear ho;go_wp2_with fail;clear f7a f7b f7c k7a k7b k7c hW7
   refine bodyPost_ret (rC2 HX4_3.out) rfl ?_;exact ⟨rfl,by rw [HN0.out];exact HB.out⟩
def ErNear_r_5_1 (s:Rt) (t:Rt) (p:Rt):Nat→Value
 | 0=>.agg #[.bool s.neg,.string (encS s.num),.string (encS s.den)]
 | 1=>.agg #[.bool t.neg,.string (encS t.num),.string (encS t.den)]
 | 2=>.tuple #[.agg #[.bool p.neg,.string (encS p.num),.string (encS p.den)],.bool true]
 | 3=>.tuple #[.agg #[.bool p.neg,.string (encS p.num),.string (encS p.den)],.bool true]
 | 4=>.agg #[.bool p.neg,.string (encS p.num),.string (encS p.den)]
 | 5=>.bool true
 | 6=>undef
 | 7=>undef
 | 8=>.bool true
 | _=>undef
def ErNear_r_6_2 (a:Rt) (s:Rt) (p:Rt) (x:Rt) (u:Rt):Nat→Value
 | 0=>.agg #[.bool a.neg,.string (encS a.num),.string (encS a.den)]
 | 1=>.agg #[.bool p.neg,.string (encS p.num),.string (encS p.den)]
 | 2=>.agg #[.bool x.neg,.string (encS x.num),.string (encS x.den)]
 | 3=>.agg #[.bool s.neg,.string (encS s.num),.string (encS s.den)]
 | 4=>.tuple #[.agg #[.bool u.neg,.string (encS u.num),.string (encS u.den)],.bool true]
 | 5=>.agg #[.bool u.neg,.string (encS u.num),.string (encS u.den)]
 | 6=>.bool true
 | _=>undef
set_option maxRecDepth 100000 in
theorem rNear_r {a s:Rt} (ha:a.Ok) (hs:s.Ok) (za:Rz a 15000) (zs:Rz s 15000) (hp:0<sgnR s) (wq:World) :
  Gv 48 #[.agg #[.bool a.neg,.string (encS a.num),.string (encS a.den)],.agg #[.bool s.neg,.string (encS s.num),.string (encS s.den)]] wq (.tuple #[rtV (nearR a s),.bool true]):=by
 unfold Gv;have hn:=sgn_pos hp;have c1:=fun w=>rRatRight_any a.neg (encS a.num) (encS a.den) w (Nat.le_trans (encS_size_lt za.1) (by decide)) (Nat.le_trans (encS_size_lt za.2) (by decide));rw [rightR_of ha] at c1
 have c2:=fun w=>rRatRight_any s.neg (encS s.num) (encS s.den) w (Nat.le_trans (encS_size_lt zs.1) (by decide)) (Nat.le_trans (encS_size_lt zs.2) (by decide));rw [rightR_of hs] at c2
 have hq0:0<s.q:=(q_sgn hs).2.1.1 (by rcases sgn_cases s with h|h|h<;>omega);have z2:Rz (ofR 2) 15000:=(ofR_sz (by decide) (by decide)).mono (by decide);have c3:=fun w=>rRatOf_any 2 w (by decide) (by decide)
 have c4:=fun w=>rRatQuo_r (IsR.of hs zs) (IsR.of (ofR_ok 2) z2) (by decide) (by decide) w
 rw [show quoV s (ofR 2)=.tuple #[rtV (quoR s (ofR 2)),.bool true] from rfl] at c4;have hh:(quoR s (ofR 2)).Ok:=quoR_ok hs (by decide);have zh:Rz (quoR s (ofR 2)) 30000:=quoR_sz zs z2;have c5:=fun w=>rRatAdd_r (IsR.of ha (za.mono (show 15000≤30000 by decide))) (IsR.of hh zh) (by decide) (by decide) w
 have c6:=fun w=>rDown_r (addR_ok ha hh) hs ((addR_sz za zh).mono (by decide)) (zs.mono (by decide)) hp w
 rw [near_ref ha hs hq0] at c6;obtain ⟨u,h0⟩:∃u,nearR a s=u:=⟨_,rfl⟩;rw [h0] at c6 ⊢;obtain ⟨t,h1⟩:∃t,ofR 2=t:=⟨_,rfl⟩;rw [h1] at c3 c4 c5 c6;obtain ⟨p,h2⟩:∃p,quoR s t=p:=⟨_,rfl⟩;rw [h2] at c4 c5 c6;obtain ⟨x,h3⟩:∃x,addR a p=x:=⟨_,rfl⟩;rw [h3] at c5 c6;have C1:Hid (∀w,Gv 89 #[rtV a] w (.bool true)):=hD c1;have C2:Hid (∀w,Gv 89 #[rtV s] w (.bool true)):=hD c2;have C3:Hid (∀w,Gv 17 #[.int .i64 2] w (.agg #[.bool t.neg,.string (encS t.num),.string (encS t.den)])):=hD c3;have C4:Hid (∀w,Gv 26 #[rtV s,rtV t] w (.tuple #[.agg #[.bool p.neg,.string (encS p.num),.string (encS p.den)],.bool true])):=hD c4;have C5:Hid (∀w,Gv 32 #[rtV a,rtV p] w (.agg #[.bool x.neg,.string (encS x.num),.string (encS x.den)])):=hD c5;have C6:Hid (∀w,Gv 46 #[rtV x,rtV s] w (.tuple #[.agg #[.bool u.neg,.string (encS u.num),.string (encS u.den)],.bool true])):=hD c6
 clear c1 c2 c3 c4 c5 c6 h0 h1 h2 h3 hn hq0 hh zh z2 ha hs za zs hp;have HB:=hD (Below.refl wq.heap.size wq);obtain ⟨n0,hn0⟩:∃n,n=wq.heap.size:=⟨_,rfl⟩;rw [←hn0];have HN0:=hD hn0;clear hn0;go_enter Tryz.func48,Tryz.ntmps48;obtain ⟨W1,bk2,hW1,hbk2,HX2_1,HB,HG2_1,hup⟩:=boxR HB HN0 a;clear hup;obtain ⟨W2,bk3,hW2,hbk3,HX3_2,HB,HG3_2,hup⟩:=boxR HB HN0 s;have HL3_2:=(hup _ _ HX2_1).2;have HX2_1:=(hup _ _ HX2_1).1;clear hup;obtain ⟨W3,bk4,hW3,hbk4,HX4_3,HB,HG4_3,hup⟩:=boxZ HB HN0;have HL4_3:=(hup _ _ HX3_2).2;have HX2_1:=(hup _ _ HX2_1).1;have HX3_2:=(hup _ _ HX3_2).1;clear hup;obtain ⟨k4a,k4b,k4c⟩:=c3 HX2_1;go_wp2_with fail;clear hW1 hbk2 hW2 hbk3 hW3 hbk4 k4a k4b k4c;refine (C1.out _).mono ?_;rintro e w4 ⟨rfl,hb⟩;have HX2_1:=uH hb HX2_1;have HX3_2:=uH hb HX3_2;have HX4_3:=uH hb HX4_3;have HB:=mH HB hb;clear hb;obtain ⟨k5a,k5b,k5c⟩:=c3 HX3_2;go_wp2_with fail;clear k5a k5b k5c
 refine (C2.out _).mono ?_;rintro e w5 ⟨rfl,hb⟩;have HX2_1:=uH hb HX2_1;have HX3_2:=uH hb HX3_2;have HX4_3:=uH hb HX4_3;have HB:=mH HB hb;clear hb;go_wp2_with fail;refine wp_region_box (w0:=w5) (by kernel_rfl) (fun ix v _=>v=ErNear_r_5_1 s t p ix) 6 7 (.cells #[.bool false,.string ⟨#[]⟩,.string ⟨#[]⟩] 26 (0,0)) (.cells #[.bool p.neg,.string (encS p.num),.string (encS p.den)] 26 (0,0)) (fun t=>(decide (8≤t)&&decide (t<10))||(decide (21≤t)&&decide (t<27))) (by kernel_rfl) (by kernel_rfl) (by kernel_rfl) (by decide) (by decide) (by kernel_rfl) rfl (fun _ _ _ _ _ h=>h) ?_ ?_ ?_ ?_
 ·intro i hi hia his ov_ listed av_ w hR K hK;have ho:=hR.at_;have hi:i<9:=hi;have hii:i=0∨i=1∨i=2∨i=3∨i=4∨i=5∨i=8:=by omega
  rcases hii with rfl|rfl|rfl|rfl|rfl|rfl|rfl
  ·simp at ho;subst ho;have b3:av_.tmps.getD 3 undef=.pointer (some ⟨bk3,0,none⟩):=hR.b 3;obtain ⟨cx0,cx1,cx2⟩:=c3 (uH hR.below HX3_2);refine pSq ?_;go_simp;exact hK _ _ rfl rB
  ·simp at ho;subst ho;refine pSq ?_;go_simp;refine (C3.out w).mono ?_;rintro e w' ⟨rfl,hb⟩;exact hK _ _ (rfl) hb
  ·simp at ho;subst ho;have e0:av_.tmps.getD 22 undef=.agg #[.bool s.neg,.string (encS s.num),.string (encS s.den)]:=hR.dep ⟨0,.data⟩ (by simp) rfl (by decide) (by decide);have e1:av_.tmps.getD 23 undef=.agg #[.bool t.neg,.string (encS t.num),.string (encS t.den)]:=hR.dep ⟨1,.data⟩ (by simp) rfl (by decide) (by decide);refine pSq ?_;go_simp;refine (C4.out w).mono ?_;rintro e w' ⟨rfl,hb⟩;exact hK _ _ (rfl) hb
  ·simp at ho;subst ho;have e2:av_.tmps.getD 24 undef=.tuple #[.agg #[.bool p.neg,.string (encS p.num),.string (encS p.den)],.bool true]:=hR.dep ⟨2,.data⟩ (by simp) rfl (by decide) (by decide);refine pSq ?_;go_simp;exact hK _ _ rfl rB
  ·simp at ho;subst ho;have e3:av_.tmps.getD 21 undef=.tuple #[.agg #[.bool p.neg,.string (encS p.num),.string (encS p.den)],.bool true]:=hR.dep ⟨3,.data⟩ (by simp) rfl (by decide) (by decide);refine pSq ?_;go_simp;exact hK _ _ rfl rB
  ·simp at ho;subst ho;have e3:av_.tmps.getD 21 undef=.tuple #[.agg #[.bool p.neg,.string (encS p.num),.string (encS p.den)],.bool true]:=hR.dep ⟨3,.data⟩ (by simp) rfl (by decide) (by decide);refine pSq ?_;go_simp;exact hK _ _ rfl rB
  ·simp at ho;subst ho;have e5:av_.tmps.getD 26 undef=.bool true:=hR.dep ⟨5,.data⟩ (by simp) rfl (by decide) (by decide);refine pSq ?_;go_simp;exact hK _ _ rfl rB
 ·intro ov_ av_ w ho K hK;simp at ho;subst ho;refine pSq ?_;go_simp;exact hK _ _ _ rfl (Nat.le_refl _) (heap_alloc_new _ _) (rB.alloc (Nat.le_refl _) _)
 ·intro ov_ listed av_ w g hR hv hg hz K hK;have ho:=hR.at_;simp at ho;subst ho;have e6:av_.tmps.getD 8 undef=.pointer (some ⟨g,0,none⟩):=hv;have e4:av_.tmps.getD 25 undef=.agg #[.bool p.neg,.string (encS p.num),.string (encS p.den)]:=hR.dep ⟨4,.data⟩ (by simp) rfl (by decide) (by decide);have cz0:w.cell? ⟨g,0,none⟩=some (.bool false):=by rw [Lib.cell_of_heap hz];rfl
  have fz0:w.frozen? ⟨g,0,none⟩=false:=frz0 hz 0;have cz1:w.cell? ⟨g,1,none⟩=some (.string ⟨#[]⟩):=by rw [Lib.cell_of_heap hz];rfl
  have fz1:w.frozen? ⟨g,1,none⟩=false:=frz0 hz 1;have cz2:w.cell? ⟨g,2,none⟩=some (.string ⟨#[]⟩):=by rw [Lib.cell_of_heap hz];rfl
  have fz2:w.frozen? ⟨g,2,none⟩=false:=frz0 hz 2;refine pSq ?_;go_simp;exact hK _ (by simp [World.setCell,Array.getElem?_modify,hz]) (((rB.setCell (p:=⟨g,0,none⟩) hg (.bool p.neg)).setCell (p:=⟨g,1,none⟩) hg (.string (encS p.num))).setCell (p:=⟨g,2,none⟩) hg (.string (encS p.den)))
 ·intro sv_ w g hS hg0 hge hN hb;have e6:sv_ 8=.pointer (some ⟨g,0,none⟩):=hg0;simp only [over,ovL,Nat.reduceAdd,Nat.reduceLeDiff,Nat.reduceLT];obtain ⟨bk8,hg1⟩:∃b,g=b:=⟨_,rfl⟩;rw [hg1] at e6 hge hN;clear hg1;have HG8_6:Hid (n0≤bk8):=hD (by rw [HN0.out];exact Nat.le_trans HB.out.size hge);have HL8_6:=hD (Nat.lt_of_lt_of_le (Array.getElem?_eq_some_iff.1 HX4_3.out).1 hge);have HX8_6:=hD hN;clear hN hge hg0;have HX2_1:=uH hb HX2_1;have HX3_2:=uH hb HX3_2;have HX4_3:=uH hb HX4_3;have HB:=mH HB hb;obtain ⟨w6,hw⟩:∃w8,w8=w:=⟨_,rfl⟩;subst hw;rw [e6];clear hS hb e6;go_wp2_with fail;refine wpTl (w:=w6) (by kernel_rfl) (fun ix v _=>v=ErNear_r_6_2 a s p x u ix) 7 (fun t=>(decide (27≤t)&&decide (t<34))) (by decide) (by kernel_rfl) (by kernel_rfl) (by kernel_rfl) (by kernel_rfl) (by kernel_rfl) (fun _ _ _ _ _ h=>h) ?_ ?_
  ·intro i hi ov_ listed av_ w hR K hK;have ho:=hR.at_;have hi:i<7:=hi;have hii:i=0∨i=1∨i=2∨i=3∨i=4∨i=5∨i=6:=by omega
   rcases hii with rfl|rfl|rfl|rfl|rfl|rfl|rfl<;>(simp at ho;subst ho)
   ·have b2:av_.tmps.getD 2 undef=.pointer (some ⟨bk2,0,none⟩):=hR.b 2;obtain ⟨cx0,cx1,cx2⟩:=c3 (uH hR.below HX2_1);refine pSq ?_;go_simp;exact hK _ _ rfl rB
   ·have b8:av_.tmps.getD 8 undef=.pointer (some ⟨bk8,0,none⟩):=hR.b 8;obtain ⟨cx0,cx1,cx2⟩:=c3 (uH hR.below HX8_6);refine pSq ?_;go_simp;exact hK _ _ rfl rB
   ·have e0:av_.tmps.getD 27 undef=.agg #[.bool a.neg,.string (encS a.num),.string (encS a.den)]:=hR.t 0;have e1:av_.tmps.getD 28 undef=.agg #[.bool p.neg,.string (encS p.num),.string (encS p.den)]:=hR.t 1;refine pSq ?_;go_simp;refine (C5.out w).mono ?_;rintro e w' ⟨rfl,hb⟩;exact hK _ _ (rfl) hb
   ·have b3:av_.tmps.getD 3 undef=.pointer (some ⟨bk3,0,none⟩):=hR.b 3;obtain ⟨cx0,cx1,cx2⟩:=c3 (uH hR.below HX3_2);refine pSq ?_;go_simp;exact hK _ _ rfl rB
   ·have e2:av_.tmps.getD 29 undef=.agg #[.bool x.neg,.string (encS x.num),.string (encS x.den)]:=hR.t 2;have e3:av_.tmps.getD 30 undef=.agg #[.bool s.neg,.string (encS s.num),.string (encS s.den)]:=hR.t 3;refine pSq ?_;go_simp;refine (C6.out w).mono ?_;rintro e w' ⟨rfl,hb⟩;exact hK _ _ (rfl) hb
   ·have e4:av_.tmps.getD 31 undef=.tuple #[.agg #[.bool u.neg,.string (encS u.num),.string (encS u.den)],.bool true]:=hR.t 4;refine pSq ?_;go_simp;exact hK _ _ rfl rB
   ·have e4:av_.tmps.getD 31 undef=.tuple #[.agg #[.bool u.neg,.string (encS u.num),.string (encS u.den)],.bool true]:=hR.t 4;refine pSq ?_;go_simp;exact hK _ _ rfl rB
  ·intro sv_ w hS hb;have e5:sv_ 32=.agg #[.bool u.neg,.string (encS u.num),.string (encS u.den)]:=hS 5 (by decide);have e6:sv_ 33=.bool true:=hS 6 (by decide);simp only [over,ovL,Nat.reduceAdd,Nat.reduceLeDiff,Nat.reduceLT];have HX2_1:=uH hb HX2_1;have HX3_2:=uH hb HX3_2;have HX4_3:=uH hb HX4_3;have HX8_6:=uH hb HX8_6;have HB:=mH HB hb;obtain ⟨w7,hw⟩:∃w8,w8=w:=⟨_,rfl⟩;subst hw;rw [e5,e6];clear hS hb e5 e6;obtain ⟨W8,hW8,HX4_3,HB,ho,f7a,f7b,f7c,k7a,k7b,k7c⟩:=putR HX4_3 HB HN0 HG4_3 u;have HX2_1:=ho _ _ (en2 HL3_2 HL4_3) HX2_1;have HX3_2:=ho _ _ (en1 HL4_3) HX3_2;have HX8_6:=ho _ _ (ne1 HL8_6) HX8_6;clear ho;refine tail_step (n:=1) rfl rfl ?_;go_simp
   try rw [hW8]
   clear f7a f7b f7c k7a k7b k7c hW8;refine tail_step (n:=0) rfl rfl ?_;go_simp;simp only [wpTail];go_wp2_with fail;refine bodyPost_ret (rC2 HX4_3.out) rfl ?_;exact ⟨rfl,by rw [HN0.out];exact HB.out⟩
def ErNear_no_5_1 (t:Rt) (p:Rt) (nb:Bool) (sb:ByteArray) (db:ByteArray):Nat→Value
 | 0=>.agg #[.bool nb,.string sb,.string db]
 | 1=>.agg #[.bool t.neg,.string (encS t.num),.string (encS t.den)]
 | 2=>.tuple #[.agg #[.bool p.neg,.string (encS p.num),.string (encS p.den)],.bool true]
 | 3=>.tuple #[.agg #[.bool p.neg,.string (encS p.num),.string (encS p.den)],.bool true]
 | 4=>.agg #[.bool p.neg,.string (encS p.num),.string (encS p.den)]
 | 5=>.bool true
 | 6=>undef
 | 7=>undef
 | 8=>.bool true
 | _=>undef
def ErNear_no_6_2 (x:Rt) (p:Rt) (na:Bool) (sa:ByteArray) (da:ByteArray) (nb:Bool) (sb:ByteArray) (db:ByteArray):Nat→Value
 | 0=>.agg #[.bool na,.string sa,.string da]
 | 1=>.agg #[.bool p.neg,.string (encS p.num),.string (encS p.den)]
 | 2=>.agg #[.bool x.neg,.string (encS x.num),.string (encS x.den)]
 | 3=>.agg #[.bool nb,.string sb,.string db]
 | 4=>.tuple #[.agg #[.bool false,.string ⟨#[]⟩,.string ⟨#[]⟩],.bool false]
 | 5=>.agg #[.bool false,.string ⟨#[]⟩,.string ⟨#[]⟩]
 | 6=>.bool false
 | _=>undef
set_option maxRecDepth 100000 in
theorem rNear_no (na:Bool) (sa da:ByteArray) (nb:Bool) (sb db:ByteArray) (za:sa.size≤10000) (zda:da.size≤10000) (zb:sb.size≤10000) (zdb:db.size≤10000) (h:stepsB na sa da nb sb db=false) (wq:World) :
  Gv 48 #[.agg #[.bool na,.string sa,.string da],.agg #[.bool nb,.string sb,.string db]] wq (.tuple #[.agg #[.bool false,.string ⟨#[]⟩,.string ⟨#[]⟩],.bool false]):=by
 unfold Gv;have c1:=fun w=>rRatRight_any na sa da w (by omega) (by omega);have c2:=fun w=>rRatRight_any nb sb db w (by omega) (by omega)
 have ha:=valQ_ok na sa da;have hs:=valQ_ok nb sb db;have za' :Rz (valQ na sa da) 20000:=(valQ_sz (k:=10000) (by decide) za zda).mono (by decide);have zs' :Rz (valQ nb sb db) 20000:=(valQ_sz (k:=10000) (by decide) zb zdb).mono (by decide);have i2:IsR (.agg #[.bool nb,.string sb,.string db]) (valQ nb sb db) 20000:=⟨_,_,_,rfl,by omega,by omega,rfl⟩;have z2:Rz (ofR 2) 20000:=(ofR_sz (by decide) (by decide)).mono (by decide);have c3:=fun w=>rRatOf_any 2 w (by decide) (by decide)
 have c4:=fun w=>rRatQuo_r i2 (IsR.of (ofR_ok 2) z2) (by decide) (by decide) w
 rw [show quoV (valQ nb sb db) (ofR 2)=.tuple #[rtV (quoR (valQ nb sb db) (ofR 2)),.bool true] from rfl] at c4;have hh:(quoR (valQ nb sb db) (ofR 2)).Ok:=quoR_ok hs (by decide);have zh:Rz (quoR (valQ nb sb db) (ofR 2)) 40000:=quoR_sz zs' z2;have c5:=fun w=>rRatAdd_r (show IsR (.agg #[.bool na,.string sa,.string da]) (valQ na sa da) 40000 from ⟨_,_,_,rfl,by omega,by omega,rfl⟩) (IsR.of hh zh) (by decide) (by decide) w
 have hx:=addR_ok ha hh;have zx:=addR_sz za' zh;have hE:rightR na sa da=true→rightR nb sb db=true→stepsB (addR (valQ na sa da) (quoR (valQ nb sb db) (ofR 2))).neg (encS (addR (valQ na sa da) (quoR (valQ nb sb db) (ofR 2))).num) (encS (addR (valQ na sa da) (quoR (valQ nb sb db) (ofR 2))).den) nb sb db=false:=fun h1 h2=>by
  unfold stepsB at h ⊢;rw [h1,h2] at h;rw [rightR_of hx,h2];exact h
 obtain ⟨R1,h1⟩:∃b,rightR na sa da=b:=⟨_,rfl⟩;rw [h1] at c1 hE;obtain ⟨R2,h2⟩:∃b,rightR nb sb db=b:=⟨_,rfl⟩;rw [h2] at c2 hE;obtain ⟨t,h3⟩:∃t,ofR 2=t:=⟨_,rfl⟩;rw [h3] at c3 c4 c5 hE zx;obtain ⟨p,h4⟩:∃p,quoR (valQ nb sb db) t=p:=⟨_,rfl⟩;rw [h4] at c4 c5 hE zx;obtain ⟨x,h5⟩:∃x,addR (valQ na sa da) p=x:=⟨_,rfl⟩;rw [h5] at c5 hE zx;have HE:=hD hE;have HC6:Hid (R1=true→R2=true→∀w,Gv 46 #[.agg #[.bool x.neg,.string (encS x.num),.string (encS x.den)],.agg #[.bool nb,.string sb,.string db]] w (.tuple #[.agg #[.bool false,.string ⟨#[]⟩,.string ⟨#[]⟩],.bool false])):=hD fun k1 k2 w =>
  rDown_no2 _ _ _ nb sb db (Nat.le_trans (encS_size_lt zx.1) (by decide)) (Nat.le_trans (encS_size_lt zx.2) (by decide)) zb zdb (HE.out k1 k2) w
 have C1:Hid (∀w,Gv 89 #[.agg #[.bool na,.string sa,.string da]] w (.bool R1)):=hD c1;have C2:Hid (∀w,Gv 89 #[.agg #[.bool nb,.string sb,.string db]] w (.bool R2)):=hD c2;have C3:Hid (∀w,Gv 17 #[.int .i64 2] w (.agg #[.bool t.neg,.string (encS t.num),.string (encS t.den)])):=hD c3;have C4:Hid (∀w,Gv 26 #[.agg #[.bool nb,.string sb,.string db],rtV t] w (.tuple #[.agg #[.bool p.neg,.string (encS p.num),.string (encS p.den)],.bool true])):=hD c4;have C5:Hid (∀w,Gv 32 #[.agg #[.bool na,.string sa,.string da],rtV p] w (.agg #[.bool x.neg,.string (encS x.num),.string (encS x.den)])):=hD c5;clear c1 c2 c3 c4 c5 HE hE h1 h2 h3 h4 h5 ha hs za' zs' i2 z2 hh zh hx zx h za zda zb zdb;have HB:=hD (Below.refl wq.heap.size wq);obtain ⟨n0,hn0⟩:∃n,n=wq.heap.size:=⟨_,rfl⟩;rw [←hn0];have HN0:=hD hn0;clear hn0;go_enter Tryz.func48,Tryz.ntmps48
 obtain ⟨W1,bk2,hW1,hbk2,HX2_1,HB,HG2_1,hup⟩:=boxS HB HN0 na sa da;clear hup;obtain ⟨W2,bk3,hW2,hbk3,HX3_2,HB,HG3_2,hup⟩:=boxS HB HN0 nb sb db;have HL3_2:=(hup _ _ HX2_1).2;have HX2_1:=(hup _ _ HX2_1).1;clear hup;obtain ⟨W3,bk4,hW3,hbk4,HX4_3,HB,HG4_3,hup⟩:=boxZ HB HN0;have HL4_3:=(hup _ _ HX3_2).2;have HX2_1:=(hup _ _ HX2_1).1;have HX3_2:=(hup _ _ HX3_2).1;clear hup;obtain ⟨k4a,k4b,k4c⟩:=c3 HX2_1;go_wp2_with fail;clear hW1 hbk2 hW2 hbk3 hW3 hbk4 k4a k4b k4c;refine (C1.out _).mono ?_;rintro e w4 ⟨rfl,hb⟩;have HX2_1:=uH hb HX2_1;have HX3_2:=uH hb HX3_2;have HX4_3:=uH hb HX4_3;have HB:=mH HB hb;clear hb;obtain ⟨k5a,k5b,k5c⟩:=c3 HX3_2;go_wp2_with fail;clear k5a k5b k5c;refine (C2.out _).mono ?_;rintro e w5 ⟨rfl,hb⟩;have HX2_1:=uH hb HX2_1;have HX3_2:=uH hb HX3_2;have HX4_3:=uH hb HX4_3;have HB:=mH HB hb;clear hb;cases R1
 case false =>
  obtain ⟨W6,hW6,HX4_3,HB,ho,f6a,f6b,f6c,k6a,k6b,k6c⟩:=putZ HX4_3 HB HN0 HG4_3;have HX2_1:=ho _ _ (en2 HL3_2 HL4_3) HX2_1;have HX3_2:=ho _ _ (en1 HL4_3) HX3_2;clear ho;go_wp2_with fail;clear f6a f6b f6c k6a k6b k6c hW6;refine bodyPost_ret (rC2 HX4_3.out) rfl ?_;exact ⟨rfl,by rw [HN0.out];exact HB.out⟩
 case true =>
  cases R2
  case false =>
   obtain ⟨W7,hW7,HX4_3,HB,ho,f7a,f7b,f7c,k7a,k7b,k7c⟩:=putZ HX4_3 HB HN0 HG4_3;have HX2_1:=ho _ _ (en2 HL3_2 HL4_3) HX2_1;have HX3_2:=ho _ _ (en1 HL4_3) HX3_2;clear ho;go_wp2_with fail;clear f7a f7b f7c k7a k7b k7c hW7;refine bodyPost_ret (rC2 HX4_3.out) rfl ?_;exact ⟨rfl,by rw [HN0.out];exact HB.out⟩
  case true =>
   have C6:Hid (∀w,Gv 46 #[rtV x,.agg #[.bool nb,.string sb,.string db]] w (.tuple #[.agg #[.bool false,.string ⟨#[]⟩,.string ⟨#[]⟩],.bool false])):=hD fun w=>by
    have h:=(HC6.out rfl rfl) w;exact h
   go_wp2_with fail;refine wp_region_box (w0:=w5) (by kernel_rfl) (fun ix v _=>v=ErNear_no_5_1 t p nb sb db ix) 6 7 (.cells #[.bool false,.string ⟨#[]⟩,.string ⟨#[]⟩] 26 (0,0)) (.cells #[.bool p.neg,.string (encS p.num),.string (encS p.den)] 26 (0,0)) (fun t=>(decide (8≤t)&&decide (t<10))||(decide (21≤t)&&decide (t<27))) (by kernel_rfl) (by kernel_rfl) (by kernel_rfl) (by decide) (by decide) (by kernel_rfl) rfl (fun _ _ _ _ _ h=>h) ?_ ?_ ?_ ?_
   ·intro i hi hia his ov_ listed av_ w hR K hK;have ho:=hR.at_;have hi:i<9:=hi;have hii:i=0∨i=1∨i=2∨i=3∨i=4∨i=5∨i=8:=by omega
    rcases hii with rfl|rfl|rfl|rfl|rfl|rfl|rfl
    ·simp at ho;subst ho;have b3:av_.tmps.getD 3 undef=.pointer (some ⟨bk3,0,none⟩):=hR.b 3;obtain ⟨cx0,cx1,cx2⟩:=c3 (uH hR.below HX3_2);refine pSq ?_;go_simp;exact hK _ _ rfl rB
    ·simp at ho;subst ho;refine pSq ?_;go_simp;refine (C3.out w).mono ?_;rintro e w' ⟨rfl,hb⟩;exact hK _ _ (rfl) hb
    ·simp at ho;subst ho;have e0:av_.tmps.getD 22 undef=.agg #[.bool nb,.string sb,.string db]:=hR.dep ⟨0,.data⟩ (by simp) rfl (by decide) (by decide);have e1:av_.tmps.getD 23 undef=.agg #[.bool t.neg,.string (encS t.num),.string (encS t.den)]:=hR.dep ⟨1,.data⟩ (by simp) rfl (by decide) (by decide);refine pSq ?_;go_simp;refine (C4.out w).mono ?_;rintro e w' ⟨rfl,hb⟩;exact hK _ _ (rfl) hb
    ·simp at ho;subst ho;have e2:av_.tmps.getD 24 undef=.tuple #[.agg #[.bool p.neg,.string (encS p.num),.string (encS p.den)],.bool true]:=hR.dep ⟨2,.data⟩ (by simp) rfl (by decide) (by decide);refine pSq ?_;go_simp;exact hK _ _ rfl rB
    ·simp at ho;subst ho;have e3:av_.tmps.getD 21 undef=.tuple #[.agg #[.bool p.neg,.string (encS p.num),.string (encS p.den)],.bool true]:=hR.dep ⟨3,.data⟩ (by simp) rfl (by decide) (by decide);refine pSq ?_;go_simp;exact hK _ _ rfl rB
    ·simp at ho;subst ho;have e3:av_.tmps.getD 21 undef=.tuple #[.agg #[.bool p.neg,.string (encS p.num),.string (encS p.den)],.bool true]:=hR.dep ⟨3,.data⟩ (by simp) rfl (by decide) (by decide);refine pSq ?_;go_simp;exact hK _ _ rfl rB
    ·simp at ho;subst ho;have e5:av_.tmps.getD 26 undef=.bool true:=hR.dep ⟨5,.data⟩ (by simp) rfl (by decide) (by decide);refine pSq ?_;go_simp;exact hK _ _ rfl rB
   ·intro ov_ av_ w ho K hK;simp at ho;subst ho;refine pSq ?_;go_simp;exact hK _ _ _ rfl (Nat.le_refl _) (heap_alloc_new _ _) (rB.alloc (Nat.le_refl _) _)
   ·intro ov_ listed av_ w g hR hv hg hz K hK;have ho:=hR.at_;simp at ho;subst ho;have e6:av_.tmps.getD 8 undef=.pointer (some ⟨g,0,none⟩):=hv;have e4:av_.tmps.getD 25 undef=.agg #[.bool p.neg,.string (encS p.num),.string (encS p.den)]:=hR.dep ⟨4,.data⟩ (by simp) rfl (by decide) (by decide);have cz0:w.cell? ⟨g,0,none⟩=some (.bool false):=by rw [Lib.cell_of_heap hz];rfl
    have fz0:w.frozen? ⟨g,0,none⟩=false:=frz0 hz 0;have cz1:w.cell? ⟨g,1,none⟩=some (.string ⟨#[]⟩):=by rw [Lib.cell_of_heap hz];rfl
    have fz1:w.frozen? ⟨g,1,none⟩=false:=frz0 hz 1;have cz2:w.cell? ⟨g,2,none⟩=some (.string ⟨#[]⟩):=by rw [Lib.cell_of_heap hz];rfl
    have fz2:w.frozen? ⟨g,2,none⟩=false:=frz0 hz 2;refine pSq ?_;go_simp;exact hK _ (by simp [World.setCell,Array.getElem?_modify,hz]) (((rB.setCell (p:=⟨g,0,none⟩) hg (.bool p.neg)).setCell (p:=⟨g,1,none⟩) hg (.string (encS p.num))).setCell (p:=⟨g,2,none⟩) hg (.string (encS p.den)))
   ·intro sv_ w g hS hg0 hge hN hb;have e6:sv_ 8=.pointer (some ⟨g,0,none⟩):=hg0;simp only [over,ovL,Nat.reduceAdd,Nat.reduceLeDiff,Nat.reduceLT];obtain ⟨bk8,hg1⟩:∃b,g=b:=⟨_,rfl⟩;rw [hg1] at e6 hge hN;clear hg1;have HG8_8:Hid (n0≤bk8):=hD (by rw [HN0.out];exact Nat.le_trans HB.out.size hge);have HL8_8:=hD (Nat.lt_of_lt_of_le (Array.getElem?_eq_some_iff.1 HX4_3.out).1 hge);have HX8_8:=hD hN;clear hN hge hg0;have HX2_1:=uH hb HX2_1;have HX3_2:=uH hb HX3_2;have HX4_3:=uH hb HX4_3;have HB:=mH HB hb;obtain ⟨w8,hw⟩:∃w8,w8=w:=⟨_,rfl⟩;subst hw;rw [e6];clear hS hb e6;go_wp2_with fail;refine wpTl (w:=w8) (by kernel_rfl) (fun ix v _=>v=ErNear_no_6_2 x p na sa da nb sb db ix) 7 (fun t=>(decide (27≤t)&&decide (t<34))) (by decide) (by kernel_rfl) (by kernel_rfl) (by kernel_rfl) (by kernel_rfl) (by kernel_rfl) (fun _ _ _ _ _ h=>h) ?_ ?_
    ·intro i hi ov_ listed av_ w hR K hK;have ho:=hR.at_;have hi:i<7:=hi;have hii:i=0∨i=1∨i=2∨i=3∨i=4∨i=5∨i=6:=by omega
     rcases hii with rfl|rfl|rfl|rfl|rfl|rfl|rfl<;>(simp at ho;subst ho)
     ·have b2:av_.tmps.getD 2 undef=.pointer (some ⟨bk2,0,none⟩):=hR.b 2;obtain ⟨cx0,cx1,cx2⟩:=c3 (uH hR.below HX2_1);refine pSq ?_;go_simp;exact hK _ _ rfl rB
     ·have b8:av_.tmps.getD 8 undef=.pointer (some ⟨bk8,0,none⟩):=hR.b 8;obtain ⟨cx0,cx1,cx2⟩:=c3 (uH hR.below HX8_8);refine pSq ?_;go_simp;exact hK _ _ rfl rB
     ·have e0:av_.tmps.getD 27 undef=.agg #[.bool na,.string sa,.string da]:=hR.t 0;have e1:av_.tmps.getD 28 undef=.agg #[.bool p.neg,.string (encS p.num),.string (encS p.den)]:=hR.t 1;refine pSq ?_;go_simp;refine (C5.out w).mono ?_;rintro e w' ⟨rfl,hb⟩;exact hK _ _ (rfl) hb
     ·have b3:av_.tmps.getD 3 undef=.pointer (some ⟨bk3,0,none⟩):=hR.b 3;obtain ⟨cx0,cx1,cx2⟩:=c3 (uH hR.below HX3_2);refine pSq ?_;go_simp;exact hK _ _ rfl rB
     ·have e2:av_.tmps.getD 29 undef=.agg #[.bool x.neg,.string (encS x.num),.string (encS x.den)]:=hR.t 2;have e3:av_.tmps.getD 30 undef=.agg #[.bool nb,.string sb,.string db]:=hR.t 3;refine pSq ?_;go_simp;refine (C6.out w).mono ?_;rintro e w' ⟨rfl,hb⟩;exact hK _ _ (rfl) hb
     ·have e4:av_.tmps.getD 31 undef=.tuple #[.agg #[.bool false,.string ⟨#[]⟩,.string ⟨#[]⟩],.bool false]:=hR.t 4;refine pSq ?_;go_simp;exact hK _ _ rfl rB
     ·have e4:av_.tmps.getD 31 undef=.tuple #[.agg #[.bool false,.string ⟨#[]⟩,.string ⟨#[]⟩],.bool false]:=hR.t 4;refine pSq ?_;go_simp;exact hK _ _ rfl rB
    ·intro sv_ w hS hb;have e5:sv_ 32=.agg #[.bool false,.string ⟨#[]⟩,.string ⟨#[]⟩]:=hS 5 (by decide);have e6:sv_ 33=.bool false:=hS 6 (by decide);simp only [over,ovL,Nat.reduceAdd,Nat.reduceLeDiff,Nat.reduceLT];have HX2_1:=uH hb HX2_1;have HX3_2:=uH hb HX3_2;have HX4_3:=uH hb HX4_3;have HX8_8:=uH hb HX8_8;have HB:=mH HB hb;obtain ⟨w9,hw⟩:∃w8,w8=w:=⟨_,rfl⟩;subst hw;rw [e5,e6];clear hS hb e5 e6;obtain ⟨W10,hW10,HX4_3,HB,ho,f9a,f9b,f9c,k9a,k9b,k9c⟩:=putZ HX4_3 HB HN0 HG4_3;have HX2_1:=ho _ _ (en2 HL3_2 HL4_3) HX2_1;have HX3_2:=ho _ _ (en1 HL4_3) HX3_2;have HX8_8:=ho _ _ (ne1 HL8_8) HX8_8;clear ho;refine tail_step (n:=1) rfl rfl ?_;go_simp
     try rw [hW10]
     clear f9a f9b f9c k9a k9b k9c hW10;refine tail_step (n:=0) rfl rfl ?_;go_simp;simp only [wpTail];go_wp2_with fail;refine bodyPost_ret (rC2 HX4_3.out) rfl ?_;exact ⟨rfl,by rw [HN0.out];exact HB.out⟩
theorem rDown_no (na:Bool) (sa da:ByteArray) (nb:Bool) (sb db:ByteArray) (za:sa.size≤10000) (zda:da.size≤10000) (zb:sb.size≤10000) (zdb:db.size≤10000) (h:stepsB na sa da nb sb db=false) (w:World):Gv 46 #[.agg #[.bool na,.string sa,.string da],.agg #[.bool nb,.string sb,.string db]] w (.tuple #[.agg #[.bool false,.string ⟨#[]⟩,.string ⟨#[]⟩],.bool false]) :=
 rDown_no2 na sa da nb sb db (by omega) (by omega) zb zdb h w
end Go.Proofs.YtabfjecegpaoaaaGreatDoor
