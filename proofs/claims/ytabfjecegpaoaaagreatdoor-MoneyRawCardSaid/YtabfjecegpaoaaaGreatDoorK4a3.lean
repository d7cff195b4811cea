/- MoneyRaw: for every input the law returns true, and each argument reads afterwards as it read before; the listed tables read as the program lays them (the tied card). -/
import Derived.Lib.ItoaLen
import Derived.WalkKit
import Derived.Deep.LoopGhost
import Derived.Deep.QuietTactic
import Derived.BigQuiet
import Derived.Test.YtabfjecegpaoaaaGreatDoorProg
import Derived.WalkSpells
import Derived.WalkLawsBesides
import Derived.IntWalk
import Derived.Lib.Hide
import Derived.Laws.BitsAllLaws
import Derived.StillTailTactics
import Derived.Deep.OwnRows
import Derived.Lib.ConvBytes
import Derived.Below
import Derived.RangeFuncNested
import Derived.RangeFuncCalls
import Derived.RangeFuncLeaves
import Derived.Shelf.Abstract
import Derived.Lib.LaidIn
import Derived.RegionTactic
import Derived.KernelRfl
import Derived.OrdersIn
import Derived.Shelf.Strings.Builder1
import Derived.Shelf.Strings.Builder2
import Derived.Shelf.Strings.Trim
import Derived.Shelf.Small.Utf8
import Derived.Shelf.Small.Bits
import Derived.Shelf.Small.Strs
import Derived.Shelf.Strings.BuilderF
import Derived.Shelf.Strings.BuilderK
import Derived.Shelf.Strings.Builder2Cap
import Derived.Shelf.Strconv.Atoi
import Derived.Shelf.Strconv.Itoa0
import Derived.Shelf.Strconv.Itoa1
import Derived.Shelf.LaysM
import Derived.Shelf.Strconv.Itoa2
import Derived.Shelf.Strconv.Itoa3
import Derived.Shelf.Strconv.AtoiErrFast
import Derived.Shelf.Strconv.ParseIntEmpty
import Derived.Shelf.Strconv.AtoiFail
import Derived.Shelf.Strconv.Clone
import Derived.Shelf.Strconv.SyntaxError
import Derived.Shelf.LaysC
import Derived.Shelf.Strconv.ToError
import Derived.Shelf.Strconv.Lower
import Derived.Shelf.Strconv.ParseUint10
import Derived.Shelf.Strconv.ParseUint10Empty
import Derived.Shelf.Strconv.ParseUint10Any
import Derived.Shelf.Strconv.ParseInt10
import Derived.Shelf.Strconv.AtoiLong
import Derived.Shelf.Strconv.AtoiInnerAll
import Derived.Shelf.Strconv.RangeError
import Derived.Shelf.Strconv.ToErrorRange
import Derived.Shelf.Strconv.AtoiAll
import Derived.Shelf.Strconv.ErrVarAll
import Derived.Shelf.Strconv.ParseUintEmpty
import Derived.Shelf.Strconv.ParseUint10b64
import Derived.Shelf.Strconv.ParseUint10b32
import Derived.Shelf.Strconv.ParseUint10b16
import Derived.Shelf.Strconv.ParseUint10b8
import Derived.Shelf.Strconv.ParseUint10At
import Derived.Shelf.Strconv.ParseInt10At64
import Derived.Shelf.Strconv.ParseInt10At32
import Derived.Shelf.Strconv.ParseInt10At16
import Derived.Shelf.Strconv.ParseInt10At8
import Derived.Shelf.Strconv.ParseInt10All
import Derived.Shelf.Strings.Search1
import Derived.Shelf.GgClosure.StringsIndexFunc
import Derived.Ground.GgwProg
import Derived.Shelf.GgClosure.StringsIndexFuncTop
import Derived.Shelf.GgClosure.StringsRunes
import Derived.Shelf.Strings.Prefix
import Derived.Shelf.Unicode.Decode
import Derived.Shelf.Strings.Runes
import Derived.Shelf.Strings.AsciiSet
import Derived.Shelf.Bits.Mul64
import Derived.Shelf.Strings.Repeat
import Derived.Shelf.Unicode.DecodeSlow
import Derived.Shelf.Unicode.DecodeAny
import Derived.Shelf.Strings.FuncGrows
import Derived.Shelf.Strings.BuilderCap
import Derived.Test.YtabfjecegpaoaaaGreatDoorZc0
import Derived.Test.YtabfjecegpaoaaaGreatDoorK4a2
import Derived.Test.YtabfjecegpaoaaaGreatDoorZb1
import Derived.Test.YtabfjecegpaoaaaGreatDoorZa6
import Derived.Test.YtabfjecegpaoaaaGreatDoorZb0
import Derived.Test.YtabfjecegpaoaaaGreatDoorK4a1
import Derived.Test.YtabfjecegpaoaaaGreatDoorZb6
import Derived.Test.YtabfjecegpaoaaaGreatDoorZb2
import Derived.Test.YtabfjecegpaoaaaGreatDoorZa5
import Derived.Test.YtabfjecegpaoaaaGreatDoorZa4
import Derived.Test.YtabfjecegpaoaaaGreatDoorZa3
import Derived.Test.YtabfjecegpaoaaaGreatDoorZa0
import Derived.Test.YtabfjecegpaoaaaGreatDoorZa1
import Derived.Test.YtabfjecegpaoaaaGreatDoorZa2
set_option maxHeartbeats 16000000
set_option linter.unusedVariables false
namespace Go.Proofs.YtabfjecegpaoaaaGreatDoor
open Go.RowKit Go.Shelf
open Dgt
theorem toBelow {P:Program} {f:FuncId} {args:Array Value} {w:World} {v:Value} (h:Calls P f args w fun e w' =>e=.returned v∧w=w'):Calls P f args w fun e w' =>e=.returned v∧Below w.heap.size w w' :=
 h.mono fun e w' ⟨h1,h2⟩=>⟨h1,by subst h2;exact Below.refl _ _⟩
def centR:Rt:=low false 1 100
theorem centR_ok:centR.Ok:=low_ok _ (by decide)
theorem centR_sz:Rz centR 8:=low_sz (by unfold Sz;decide) (by unfold Sz;decide)
theorem q_cent:centR.q=1/100:=by unfold centR;rw [q_low _ (by decide),Rat.mkRat_eq_div];rfl
theorem of_ref (c:Int):mulR (ofR c) centR=ofC c:=q_inj (mulR_ok (ofR_ok c) centR_ok) (ofC_ok c) (by rw [q_mul (ofR_ok c) centR_ok,q_of,q_cent,q_ofC];grind)
theorem floor_ref {a:Rt} (ha:a.Ok) (h1:a.neg=true) (h2:¬a.num%a.den=0):subR (low a.neg (a.num/a.den) 1) (ofR 1)=flR a:=by
 rw [←whole_fl ha,low_one,low_one];unfold wholeN;rw [if_pos ⟨h1,h2⟩,h1];refine q_inj (subR_ok (ofR_ok _) (ofR_ok _)) (ofR_ok _) ?_;rw [q_sub (ofR_ok _) (ofR_ok _),q_of,q_of,q_of];unfold iv;simp only [if_true];rw [←Rat.intCast_sub];congr 1;push_cast;omega
theorem floor_same {a:Rt} (ha:a.Ok) (h:¬(a.neg=true∧¬a.num%a.den=0)):low a.neg (a.num/a.den) 1=flR a:=by
 rw [←whole_fl ha];unfold wholeN;rw [if_neg h]
theorem size_pos {m:Nat} (h:m≠0):0<(encS m).size:=by
 rcases Nat.eq_zero_or_pos (encS m).size with h0|h0
 ·exfalso
  have h1:=enc_some h;have h2:(encS m).data.toList.length=0:=by rw [Array.length_toList];exact h0
  rw [ByteArray.toList_eq] at h1;rw [List.eq_nil_of_length_eq_zero h2] at h1;cases h1
 ·exact h0
set_option maxRecDepth 100000 in
theorem rFits_any (na:Bool) (sa da:ByteArray) (zs:sa.size≤1000000) (zd:da.size≤1000000) (wq:World) :
  Gv 51 #[.agg #[.bool na,.string sa,.string da]] wq (.bool (fitsB na sa da)):=by
 unfold Gv;obtain ⟨R,hR⟩:∃b,rightR na sa da=b:=⟨_,rfl⟩;have HR:=hD hR;clear hR;obtain ⟨x,hx⟩:∃x,bitsN (numS sa)=x:=⟨_,rfl⟩;obtain ⟨y,hy⟩:∃x,bitsN (numS da)=x:=⟨_,rfl⟩;obtain ⟨P,hP⟩:∃b,decide ((x:Int)≤400)=b:=⟨_,rfl⟩;have HP:=hD hP;clear hP;obtain ⟨Q,hQ⟩:∃b,decide ((y:Int)≤400)=b:=⟨_,rfl⟩;have HQ:=hD hQ;clear hQ;have HF:Hid (fitsB na sa da=(R&&P&&Q)):=hD (by unfold fitsB;rw [HR.out,hx,hy, ←HP.out, ←HQ.out];congr 1;congr 1;exact decide_eq_decide.2 (by omega);exact decide_eq_decide.2 (by omega));have C1:Hid (∀w,Gv 89 #[.agg #[.bool na,.string sa,.string da]] w (.bool R)):=hD fun w=>by
  have h:=rRatRight_any na sa da w zs zd;rw [HR.out] at h;exact h
 have C2:Hid (∀w,Gv 92 #[.string sa] w (.int .i64 (x:Int))):=hD fun w=>by
  have h:=toBelow (rBits_any sa w (by omega));rw [hx] at h;exact h
 have C3:Hid (∀w,Gv 92 #[.string da] w (.int .i64 (y:Int))):=hD fun w=>by
  have h:=toBelow (rBits_any da w (by omega));rw [hy] at h;exact h
 rw [HF.out];clear HF hx hy HR zs zd;have HB:=hD (Below.refl wq.heap.size wq);obtain ⟨n0,hn0⟩:∃n,n=wq.heap.size:=⟨_,rfl⟩;rw [←hn0];have HN0:=hD hn0;clear hn0;go_enter Tryz.func51,Tryz.ntmps51;obtain ⟨W1,bk1,hW1,hbk1,HX1_1,HB,HG1_1,hup⟩:=boxS HB HN0 na sa da;clear hup;obtain ⟨k2a,k2b,k2c⟩:=c3 HX1_1;go_wp2_with fail;clear hW1 hbk1 k2a k2b k2c;refine (C1.out _).mono ?_;rintro e w2 ⟨rfl,hb⟩;have HX1_1:=uH hb HX1_1;have HB:=mH HB hb;clear hb;cases R
 case false =>
  go_wp2_with fail;go_ret;exact ⟨rfl,by rw [HN0.out];exact HB.out⟩
 case true =>
  have k3:w2.cell? ⟨bk1,1,none⟩=some (.string sa):=by rw [Lib.cell_of_heap HX1_1.out];rfl
  go_wp2_with fail;clear k3;refine (C2.out _).mono ?_;rintro e w3 ⟨rfl,hb⟩;have HX1_1:=uH hb HX1_1;have HB:=mH HB hb;clear hb;cases P
  case false =>
   have q4:=HP.out;go_wp2_with fail;clear q4;go_ret;exact ⟨rfl,by rw [HN0.out];exact HB.out⟩
  case true =>
   have q5:=HP.out;have k6:w3.cell? ⟨bk1,2,none⟩=some (.string da):=by rw [Lib.cell_of_heap HX1_1.out];rfl
   go_wp2_with fail;clear q5 k6;refine (C3.out _).mono ?_;rintro e w4 ⟨rfl,hb⟩;have HX1_1:=uH hb HX1_1;have HB:=mH HB hb;clear hb;have q7:=HQ.out;go_wp2_with fail;clear q7;go_ret;exact ⟨rfl,by rw [HN0.out];exact HB.out⟩
set_option maxRecDepth 100000 in
theorem cent_any   (wq:World) :
  Gv 45 #[] wq (rtV centR):=by
 unfold Gv;have c3:=fun w=>rRatMake_any false (encS 1) (encS 100) w (Nat.le_trans (encS_size_lt sz_one') (by decide)) (Nat.le_trans (encS_size_lt (show Sz 100 1 by unfold Sz;decide)) (by decide))
 have e:makeV false (encS 1) (encS 100)=.tuple #[rtV centR,.bool true]:=by unfold makeV;rw [right_enc,right_enc,numS_encS,numS_encS];rfl
 rw [e] at c3;clear e;obtain ⟨z,hz⟩:∃z,centR=z:=⟨_,rfl⟩;rw [hz] at c3 ⊢;have C1:Hid (∀w,Gv 40 #[.int .i64 1] w (.string (encS 1))):=hD fun w=>by
  have h:=(fun w=>rOf_any 1 w (by decide)) w;exact h
 have C2:Hid (∀w,Gv 40 #[.int .i64 100] w (.string (encS 100))):=hD fun w=>by
  have h:=(fun w=>rOf_any 100 w (by decide)) w;exact h
 have C3:Hid (∀w,Gv 81 #[.bool false,.string (encS 1),.string (encS 100)] w (.tuple #[.agg #[.bool z.neg,.string (encS z.num),.string (encS z.den)],.bool true])):=hD c3;clear c3 hz;have HB:=hD (Below.refl wq.heap.size wq);obtain ⟨n0,hn0⟩:∃n,n=wq.heap.size:=⟨_,rfl⟩;rw [←hn0];have HN0:=hD hn0;clear hn0;go_enter Tryz.func45,Tryz.ntmps45;obtain ⟨W1,bk0,hW1,hbk0,HX0_1,HB,HG0_1,hup⟩:=boxZ HB HN0;clear hup;go_wp2_with fail;clear hW1 hbk0;refine (C1.out _).mono ?_;rintro e w2 ⟨rfl,hb⟩;have HX0_1:=uH hb HX0_1;have HB:=mH HB hb;clear hb;go_wp2_with fail;refine (C2.out _).mono ?_;rintro e w3 ⟨rfl,hb⟩;have HX0_1:=uH hb HX0_1;have HB:=mH HB hb;clear hb;go_wp2_with fail;refine (C3.out _).mono ?_;rintro e w4 ⟨rfl,hb⟩;have HX0_1:=uH hb HX0_1;have HB:=mH HB hb;clear hb;obtain ⟨W5,bk1,hW5,hbk1,HX1_2,HB,HG1_2,hup⟩:=boxZ HB HN0;have HL1_2:=(hup _ _ HX0_1).2;have HX0_1:=(hup _ _ HX0_1).1;clear hup
 obtain ⟨W6,hW6,HX1_2,HB,ho,f3a,f3b,f3c,k3a,k3b,k3c⟩:=putR HX1_2 HB HN0 HG1_2 z;have HX0_1:=ho _ _ (en1 HL1_2) HX0_1;clear ho;obtain ⟨k4a,k4b,k4c⟩:=c3 HX1_2;obtain ⟨W7,hW7,HX0_1,HB,ho,f5a,f5b,f5c,k5a,k5b,k5c⟩:=putR HX0_1 HB HN0 HG0_1 z;have HX1_2:=ho _ _ (ne1 HL1_2) HX1_2;clear ho;go_wp2_with fail;clear hW5 hbk1 f3a f3b f3c k3a k3b k3c hW6 k4a k4b k4c f5a f5b f5c k5a k5b k5c hW7;refine bodyPost_ret (rC1 HX0_1.out) rfl ?_;exact ⟨rfl,by rw [HN0.out];exact HB.out⟩
set_option maxRecDepth 100000 in
theorem rOfC_any (n:Int) (h1: -9223372036854775808≤n) (h2:n≤9223372036854775807) (wq:World) :
  Gv 14 #[.int .i64 n] wq (rtV (ofC n)):=by
 unfold Gv;have c1:=fun w=>rRatOf_any n w h1 h2;have c2:=fun w=>cent_any w
 have c3:=fun w=>rRatMul_r (IsR.of (ofR_ok n) (ofR_sz h1 h2)) (IsR.of centR_ok centR_sz) (by decide) (by decide) w
 rw [of_ref] at c3;obtain ⟨x,hx⟩:∃x,ofR n=x:=⟨_,rfl⟩;obtain ⟨y,hy⟩:∃x,centR=x:=⟨_,rfl⟩;obtain ⟨z,hz⟩:∃x,ofC n=x:=⟨_,rfl⟩;rw [hx] at c1 c3;rw [hy] at c2 c3;rw [hz] at c3 ⊢;clear hx hy hz h1 h2;have C1:Hid (∀w,Gv 17 #[.int .i64 n] w (.agg #[.bool x.neg,.string (encS x.num),.string (encS x.den)])):=hD c1;have C2:Hid (∀w,Gv 45 #[] w (.agg #[.bool y.neg,.string (encS y.num),.string (encS y.den)])):=hD c2;have C3:Hid (∀w,Gv 16 #[rtV x,rtV y] w (.agg #[.bool z.neg,.string (encS z.num),.string (encS z.den)])):=hD c3;clear c1 c2 c3;have HB:=hD (Below.refl wq.heap.size wq);obtain ⟨n0,hn0⟩:∃n,n=wq.heap.size:=⟨_,rfl⟩;rw [←hn0];have HN0:=hD hn0;clear hn0;go_enter Tryz.func14,Tryz.ntmps14;obtain ⟨W1,bk2,hW1,hbk2,HX2_1,HB,HG2_1,hup⟩:=boxZ HB HN0;clear hup;go_wp2_with fail;clear hW1 hbk2;refine (C1.out _).mono ?_;rintro e w2 ⟨rfl,hb⟩;have HX2_1:=uH hb HX2_1;have HB:=mH HB hb;clear hb;go_wp2_with fail
 refine (C2.out _).mono ?_;rintro e w3 ⟨rfl,hb⟩;have HX2_1:=uH hb HX2_1;have HB:=mH HB hb;clear hb;go_wp2_with fail;refine (C3.out _).mono ?_;rintro e w4 ⟨rfl,hb⟩;have HX2_1:=uH hb HX2_1;have HB:=mH HB hb;clear hb;obtain ⟨W5,hW5,HX2_1,HB,ho,f2a,f2b,f2c,k2a,k2b,k2c⟩:=putR HX2_1 HB HN0 HG2_1 z;clear ho;go_wp2_with fail;clear f2a f2b f2c k2a k2b k2c hW5;refine bodyPost_ret (rC1 HX2_1.out) rfl ?_;exact ⟨rfl,by rw [HN0.out];exact HB.out⟩
def ErFloor_r_2_1 (L:Rt) (nn:Bool) (u:Nat) (bk1:Nat):Nat→Value
 | 0=>.pointer (some ⟨bk1,0,none⟩)
 | 1=>.bool nn
 | 2=>.string (encS u)
 | 3=>.string (encS 1)
 | 4=>.tuple #[.agg #[.bool L.neg,.string (encS L.num),.string (encS L.den)],.bool true]
 | 5=>.tuple #[.agg #[.bool L.neg,.string (encS L.num),.string (encS L.den)],.bool true]
 | 6=>.agg #[.bool L.neg,.string (encS L.num),.string (encS L.den)]
 | 7=>.bool true
 | 8=>undef
 | 9=>undef
 | 10=>.bool true
 | _=>undef
def ErFloor_r_4_2 (L:Rt) (o:Rt) (x:Rt):Nat→Value
 | 0=>.agg #[.bool L.neg,.string (encS L.num),.string (encS L.den)]
 | 1=>.agg #[.bool o.neg,.string (encS o.num),.string (encS o.den)]
 | 2=>.agg #[.bool x.neg,.string (encS x.num),.string (encS x.den)]
 | _=>undef
set_option maxRecDepth 100000 in
theorem rFloor_r {a:Rt} {k:Nat} (ha:a.Ok) (hz:Rz a k) (hk:k≤300000) (wq:World) :
  Gv 68 #[.agg #[.bool a.neg,.string (encS a.num),.string (encS a.den)]] wq (rtV (flR a)):=by
 unfold Gv;have hp:=ha.pos;have c1:=fun w=>rQuo_any (encS a.num) (encS a.den) w (Nat.le_trans (encS_size_lt hz.1) (by omega)) (Nat.le_trans (encS_size_lt hz.2) (by omega))
 simp only [numS_encS] at c1;have s1:Sz (a.num/a.den) (k+1):=(hz.1.div _).mono (by omega);have c2:=fun w=>rRatMake_any a.neg (encS (a.num/a.den)) (encS 1) w (Nat.le_trans (encS_size_lt s1) (by omega)) (Nat.le_trans (encS_size_lt sz_one') (by decide))
 have e:makeV a.neg (encS (a.num/a.den)) (encS 1)=.tuple #[rtV (low a.neg (a.num/a.den) 1),.bool true]:=by unfold makeV;rw [right_enc,right_enc,numS_encS,numS_encS];rfl
 rw [e] at c2;clear e;have hlo:(low a.neg (a.num/a.den) 1).Ok:=low_ok _ (by decide);have hlz:Rz (low a.neg (a.num/a.den) 1) (k+8):=low_sz (s1.mono (by omega)) (sz_one'.mono (by omega));have c3:=fun w=>rRatOf_any 1 w (by decide) (by decide)
 have c4:=fun w=>rRatSub_r (IsR.of hlo hlz) (IsR.of (ofR_ok 1) ((ofR_sz (by decide) (by decide)).mono (show 8≤k+8 by omega))) (by omega) (by omega) w
 have K1:=hD (floor_ref ha);have K0:=hD (floor_same ha);rw [show remS a.num a.den=a.num%a.den from by unfold remS;rw [if_neg (by omega)],decide_eq_true hp] at c1;obtain ⟨z,h0⟩:∃z,flR a=z:=⟨_,rfl⟩;rw [h0] at K0 K1 ⊢;obtain ⟨r,h2⟩:∃r,a.num%a.den=r:=⟨_,rfl⟩;rw [h2] at c1 K0 K1;obtain ⟨u,h1⟩:∃u,a.num/a.den=u:=⟨_,rfl⟩;rw [h1] at c1 c2 c4 K0 K1;obtain ⟨L,h3⟩:∃L,low a.neg u 1=L:=⟨_,rfl⟩;rw [h3] at c2 c4 K0 K1;obtain ⟨o,h4⟩:∃o,ofR 1=o:=⟨_,rfl⟩;rw [h4] at c3 c4 K1;obtain ⟨x,h5⟩:∃x,subR L o=x:=⟨_,rfl⟩;rw [h5] at c4 K1;obtain ⟨nn,hnn⟩:∃b,a.neg=b:=⟨_,rfl⟩;obtain ⟨m,hm⟩:∃b,a.num=b:=⟨_,rfl⟩;obtain ⟨d,hd⟩:∃b,a.den=b:=⟨_,rfl⟩;rw [hm,hd] at c1;rw [hnn] at c2 K0 K1;rw [hnn,hm,hd];have C1:Hid (∀w,Gv 88 #[.string (encS m),.string (encS d)] w (.tuple #[.string (encS u),.string (encS r),.bool true])):=hD c1;have C2:Hid (∀w,Gv 40 #[.int .i64 1] w (.string (encS 1))):=hD fun w=>by
  have h:=(fun w=>rOf_any 1 w (by decide)) w;exact h
 have C3:Hid (∀w,Gv 81 #[.bool nn,.string (encS u),.string (encS 1)] w (.tuple #[.agg #[.bool L.neg,.string (encS L.num),.string (encS L.den)],.bool true])):=hD c2;have C4:Hid (∀w,Gv 17 #[.int .i64 1] w (.agg #[.bool o.neg,.string (encS o.num),.string (encS o.den)])):=hD c3;have C5:Hid (∀w,Gv 27 #[rtV L,rtV o] w (.agg #[.bool x.neg,.string (encS x.num),.string (encS x.den)])):=hD c4;clear c1 c2 c3 c4 s1 hlo hlz h0 h1 h2 h3 h4 h5 hnn hm hd hp ha hz hk;have HB:=hD (Below.refl wq.heap.size wq);obtain ⟨n0,hn0⟩:∃n,n=wq.heap.size:=⟨_,rfl⟩;rw [←hn0];have HN0:=hD hn0;clear hn0;go_enter Tryz.func68,Tryz.ntmps68;obtain ⟨W1,bk1,hW1,hbk1,HX1_1,HB,HG1_1,hup⟩:=boxn HB HN0 (.cells #[.bool nn,.string (encS m),.string (encS d)] 26);clear hup;obtain ⟨W2,bk2,hW2,hbk2,HX2_2,HB,HG2_2,hup⟩:=boxZ HB HN0;have HL2_2:=(hup _ _ HX1_1).2;have HX1_1:=(hup _ _ HX1_1).1;clear hup
 have k3:W2.cell? ⟨bk1,1,none⟩=some (.string (encS m)):=by rw [Lib.cell_of_heap HX1_1.out];rfl
 have k4:W2.cell? ⟨bk1,2,none⟩=some (.string (encS d)):=by rw [Lib.cell_of_heap HX1_1.out];rfl
 go_wp2_with fail;clear hW1 hbk1 hW2 hbk2 k3 k4;refine (C1.out _).mono ?_;rintro e w3 ⟨rfl,hb⟩;have HX1_1:=uH hb HX1_1;have HX2_2:=uH hb HX2_2;have HB:=mH HB hb;clear hb;go_wp2_with fail;refine wp_region_box (w0:=w3) (by kernel_rfl) (fun ix v _=>v=ErFloor_r_2_1 L nn u bk1 ix) 8 9 (.cells #[.bool false,.string ⟨#[]⟩,.string ⟨#[]⟩] 26 (0,0)) (.cells #[.bool L.neg,.string (encS L.num),.string (encS L.den)] 26 (0,0)) (fun t=>(decide (6≤t)&&decide (t<8))||(decide (17≤t)&&decide (t<25))) (by kernel_rfl) (by kernel_rfl) (by kernel_rfl) (by decide) (by decide) (by kernel_rfl) rfl (fun _ _ _ _ _ h=>h) ?_ ?_ ?_ ?_
 ·intro i hi hia his ov_ listed av_ w hR K hK;have ho:=hR.at_;have hi:i<11:=hi;have hii:i=0∨i=1∨i=2∨i=3∨i=4∨i=5∨i=6∨i=7∨i=10:=by omega
  rcases hii with rfl|rfl|rfl|rfl|rfl|rfl|rfl|rfl|rfl
  ·simp at ho;subst ho;have b1:av_.tmps.getD 1 undef=.pointer (some ⟨bk1,0,none⟩):=hR.b 1;refine pSq ?_;go_simp;exact hK _ _ rfl rB
  ·simp at ho;subst ho;have e0:av_.tmps.getD 18 undef=.pointer (some ⟨bk1,0,none⟩):=hR.dep ⟨0,.data⟩ (by simp) rfl (by decide) (by decide);have cx0:w.cell? ⟨bk1,0,none⟩=some (.bool nn):=by rw [Lib.cell_of_heap (hpU hR.below HX1_1.out)];rfl
   refine pSq ?_;go_simp;exact hK _ _ rfl rB
  ·simp at ho;subst ho;have b3:av_.tmps.getD 3 undef=.string (encS u):=hR.b 3;refine pSq ?_;go_simp;exact hK _ _ rfl rB
  ·simp at ho;subst ho;refine pSq ?_;go_simp;refine (C2.out w).mono ?_;rintro e w' ⟨rfl,hb⟩;exact hK _ _ (rfl) hb
  ·simp at ho;subst ho;have e1:av_.tmps.getD 19 undef=.bool nn:=hR.dep ⟨1,.data⟩ (by simp) rfl (by decide) (by decide);have e2:av_.tmps.getD 20 undef=.string (encS u):=hR.dep ⟨2,.data⟩ (by simp) rfl (by decide) (by decide);have e3:av_.tmps.getD 21 undef=.string (encS 1):=hR.dep ⟨3,.data⟩ (by simp) rfl (by decide) (by decide);refine pSq ?_;go_simp;refine (C3.out w).mono ?_;rintro e w' ⟨rfl,hb⟩;exact hK _ _ (rfl) hb
  ·simp at ho;subst ho;have e4:av_.tmps.getD 22 undef=.tuple #[.agg #[.bool L.neg,.string (encS L.num),.string (encS L.den)],.bool true]:=hR.dep ⟨4,.data⟩ (by simp) rfl (by decide) (by decide);refine pSq ?_;go_simp;exact hK _ _ rfl rB
  ·simp at ho;subst ho;have e5:av_.tmps.getD 17 undef=.tuple #[.agg #[.bool L.neg,.string (encS L.num),.string (encS L.den)],.bool true]:=hR.dep ⟨5,.data⟩ (by simp) rfl (by decide) (by decide);refine pSq ?_;go_simp;exact hK _ _ rfl rB
  ·simp at ho;subst ho;have e5:av_.tmps.getD 17 undef=.tuple #[.agg #[.bool L.neg,.string (encS L.num),.string (encS L.den)],.bool true]:=hR.dep ⟨5,.data⟩ (by simp) rfl (by decide) (by decide);refine pSq ?_;go_simp;exact hK _ _ rfl rB
  ·simp at ho;subst ho;have e7:av_.tmps.getD 24 undef=.bool true:=hR.dep ⟨7,.data⟩ (by simp) rfl (by decide) (by decide);refine pSq ?_;go_simp;exact hK _ _ rfl rB
 ·intro ov_ av_ w ho K hK;simp at ho;subst ho;refine pSq ?_;go_simp;exact hK _ _ _ rfl (Nat.le_refl _) (heap_alloc_new _ _) (rB.alloc (Nat.le_refl _) _)
 ·intro ov_ listed av_ w g hR hv hg hz K hK;have ho:=hR.at_;simp at ho;subst ho;have e8:av_.tmps.getD 6 undef=.pointer (some ⟨g,0,none⟩):=hv;have e6:av_.tmps.getD 23 undef=.agg #[.bool L.neg,.string (encS L.num),.string (encS L.den)]:=hR.dep ⟨6,.data⟩ (by simp) rfl (by decide) (by decide);have cz0:w.cell? ⟨g,0,none⟩=some (.bool false):=by rw [Lib.cell_of_heap hz];rfl
  have fz0:w.frozen? ⟨g,0,none⟩=false:=frz0 hz 0;have cz1:w.cell? ⟨g,1,none⟩=some (.string ⟨#[]⟩):=by rw [Lib.cell_of_heap hz];rfl
  have fz1:w.frozen? ⟨g,1,none⟩=false:=frz0 hz 1;have cz2:w.cell? ⟨g,2,none⟩=some (.string ⟨#[]⟩):=by rw [Lib.cell_of_heap hz];rfl
  have fz2:w.frozen? ⟨g,2,none⟩=false:=frz0 hz 2;refine pSq ?_;go_simp;exact hK _ (by simp [World.setCell,Array.getElem?_modify,hz]) (((rB.setCell (p:=⟨g,0,none⟩) hg (.bool L.neg)).setCell (p:=⟨g,1,none⟩) hg (.string (encS L.num))).setCell (p:=⟨g,2,none⟩) hg (.string (encS L.den)))
 ·intro sv_ w g hS hg0 hge hN hb;have e8:sv_ 6=.pointer (some ⟨g,0,none⟩):=hg0;simp only [over,ovL,Nat.reduceAdd,Nat.reduceLeDiff,Nat.reduceLT];obtain ⟨bk6,hg1⟩:∃b,g=b:=⟨_,rfl⟩;rw [hg1] at e8 hge hN;clear hg1;have HG6_5:Hid (n0≤bk6):=hD (by rw [HN0.out];exact Nat.le_trans HB.out.size hge);have HL6_5:=hD (Nat.lt_of_lt_of_le (Array.getElem?_eq_some_iff.1 HX2_2.out).1 hge);have HX6_5:=hD hN;clear hN hge hg0;have HX1_1:=uH hb HX1_1;have HX2_2:=uH hb HX2_2;have HB:=mH HB hb;obtain ⟨w4,hw⟩:∃w8,w8=w:=⟨_,rfl⟩;subst hw;rw [e8];clear hS hb e8;cases nn
  case false =>
   have k6:w4.cell? ⟨bk1,0,none⟩=some (.bool false):=by rw [Lib.cell_of_heap HX1_1.out];rfl
   have hz:=K0.out (by rintro ⟨h,-⟩;cases h);subst hz;obtain ⟨k7a,k7b,k7c⟩:=c3 HX6_5;obtain ⟨W5,hW5,HX2_2,HB,ho,f8a,f8b,f8c,k8a,k8b,k8c⟩:=putR HX2_2 HB HN0 HG2_2 L;have HX1_1:=ho _ _ (en1 HL2_2) HX1_1;have HX6_5:=ho _ _ (ne1 HL6_5) HX6_5;clear ho;go_wp2_with fail;clear k6 k7a k7b k7c f8a f8b f8c k8a k8b k8c hW5;refine bodyPost_ret (rC1 HX2_2.out) rfl ?_;exact ⟨rfl,by rw [HN0.out];exact HB.out⟩
  case true =>
   have k9:w4.cell? ⟨bk1,0,none⟩=some (.bool true):=by rw [Lib.cell_of_heap HX1_1.out];rfl
   by_cases hr0:r=0
   ·have HZ:=hD hr0;have hs0:¬(0:Int)<((encS r).size:Int):=by rw [hr0,encS_zero];decide
    clear hr0;have hz:=K0.out (by rintro ⟨-,h⟩;exact h HZ.out);subst hz;obtain ⟨k10a,k10b,k10c⟩:=c3 HX6_5;obtain ⟨W6,hW6,HX2_2,HB,ho,f11a,f11b,f11c,k11a,k11b,k11c⟩:=putR HX2_2 HB HN0 HG2_2 L;have HX1_1:=ho _ _ (en1 HL2_2) HX1_1;have HX6_5:=ho _ _ (ne1 HL6_5) HX6_5;clear ho;go_wp2_with fail;clear k9 hs0 k10a k10b k10c f11a f11b f11c k11a k11b k11c hW6;refine bodyPost_ret (rC1 HX2_2.out) rfl ?_;exact ⟨rfl,by rw [HN0.out];exact HB.out⟩
   ·have HZ:=hD hr0;have hs0:(0:Int)<((encS r).size:Int):=by have:=size_pos hr0;omega
    clear hr0;have hz:=K1.out rfl HZ.out;subst hz;go_wp2_with fail;clear k9 hs0;refine wpTl (w:=w4) (by kernel_rfl) (fun ix v _=>v=ErFloor_r_4_2 L o x ix) 3 (fun t=>(decide (32≤t)&&decide (t<35))) (by decide) (by kernel_rfl) (by kernel_rfl) (by kernel_rfl) (by kernel_rfl) (by kernel_rfl) (fun _ _ _ _ _ h=>h) ?_ ?_
    ·intro i hi ov_ listed av_ w hR K hK;have ho:=hR.at_;have hi:i<3:=hi;have hii:i=0∨i=1∨i=2:=by omega
     rcases hii with rfl|rfl|rfl<;>(simp at ho;subst ho)
     ·have b6:av_.tmps.getD 6 undef=.pointer (some ⟨bk6,0,none⟩):=hR.b 6;obtain ⟨cx0,cx1,cx2⟩:=c3 (uH hR.below HX6_5);refine pSq ?_;go_simp;exact hK _ _ rfl rB
     ·refine pSq ?_;go_simp;refine (C4.out w).mono ?_;rintro e w' ⟨rfl,hb⟩;exact hK _ _ (rfl) hb
     ·have e0:av_.tmps.getD 32 undef=.agg #[.bool L.neg,.string (encS L.num),.string (encS L.den)]:=hR.t 0;have e1:av_.tmps.getD 33 undef=.agg #[.bool o.neg,.string (encS o.num),.string (encS o.den)]:=hR.t 1;refine pSq ?_;go_simp;refine (C5.out w).mono ?_;rintro e w' ⟨rfl,hb⟩;exact hK _ _ (rfl) hb
    ·intro sv_ w hS hb;have e2:sv_ 34=.agg #[.bool x.neg,.string (encS x.num),.string (encS x.den)]:=hS 2 (by decide);simp only [over,ovL,Nat.reduceAdd,Nat.reduceLeDiff,Nat.reduceLT];have HX1_1:=uH hb HX1_1;have HX2_2:=uH hb HX2_2;have HX6_5:=uH hb HX6_5;have HB:=mH HB hb;obtain ⟨w7,hw⟩:∃w8,w8=w:=⟨_,rfl⟩;subst hw;rw [e2];clear hS hb e2;obtain ⟨W8,hW8,HX6_5,HB,ho,f12a,f12b,f12c,k12a,k12b,k12c⟩:=putR HX6_5 HB HN0 HG6_5 x;have HX1_1:=ho _ _ (en2 HL2_2 HL6_5) HX1_1;have HX2_2:=ho _ _ (en1 HL6_5) HX2_2;clear ho;refine tail_step (n:=0) rfl rfl ?_;go_simp
     try rw [hW8]
     clear f12a f12b f12c k12a k12b k12c hW8;simp only [wpTail];obtain ⟨k13a,k13b,k13c⟩:=c3 HX6_5;obtain ⟨W9,hW9,HX2_2,HB,ho,f14a,f14b,f14c,k14a,k14b,k14c⟩:=putR HX2_2 HB HN0 HG2_2 x;have HX1_1:=ho _ _ (en1 HL2_2) HX1_1;have HX6_5:=ho _ _ (ne1 HL6_5) HX6_5;clear ho;go_wp2_with fail;clear k13a k13b k13c f14a f14b f14c k14a k14b k14c hW9;refine bodyPost_ret (rC1 HX2_2.out) rfl ?_;exact ⟨rfl,by rw [HN0.out];exact HB.out⟩
end Go.Proofs.YtabfjecegpaoaaaGreatDoor
