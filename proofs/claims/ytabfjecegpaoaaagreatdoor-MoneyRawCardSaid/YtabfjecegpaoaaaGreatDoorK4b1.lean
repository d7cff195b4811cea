/- MoneyRaw: for every input the law returns true, and each argument reads afterwards as it read before; the listed tables read as the program lays them (the tied card). -/
import Derived.WalkKit
import Derived.Deep.LoopGhost
import Derived.Deep.QuietTactic
import Derived.BigQuiet
import Derived.Test.YtabfjecegpaoaaaGreatDoorProg
import Derived.WalkSpells
import Derived.WalkLawsBesides
import Derived.IntWalk
import Derived.Lib.Hide
import Derived.Laws.BitsAllLaws
import Derived.StillTailTactics
import Derived.Deep.OwnRows
import Derived.Lib.ConvBytes
import Derived.Below
import Derived.RangeFuncNested
import Derived.RangeFuncCalls
import Derived.RangeFuncLeaves
import Derived.Shelf.Abstract
import Derived.Lib.LaidIn
import Derived.RegionTactic
import Derived.KernelRfl
import Derived.OrdersIn
import Derived.Shelf.Strings.Builder1
import Derived.Shelf.Strings.Builder2
import Derived.Shelf.Strings.Trim
import Derived.Shelf.Small.Utf8
import Derived.Shelf.Small.Bits
import Derived.Shelf.Small.Strs
import Derived.Shelf.Strings.BuilderF
import Derived.Shelf.Strings.BuilderK
import Derived.Shelf.Strings.Builder2Cap
import Derived.Shelf.Strconv.Atoi
import Derived.Shelf.Strconv.Itoa0
import Derived.Shelf.Strconv.Itoa1
import Derived.Shelf.LaysM
import Derived.Shelf.Strconv.Itoa2
import Derived.Shelf.Strconv.Itoa3
import Derived.Shelf.Strconv.AtoiErrFast
import Derived.Shelf.Strconv.ParseIntEmpty
import Derived.Shelf.Strconv.AtoiFail
import Derived.Shelf.Strconv.Clone
import Derived.Shelf.Strconv.SyntaxError
import Derived.Shelf.LaysC
import Derived.Shelf.Strconv.ToError
import Derived.Shelf.Strconv.Lower
import Derived.Shelf.Strconv.ParseUint10
import Derived.Shelf.Strconv.ParseUint10Empty
import Derived.Shelf.Strconv.ParseUint10Any
import Derived.Shelf.Strconv.ParseInt10
import Derived.Shelf.Strconv.AtoiLong
import Derived.Shelf.Strconv.AtoiInnerAll
import Derived.Shelf.Strconv.RangeError
import Derived.Shelf.Strconv.ToErrorRange
import Derived.Shelf.Strconv.AtoiAll
import Derived.Shelf.Strconv.ErrVarAll
import Derived.Shelf.Strconv.ParseUintEmpty
import Derived.Shelf.Strconv.ParseUint10b64
import Derived.Shelf.Strconv.ParseUint10b32
import Derived.Shelf.Strconv.ParseUint10b16
import Derived.Shelf.Strconv.ParseUint10b8
import Derived.Shelf.Strconv.ParseUint10At
import Derived.Shelf.Strconv.ParseInt10At64
import Derived.Shelf.Strconv.ParseInt10At32
import Derived.Shelf.Strconv.ParseInt10At16
import Derived.Shelf.Strconv.ParseInt10At8
import Derived.Shelf.Strconv.ParseInt10All
import Derived.Shelf.Strings.Search1
import Derived.Shelf.GgClosure.StringsIndexFunc
import Derived.Ground.GgwProg
import Derived.Shelf.GgClosure.StringsIndexFuncTop
import Derived.Shelf.GgClosure.StringsRunes
import Derived.Shelf.Strings.Prefix
import Derived.Shelf.Unicode.Decode
import Derived.Shelf.Strings.Runes
import Derived.Shelf.Strings.AsciiSet
import Derived.Shelf.Bits.Mul64
import Derived.Shelf.Strings.Repeat
import Derived.Shelf.Unicode.DecodeSlow
import Derived.Shelf.Unicode.DecodeAny
import Derived.Shelf.Strings.FuncGrows
import Derived.Shelf.Strings.BuilderCap
import Derived.Lib.IndexMore
import Derived.Test.YtabfjecegpaoaaaGreatDoorZc7
import Derived.Test.YtabfjecegpaoaaaGreatDoorZc6
import Derived.Test.YtabfjecegpaoaaaGreatDoorK4a7
import Derived.Test.YtabfjecegpaoaaaGreatDoorK4b0
import Derived.Test.YtabfjecegpaoaaaGreatDoorZb2
import Derived.Test.YtabfjecegpaoaaaGreatDoorZb1
import Derived.Test.YtabfjecegpaoaaaGreatDoorZa6
import Derived.Test.YtabfjecegpaoaaaGreatDoorZa5
import Derived.Test.YtabfjecegpaoaaaGreatDoorZa4
import Derived.Test.YtabfjecegpaoaaaGreatDoorZa3
import Derived.Test.YtabfjecegpaoaaaGreatDoorZa0
import Derived.Test.YtabfjecegpaoaaaGreatDoorZa1
import Derived.Test.YtabfjecegpaoaaaGreatDoorZa2
import Derived.Test.YtabfjecegpaoaaaGreatDoorK4a2
import Derived.Test.YtabfjecegpaoaaaGreatDoorZb5
import Derived.Test.YtabfjecegpaoaaaGreatDoorZc4
import Derived.Test.YtabfjecegpaoaaaGreatDoorK4a5
import Derived.Test.YtabfjecegpaoaaaGreatDoorZc5
import Derived.Test.YtabfjecegpaoaaaGreatDoorK4a1
import Derived.Test.YtabfjecegpaoaaaGreatDoorZb0
import Derived.Test.YtabfjecegpaoaaaGreatDoorZb6
import Derived.Test.YtabfjecegpaoaaaGreatDoorZb8
import Derived.Test.YtabfjecegpaoaaaGreatDoorK4a9
set_option maxHeartbeats 16000000
set_option linter.unusedVariables false
namespace Go.Proofs.YtabfjecegpaoaaaGreatDoor.moneyRaw
open Go.RowKit Go.Shelf
open Dgt
def cutB (s:ByteArray):ByteArray:=s.extract 0 (min s.size 60)
theorem cutB_size (s:ByteArray):(cutB s).size≤60:=by unfold cutB;rw [ByteArray.size_extract];omega
set_option maxRecDepth 100000 in
theorem cut_any (na:Bool) (sa da:ByteArray)  (wq:World) :
  Gv 18 #[.agg #[.bool na,.string sa,.string da]] wq (.agg #[.bool na,.string (cutB sa),.string (cutB da)]):=by
 unfold Gv;have hk0:min (sa.size:Int) 60=((min sa.size 60:Nat):Int):=by omega
 have hk1:min (da.size:Int) 60=((min da.size 60:Nat):Int):=by omega
 have lk0:(0:Int)≤((min sa.size 60:Nat):Int)∧((min sa.size 60:Nat):Int)≤(sa.size:Int):=by omega
 have lk1:(0:Int)≤((min da.size 60:Nat):Int)∧((min da.size 60:Nat):Int)≤(da.size:Int):=by omega
 unfold cutB;obtain ⟨k0,h0⟩:∃k,min sa.size 60=k:=⟨_,rfl⟩;obtain ⟨k1,h1⟩:∃k,min da.size 60=k:=⟨_,rfl⟩;rw [h0] at hk0 lk0 ⊢;rw [h1] at hk1 lk1 ⊢;obtain ⟨ca,hca⟩:∃c,sa.extract 0 k0=c:=⟨_,rfl⟩;obtain ⟨cd,hcd⟩:∃c,da.extract 0 k1=c:=⟨_,rfl⟩;rw [hca,hcd];have PK0:=hD (And.intro hk0 (And.intro hca lk0));have PK1:=hD (And.intro hk1 (And.intro hcd lk1));clear h0 h1 hk0 hk1 lk0 lk1 hca hcd;have HB:=hD (Below.refl wq.heap.size wq);obtain ⟨n0,hn0⟩:∃n,n=wq.heap.size:=⟨_,rfl⟩;rw [←hn0];have HN0:=hD hn0;clear hn0;go_enter Tryz.func18,Tryz.ntmps18;obtain ⟨W1,bk1,hW1,hbk1,HX1_1,HB,HG1_1,hup⟩:=boxS HB HN0 na sa da;clear hup;obtain ⟨W2,bk2,hW2,hbk2,HX2_2,HB,HG2_2,hup⟩:=boxZ HB HN0;have HL2_2:=(hup _ _ HX1_1).2;have HX1_1:=(hup _ _ HX1_1).1;clear hup;obtain ⟨hk0,hc0,lk0⟩:=PK0.out;obtain ⟨hk1,hc1,lk1⟩:=PK1.out;have k3:W2.cell? ⟨bk1,1,none⟩=some (.string sa):=by rw [Lib.cell_of_heap HX1_1.out];rfl
 have k4:W2.cell? ⟨bk1,1,none⟩=some (.string sa):=by rw [Lib.cell_of_heap HX1_1.out];rfl
 have f5:W2.frozen? ⟨bk1,1,none⟩=false:=frz0 HX1_1.out 1;have k6:W2.cell? ⟨bk1,1,none⟩=some (.string sa):=by rw [Lib.cell_of_heap HX1_1.out];rfl
 have hB:=(HB.out.setCell (p:=⟨bk1,1,none⟩) (by rw [←HN0.out];exact HG1_1.out) (.string ca));have hN:(W2.setCell ⟨bk1,1,none⟩ (.string ca)).heap[bk1]? =some (.cells #[.bool na,.string ca,.string da] 26 (0,0)):=by simp [World.setCell,Array.getElem?_modify,HX1_1.out]
 have hx2_2:(W2.setCell ⟨bk1,1,none⟩ (.string ca)).heap[bk2]? =_:=(row_else HX2_2.out (ne1 HL2_2) _);have HX2_2:=hD hx2_2;clear hx2_2;obtain ⟨W3,hW3⟩:∃W,(W2.setCell ⟨bk1,1,none⟩ (.string ca))=W:=⟨_,rfl⟩;rw [hW3] at hN hB HX2_2;have HX1_1:=hD hN;have HB:=hD hB;clear hN hB;have k7:W3.cell? ⟨bk1,2,none⟩=some (.string da):=by rw [Lib.cell_of_heap HX1_1.out];rfl
 have k8:W3.cell? ⟨bk1,2,none⟩=some (.string da):=by rw [Lib.cell_of_heap HX1_1.out];rfl
 have f9:W3.frozen? ⟨bk1,2,none⟩=false:=frz0 HX1_1.out 2;have k10:W3.cell? ⟨bk1,2,none⟩=some (.string da):=by rw [Lib.cell_of_heap HX1_1.out];rfl
 have hB:=(HB.out.setCell (p:=⟨bk1,2,none⟩) (by rw [←HN0.out];exact HG1_1.out) (.string cd));have hN:(W3.setCell ⟨bk1,2,none⟩ (.string cd)).heap[bk1]? =some (.cells #[.bool na,.string ca,.string cd] 26 (0,0)):=by simp [World.setCell,Array.getElem?_modify,HX1_1.out]
 have hx2_2:(W3.setCell ⟨bk1,2,none⟩ (.string cd)).heap[bk2]? =_:=(row_else HX2_2.out (ne1 HL2_2) _);have HX2_2:=hD hx2_2;clear hx2_2;obtain ⟨W4,hW4⟩:∃W,(W3.setCell ⟨bk1,2,none⟩ (.string cd))=W:=⟨_,rfl⟩;rw [hW4] at hN hB HX2_2;have HX1_1:=hD hN;have HB:=hD hB;clear hN hB;obtain ⟨k11a,k11b,k11c⟩:=c3 HX1_1;obtain ⟨W5,hW5,HX2_2,HB,ho,f12a,f12b,f12c,k12a,k12b,k12c⟩:=put3 HX2_2 HB HN0 HG2_2 (.bool na) (.string ca) (.string cd);have HX1_1:=ho _ _ (en1 HL2_2) HX1_1;clear ho;go_wp2_with fail;clear hW1 hbk1 hW2 hbk2 hk0 hc0 lk0 hk1 hc1 lk1 k3 k4 f5 k6 hW3 k7 k8 f9 k10 hW4 k11a k11b k11c f12a f12b f12c k12a k12b k12c hW5;refine bodyPost_ret (rC1 HX2_2.out) rfl ?_;exact ⟨rfl,by rw [HN0.out];exact HB.out⟩
def Ewalk_13_1 (na:Bool) (nb:Bool) (ok:Bool) (half:Bool) (ca:ByteArray) (ea:ByteArray) (cb:ByteArray) (eb:ByteArray) (c:Int) (t:Rt) (vp:Value) (vq:Value) (bk5:Nat):Nat→Value
 | 0=>.bool true
 | 1=>.bool true
 | 2=>.agg #[.bool na,.string ca,.string ea]
 | 3=>.agg #[.bool nb,.string cb,.string eb]
 | 4=>.bool true
 | 5=>.bool true
 | 6=>.bool true
 | 7=>vp
 | 8=>vq
 | 9=>.bool true
 | 10=>.bool true
 | 11=>.bool true
 | 12=>.bool ok
 | 13=>.bool ok
 | 14=>.bool true
 | 15=>.bool true
 | 16=>.bool true
 | 17=>.bool half
 | 18=>.bool half
 | 19=>.bool true
 | 20=>.bool true
 | 21=>.bool true
 | 22=>.pointer (some ⟨bk5,0,none⟩)
 | 23=>.int .i64 c
 | 24=>.agg #[.bool t.neg,.string (encS t.num),.string (encS t.den)]
 | 25=>.pointer (some ⟨bk5,0,none⟩)
 | 26=>.int .i64 c
 | 27=>.agg #[.bool t.neg,.string (encS t.num),.string (encS t.den)]
 | 28=>.bool true
 | 29=>.bool true
 | 30=>.bool true
 | _=>undef
set_option maxRecDepth 100000 in
theorem walk (na:Bool) (sa da:ByteArray) (nb:Bool) (sb db:ByteArray) (c:Int) (v2:Value) (rc:inJ c) (wq:World) (hv:ArgR wq v2) (htab:Lib.TabIs Tryz.prog wq "internal/strconv.uint64pow10" .u64 Lib.pow10Tab) :
  Gv 4 #[.agg #[.bool na,.string sa,.string da],.agg #[.bool nb,.string sb,.string db],.agg #[.int .i64 c,v2]] wq (.bool true):=by
 unfold Gv;have HT:=hD (Lib.tabBelow_of_tabIs htab);clear htab;have C1:Hid (∀w,Below wq.heap.size wq w→Gv 11 #[] w (.bool true)):=hD fun w hp0=>sanity_any w (HT.out.on hp0).here
 obtain ⟨p,len,cap,rfl,hlen,hcell⟩:=hv;have HC:=hD hcell;have HLEN:=hD hlen;have HRC:=hD rc;clear hcell hlen rc;have mca:=fun w=>cut_any na sa da w;have zca:=cutB_size sa;have zea:=cutB_size da
 obtain ⟨ca,hca⟩:∃s,cutB sa=s:=⟨_,rfl⟩;obtain ⟨ea,hea⟩:∃s,cutB da=s:=⟨_,rfl⟩;rw [hca] at mca zca;rw [hea] at mca zea;have HZca:=hD (And.intro zca zea);have C2:Hid (∀w,Gv 18 #[.agg #[.bool na,.string sa,.string da]] w (.agg #[.bool na,.string ca,.string ea])):=hD mca;clear mca zca zea hca hea;have mcb:=fun w=>cut_any nb sb db w;have zcb:=cutB_size sb;have zeb:=cutB_size db
 obtain ⟨cb,hcb⟩:∃s,cutB sb=s:=⟨_,rfl⟩;obtain ⟨eb,heb⟩:∃s,cutB db=s:=⟨_,rfl⟩;rw [hcb] at mcb zcb;rw [heb] at mcb zeb;have HZcb:=hD (And.intro zcb zeb);have C3:Hid (∀w,Gv 18 #[.agg #[.bool nb,.string sb,.string db]] w (.agg #[.bool nb,.string cb,.string eb])):=hD mcb;clear mcb zcb zeb hcb heb;have HB:=hD (Below.refl wq.heap.size wq);obtain ⟨n0,hn0⟩:∃n,n=wq.heap.size:=⟨_,rfl⟩;rw [←hn0];have HN0:=hD hn0;clear hn0;go_enter Tryz.func4,Tryz.ntmps4;obtain ⟨W1,bk3,hW1,hbk3,HX3_1,HB,HG3_1,hup⟩:=boxS HB HN0 na sa da;clear hup;obtain ⟨W2,bk4,hW2,hbk4,HX4_2,HB,HG4_2,hup⟩:=boxS HB HN0 nb sb db;have HL4_2:=(hup _ _ HX3_1).2;have HX3_1:=(hup _ _ HX3_1).1;clear hup;obtain ⟨W3,bk5,hW3,hbk5,HX5_3,HB,HG5_3,hup⟩:=boxn HB HN0 (.cells #[.int .i64 c,.slice p len cap] 34);have HL5_3:=(hup _ _ HX4_2).2;have HX3_1:=(hup _ _ HX3_1).1;have HX4_2:=(hup _ _ HX4_2).1;clear hup;go_wp2_with fail
 clear hW1 hbk3 hW2 hbk4 hW3 hbk5;refine (C1.out _ HB.out).mono ?_;rintro e w4 ⟨rfl,hb⟩;have HX3_1:=uH hb HX3_1;have HX4_2:=uH hb HX4_2;have HX5_3:=uH hb HX5_3;have HB:=mH HB hb;clear hb;obtain ⟨k4a,k4b,k4c⟩:=c3 HX3_1;go_wp2_with fail;clear k4a k4b k4c;refine (C2.out _).mono ?_;rintro e w5 ⟨rfl,hb⟩;have HX3_1:=uH hb HX3_1;have HX4_2:=uH hb HX4_2;have HX5_3:=uH hb HX5_3;have HB:=mH HB hb;clear hb;obtain ⟨W6,hW6,HX3_1,HB,ho,f5a,f5b,f5c,k5a,k5b,k5c⟩:=put3 HX3_1 HB HN0 HG3_1 (.bool na) (.string ca) (.string ea);have HX4_2:=ho _ _ (ne1 HL4_2) HX4_2;have HX5_3:=ho _ _ (ne2 HL4_2 HL5_3) HX5_3;clear ho;obtain ⟨k6a,k6b,k6c⟩:=c3 HX4_2;go_wp2_with fail;clear f5a f5b f5c k5a k5b k5c hW6 k6a k6b k6c;refine (C3.out _).mono ?_;rintro e w7 ⟨rfl,hb⟩;have HX3_1:=uH hb HX3_1;have HX4_2:=uH hb HX4_2;have HX5_3:=uH hb HX5_3;have HB:=mH HB hb;clear hb
 obtain ⟨W8,hW8,HX4_2,HB,ho,f7a,f7b,f7c,k7a,k7b,k7c⟩:=put3 HX4_2 HB HN0 HG4_2 (.bool nb) (.string cb) (.string eb);have HX3_1:=ho _ _ (en1 HL4_2) HX3_1;have HX5_3:=ho _ _ (ne1 HL5_3) HX5_3;clear ho
 go_upto_block 0 with fail
 clear f7a f7b f7c k7a k7b k7c hW8;have HC2:=hD (show ∀i,i<len→∃g off x y z,p=some ⟨g,off,none⟩∧g<wq.heap.size∧wq.cell? ⟨g,off+i*3,none⟩=some (.bool x)∧wq.cell? ⟨g,off+i*3+1,none⟩=some (.string y)∧wq.cell? ⟨g,off+i*3+2,none⟩=some (.string z) from fun i hi=>by obtain ⟨g,off,x,y,z,k1,k2,k3,k4,k5,k6,k7⟩:=HC.out i hi;exact ⟨g,off,x,y,z,k1,k2,k5,k6,k7⟩);clear HC;have HC:=hD (show ∀i,i<len→∃g off x y z,p=some ⟨g,off,none⟩∧g<W8.heap.size∧W8.cell? ⟨g,off+i*3,none⟩=some (.bool x)∧W8.cell? ⟨g,off+i*3+1,none⟩=some (.string y)∧W8.cell? ⟨g,off+i*3+2,none⟩=some (.string z) from fun i hi=>by obtain ⟨g,off,x,y,z,k1,k2,k5,k6,k7⟩:=HC2.out i hi;exact ⟨g,off,x,y,z,k1,Nat.lt_of_lt_of_le k2 HB.out.size,by rw [clU HB.out k2];exact k5,by rw [clU HB.out k2];exact k6,by rw [clU HB.out k2];exact k7⟩);clear HC2
 have HBQ1:=hD HB.out;have HNP1:=hD HN0.out;have HT1:=hD (Lib.tabBelow_of_tabIs (HT.out.on HB.out).here);clear HB HN0 HT;obtain ⟨wp1,rfl⟩:∃w,w=wq:=⟨_,rfl⟩;obtain ⟨np1,rfl⟩:∃w,w=n0:=⟨_,rfl⟩;obtain ⟨wq,rfl⟩:∃w,w=W8:=⟨_,rfl⟩;have HB:=hD (Below.refl wq.heap.size wq);obtain ⟨n0,hn0⟩:∃n,n=wq.heap.size:=⟨_,rfl⟩;have HN0:=hD hn0;clear hn0;have HT:=HT1;clear HT1
 go_cut [8,9] (fun vo vi wx=>∃l:List Rw,Hid (LstR wx vo l)∧Hid (SzL l 60)∧l.length≤6∧Hid (Below wq.heap.size wq wx))
 case first =>
  obtain ⟨i0,hi,hz0,hz1,hz2⟩:=info_partsN infoRat;go_wp2_with fail
  go_loopw [8,9] (fun vo i wr=>∃(k:Nat) (l:List Rw),k≤len∧k≤6∧i=.int .i64 (k:Int)∧Hid (wr.ownsRow wq.heap.size 26 3 vo l.length (cells3 l))∧l.length≤k∧Hid (SzL l 60)∧Hid (Below wq.heap.size wq wr)) (fun _ i _=>6-(intOf i).toNat)
  case atStart=>exact ⟨0,[],by omega,by omega,rfl,hD (World.ownsRow_nil _ _ _ _),by simp,hD (fun r h=>by cases h),HB⟩
  case round =>
   obtain ⟨k,l,hk,hk6,rfl,HO,hlk,HP,HBW⟩:=hrel;have HX3_1:=uH HBW.out HX3_1;have HX4_2:=uH HBW.out HX4_2;have HX5_3:=uH HBW.out HX5_3;have q5:wr.cell? ⟨bk5,1,none⟩=some (.slice p len cap):=by rw [Lib.cell_of_heap HX5_3.out];rfl
   by_cases hlt:k<len
   ·have hlt' :(k:Int)<(len:Int):=by omega
    by_cases h6:k<6
    ·have h6' :(k:Int)<6:=by omega
     obtain ⟨g,off,x,y,z,rfl,hg,h1,h2,h3⟩:=HC.out k hlt;have d1:wr.cell? ⟨g,off+k*3,none⟩=some (.bool x):=by rw [clU HBW.out hg];exact h1
     have d2:wr.cell? ⟨g,off+k*3+1,none⟩=some (.string y):=by rw [clU HBW.out hg];exact h2
     have d3:wr.cell? ⟨g,off+k*3+2,none⟩=some (.string z):=by rw [clU HBW.out hg];exact h3
     have HKK:=hD (And.intro hlt (And.intro h6 hlk));clear h1 h2 h3 HB HN0;have HB:=hD (Below.refl wr.heap.size wr);obtain ⟨n0,hn0⟩:∃n,n=wr.heap.size:=⟨_,rfl⟩;have HN0:=hD hn0;clear hn0;have mcy:=fun w=>cut_any x y z w;have zcy:=cutB_size y;have zcz:=cutB_size z
     obtain ⟨cy,hcy⟩:∃s,cutB y=s:=⟨_,rfl⟩;obtain ⟨cz,hcz⟩:∃s,cutB z=s:=⟨_,rfl⟩;rw [hcy] at mcy zcy;rw [hcz] at mcy zcz;have HZcy:=hD (And.intro zcy zcz);have C4:Hid (∀w,Gv 18 #[.agg #[.bool x,.string y,.string z]] w (.agg #[.bool x,.string cy,.string cz])):=hD mcy;clear mcy zcy zcz hcy hcz;have k8:wr.cell? ⟨bk5,1,none⟩=some (.slice (some ⟨g,off,none⟩) len cap):=by rw [Lib.cell_of_heap HX5_3.out];rfl
     go_wp2_with fail;clear d1 d2 d3 q5 k8;refine (C4.out _).mono ?_;rintro e w9 ⟨rfl,hb⟩;have HX3_1:=uH hb HX3_1;have HX4_2:=uH hb HX4_2;have HX5_3:=uH hb HX5_3;have HB:=mH HB hb;clear hb;have HB1:=hD (HBW.out.trans (HB.out.mono HBW.out.size));have HO1:=hD (own_up HO.out HB.out);have hkl:=HKK.out.2.2;have hk5:=HKK.out.2.1;have hkn:=HKK.out.1;go_wp2_with (first|(at_builtin;refine wpList_append_own _ rfl _ _ 32 rfl wq.heap.size 26 i0 (.agg #[.bool false,.string ⟨#[]⟩,.string ⟨#[]⟩]) 3 40 Tryz.underlying32 hi hz0 hz1 hz2 rfl (by decide) _ _ _ rfl (HO1.out.alloc _) ⟨w9.heap.size,0,none⟩ 1 1 [.bool x,.string cy,.string cz] rfl rfl (cell_fresh3 w9 _ _ _ _) (cells3_one [(⟨x,cy,cz⟩:Rw)]) (by unfold maxLen;omega) (by omega) (by have:=HB1.out.size;simp;omega) ?_;intro v' w2 hown' hgrow hnn;have HO2:=hD hown';have HG:=hD hgrow;clear hown' hgrow hnn)|fail)
     go_roundw
     case rel=>exact ⟨k+1,l++[(⟨x,cy,cz⟩:Rw)],by omega,by omega,by go_num,hD (by rw [cells3_append,List.length_append];exact HO2.out),by simp;omega,hD (fun s hs=>by
         rcases List.mem_append.1 hs with h|h
         ·exact HP.out s h
         ·rw [List.mem_singleton.1 h];exact HZcy.out),hD (below_own (HB1.out.alloc HB1.out.size _) (HO1.out.alloc _) HG.out (Nat.le_refl _))⟩
     case measure=>simp [intOf];omega
    ·have h6' :¬(k:Int)<6:=by omega
     have HLR:Hid (∀v',wr.ownsRow wq.heap.size 26 3 v' l.length (cells3 l)→LstR wr v' l):=hD fun v' h=>own_lstR h (by omega)
     go_wp2_with fail
     go_meet
     exact ⟨l,hD (HLR.out _ HO.out),HP,by omega,HBW⟩
   ·have hge:(len:Int)≤(k:Int):=by omega
    have HLR:Hid (∀v',wr.ownsRow wq.heap.size 26 3 v' l.length (cells3 l)→LstR wr v' l):=hD fun v' h=>own_lstR h (by omega)
    go_wp2_with fail
    go_meet
    exact ⟨l,hD (HLR.out _ HO.out),HP,by omega,HBW⟩
 case rest =>
  obtain ⟨l,HL,HSZ,hl6,HBC⟩:=hcut;clear HB;have HB:=HBC;clear HBC;have HX3_1:=uH HB.out HX3_1;have HX4_2:=uH HB.out HX4_2;have HX5_3:=uH HB.out HX5_3;have HLL:=hD hl6;have c1:=fun w=>MoOf_any c HRC.out.1 HRC.out.2 w;have c2:=fun w=>rOfC_any c HRC.out.1 HRC.out.2 w
  have hz:=encS_size_lt (ofC_sz HRC.out.1 HRC.out.2).1;have hz2:=encS_size_lt (ofC_sz HRC.out.1 HRC.out.2).2;obtain ⟨t,ht⟩:∃t,ofC c=t:=⟨_,rfl⟩;rw [ht] at c1 c2 hz hz2;obtain ⟨ok,G,HBO⟩:=Split_both t.neg (encS t.num) (encS t.den) l (by omega) (by omega) (fun r hr=>⟨Nat.le_trans (HSZ.out r hr).1 (by decide),Nat.le_trans (HSZ.out r hr).2 (by decide)⟩) (by omega);obtain ⟨half,G2,HBO2⟩:=Split_both na ca ea [⟨nb,cb,eb⟩] (by have:=HZca.out.1;omega) (by have:=HZca.out.2;omega) (fun r hr=>by rw [List.mem_singleton.1 hr];exact ⟨Nat.le_trans HZcb.out.1 (by decide),Nat.le_trans HZcb.out.2 (by decide)⟩) (by simp);have HM:=hD HBO.1;have HR:=hD HBO.2;have HM2:=hD HBO2.1;have HR2:=hD HBO2.2;have C4:Hid (∀w,Gv 20 #[.int .i64 c] w (.agg #[.bool t.neg,.string (encS t.num),.string (encS t.den)])):=hD c1
  have C5:Hid (∀w,Gv 14 #[.int .i64 c] w (.agg #[.bool t.neg,.string (encS t.num),.string (encS t.den)])):=hD c2;clear c1 c2 hz hz2 ht HBO HBO2 hl6 HSZ HLL;have k9:wc.cell? ⟨bk5,0,none⟩=some (.int .i64 c):=by rw [Lib.cell_of_heap HX5_3.out];rfl
  go_wp2_with fail;clear k9;refine (C4.out _).mono ?_;rintro e w10 ⟨rfl,hb⟩;have HX3_1:=uH hb HX3_1;have HX4_2:=uH hb HX4_2;have HX5_3:=uH hb HX5_3;have HB:=mH HB hb;have HL:=hD (HL.out.up hb);clear hb;go_wp2_with fail;refine (HM.out _ _ HL.out).mono ?_;rintro e w11 ⟨vp,P,rfl,hvp,hP,hb⟩;have HX3_1:=uH hb HX3_1;have HX4_2:=uH hb HX4_2;have HX5_3:=uH hb HX5_3;have HB:=mH HB hb;have HL:=hD (HL.out.up hb);have HVP:=hD hvp;have HGP:=hD hP;clear hb hvp hP;have k10:w11.cell? ⟨bk5,0,none⟩=some (.int .i64 c):=by rw [Lib.cell_of_heap HX5_3.out];rfl
  go_wp2_with fail;clear k10;refine (C5.out _).mono ?_;rintro e w12 ⟨rfl,hb⟩;have HX3_1:=uH hb HX3_1;have HX4_2:=uH hb HX4_2;have HX5_3:=uH hb HX5_3;have HB:=mH HB hb;have HL:=hD (HL.out.up hb);have HVP:=hD (HVP.out.up hb);clear hb;go_wp2_with fail;refine (HR.out P HGP.out _ _ HL.out).mono ?_;rintro e w13 ⟨vq,rfl,hvq,hb⟩;have HX3_1:=uH hb HX3_1;have HX4_2:=uH hb HX4_2;have HX5_3:=uH hb HX5_3;have HB:=mH HB hb;have HL:=hD (HL.out.up hb);have HVP:=hD (HVP.out.up hb);have HVQ:=hD hvq;clear hb hvq;clear HL;have HBQ2:=hD HB.out;have HNP2:=hD HN0.out;have HT2:=hD (Lib.tabBelow_of_tabIs (HT.out.on HB.out).here);clear HB HN0 HT;obtain ⟨wp2,rfl⟩:∃w,w=wq:=⟨_,rfl⟩;obtain ⟨np2,rfl⟩:∃w,w=n0:=⟨_,rfl⟩;obtain ⟨wq,rfl⟩:∃w,w=w13:=⟨_,rfl⟩;have HB:=hD (Below.refl wq.heap.size wq);obtain ⟨n0,hn0⟩:∃n,n=wq.heap.size:=⟨_,rfl⟩;have HN0:=hD hn0;clear hn0;have HT:=HT2;clear HT2;obtain ⟨k11a,k11b,k11c⟩:=c3 HX3_1
  obtain ⟨k12a,k12b,k12c⟩:=c3 HX4_2;obtain ⟨W14,bk62,hW14,hbk62,HX62_13,HB,HG62_13,hup⟩:=boxS HB HN0 nb cb eb;have HL62_13:=(hup _ _ HX5_3).2;have HX3_1:=(hup _ _ HX3_1).1;have HX4_2:=(hup _ _ HX4_2).1;have HX5_3:=(hup _ _ HX5_3).1;clear hup;have HLS:=hD (lit_lstR (l:=[⟨nb,cb,eb⟩]) (cap:=1) HX62_13.out (by simp) rfl);go_wp2_with fail;clear k11a k11b k11c k12a k12b k12c hW14 hbk62;refine (HM2.out _ _ HLS.out).mono ?_;rintro e w15 ⟨vp2,P2,rfl,hvp,hP,hb⟩;have HX3_1:=uH hb HX3_1;have HX4_2:=uH hb HX4_2;have HX5_3:=uH hb HX5_3;have HX62_13:=uH hb HX62_13;have HB:=mH HB hb;have HGP2:=hD hP;clear hb hvp hP;clear HLS;obtain ⟨k14a,k14b,k14c⟩:=c3 HX3_1;obtain ⟨k15a,k15b,k15c⟩:=c3 HX4_2;obtain ⟨W16,bk69,hW16,hbk69,HX69_16,HB,HG69_16,hup⟩:=boxS HB HN0 nb cb eb;have HL69_16:=(hup _ _ HX62_13).2;have HX3_1:=(hup _ _ HX3_1).1;have HX4_2:=(hup _ _ HX4_2).1;have HX5_3:=(hup _ _ HX5_3).1
  have HX62_13:=(hup _ _ HX62_13).1;clear hup;have HLS:=hD (lit_lstR (l:=[⟨nb,cb,eb⟩]) (cap:=1) HX69_16.out (by simp) rfl);go_wp2_with fail;clear k14a k14b k14c k15a k15b k15c hW16 hbk69;refine (HR2.out P2 HGP2.out _ _ HLS.out).mono ?_;rintro e w17 ⟨vq2,rfl,hvq,hb⟩;have HX3_1:=uH hb HX3_1;have HX4_2:=uH hb HX4_2;have HX5_3:=uH hb HX5_3;have HX62_13:=uH hb HX62_13;have HX69_16:=uH hb HX69_16;have HB:=mH HB hb;clear hb hvq;clear HLS;have C6:Hid (∀w,Below wq.heap.size wq w→Gv 15 #[.agg #[.bool na,.string ca,.string ea],.agg #[.bool nb,.string cb,.string eb]] w (.bool true)):=hD fun w hp0=>rounds_any na ca ea nb cb eb (by have:=HZca.out.1;omega) (by have:=HZca.out.2;omega) (by have:=HZcb.out.1;omega) (by have:=HZcb.out.2;omega) w (HT.out.on hp0).here
  have C7:Hid (∀w,Below wq.heap.size wq w→Gv 22 #[vp,vq] w (.bool true)):=hD fun w hp0=>by
   have h:=Same_any P P vp vq w (HVP.out.up hp0) (HVQ.out.up hp0);rw [decide_eq_true (rfl:P=P)] at h;exact h
  go_wp2_with fail;refine wpVl (w:=w17) (by kernel_rfl) (fun ix v _=>v=Ewalk_13_1 na nb ok half ca ea cb eb c t vp vq bk5 ix) (fun t=>(decide (6≤t)&&decide (t<7))||(decide (73≤t)&&decide (t<103))) (by kernel_rfl) (by kernel_rfl) (by kernel_rfl) (fun _ _ _ _ _ h=>h) ?_ ?_
  ·intro i hi ov_ listed av_ w hR K hK;have ho:=hR.at_;have hi:i<31:=hi;have hii:i=0∨i=1∨i=2∨i=3∨i=4∨i=5∨i=6∨i=7∨i=8∨i=9∨i=10∨i=11∨i=12∨i=13∨i=14∨i=15∨i=16∨i=17∨i=18∨i=19∨i=20∨i=21∨i=22∨i=23∨i=24∨i=25∨i=26∨i=27∨i=28∨i=29∨i=30:=by omega
   rcases hii with rfl|rfl|rfl|rfl|rfl|rfl|rfl|rfl|rfl|rfl|rfl|rfl|rfl|rfl|rfl|rfl|rfl|rfl|rfl|rfl|rfl|rfl|rfl|rfl|rfl|rfl|rfl|rfl|rfl|rfl|rfl<;>(simp at ho;subst ho)
   ·have b7:av_.tmps.getD 7 undef=.bool true:=hR.b 7;refine pSq ?_;go_simp;exact hK _ _ rfl rB
   ·have e0:av_.tmps.getD 73 undef=.bool true:=hR.d 0;refine pSq ?_;go_simp;exact hK _ _ rfl rB
   ·have e1:av_.tmps.getD 74 undef=.bool true:=hR.g 1;have b3:av_.tmps.getD 3 undef=.pointer (some ⟨bk3,0,none⟩):=hR.b 3;obtain ⟨cx0,cx1,cx2⟩:=c3 (uH hR.below HX3_1);refine gSq (b:=true) e1 ?_;go_simp;exact hK _ _ rfl rB
   ·have e1:av_.tmps.getD 74 undef=.bool true:=hR.g 1;have b4:av_.tmps.getD 4 undef=.pointer (some ⟨bk4,0,none⟩):=hR.b 4;obtain ⟨cx0,cx1,cx2⟩:=c3 (uH hR.below HX4_2);refine gSq (b:=true) e1 ?_;go_simp;exact hK _ _ rfl rB
   ·have e2:av_.tmps.getD 75 undef=.agg #[.bool na,.string ca,.string ea]:=hR.d 2;have e3:av_.tmps.getD 76 undef=.agg #[.bool nb,.string cb,.string eb]:=hR.d 3;have e1:av_.tmps.getD 74 undef=.bool true:=hR.g 1;refine gSq (b:=true) e1 ?_;go_simp;refine (C6.out w (HB.out.trans (hR.below.mono HB.out.size))).mono ?_;rintro e w' ⟨rfl,hb⟩;exact hK _ _ (rfl) hb
   ·have e1:av_.tmps.getD 74 undef=.bool true:=hR.d 1;have e4:av_.tmps.getD 77 undef=.bool true:=hR.d 4;refine pSq ?_;go_simp;exact hK _ _ rfl rB
   ·have e5:av_.tmps.getD 78 undef=.bool true:=hR.d 5;refine pSq ?_;go_simp;exact hK _ _ rfl rB
   ·have e6:av_.tmps.getD 79 undef=.bool true:=hR.g 6;have b10:av_.tmps.getD 10 undef=vp:=hR.b 10;refine gSq (b:=true) e6 ?_;go_simp;exact hK _ _ rfl rB
   ·have e6:av_.tmps.getD 79 undef=.bool true:=hR.g 6;have b12:av_.tmps.getD 12 undef=vq:=hR.b 12;refine gSq (b:=true) e6 ?_;go_simp;exact hK _ _ rfl rB
   ·have e7:av_.tmps.getD 80 undef=vp:=hR.d 7;have e8:av_.tmps.getD 81 undef=vq:=hR.d 8;have e6:av_.tmps.getD 79 undef=.bool true:=hR.g 6;refine gSq (b:=true) e6 ?_;go_simp;refine (C7.out w (HB.out.trans (hR.below.mono HB.out.size))).mono ?_;rintro e w' ⟨rfl,hb⟩;exact hK _ _ (rfl) hb
   ·have e6:av_.tmps.getD 79 undef=.bool true:=hR.d 6;have e9:av_.tmps.getD 82 undef=.bool true:=hR.d 9;refine pSq ?_;go_simp;exact hK _ _ rfl rB
   ·have e10:av_.tmps.getD 83 undef=.bool true:=hR.d 10;refine pSq ?_;go_simp;exact hK _ _ rfl rB
   ·have e11:av_.tmps.getD 84 undef=.bool true:=hR.g 11;have b11:av_.tmps.getD 11 undef=.bool ok:=hR.b 11;refine gSq (b:=true) e11 ?_;go_simp;exact hK _ _ rfl rB
   ·have e11:av_.tmps.getD 84 undef=.bool true:=hR.g 11;have b13:av_.tmps.getD 13 undef=.bool ok:=hR.b 13;refine gSq (b:=true) e11 ?_;go_simp;exact hK _ _ rfl rB
   ·have e12:av_.tmps.getD 85 undef=.bool ok:=hR.d 12;have e13:av_.tmps.getD 86 undef=.bool ok:=hR.d 13;have e11:av_.tmps.getD 84 undef=.bool true:=hR.g 11;refine gSq (b:=true) e11 ?_;go_simp;exact hK _ _ rfl rB
   ·have e11:av_.tmps.getD 84 undef=.bool true:=hR.d 11;have e14:av_.tmps.getD 87 undef=.bool true:=hR.d 14;refine pSq ?_;go_simp;exact hK _ _ rfl rB
   ·have e15:av_.tmps.getD 88 undef=.bool true:=hR.d 15;refine pSq ?_;go_simp;exact hK _ _ rfl rB
   ·have e16:av_.tmps.getD 89 undef=.bool true:=hR.g 16;have b15:av_.tmps.getD 15 undef=.bool half:=hR.b 15;refine gSq (b:=true) e16 ?_;go_simp;exact hK _ _ rfl rB
   ·have e16:av_.tmps.getD 89 undef=.bool true:=hR.g 16;have b17:av_.tmps.getD 17 undef=.bool half:=hR.b 17;refine gSq (b:=true) e16 ?_;go_simp;exact hK _ _ rfl rB
   ·have e17:av_.tmps.getD 90 undef=.bool half:=hR.d 17;have e18:av_.tmps.getD 91 undef=.bool half:=hR.d 18;have e16:av_.tmps.getD 89 undef=.bool true:=hR.g 16;refine gSq (b:=true) e16 ?_;go_simp;exact hK _ _ rfl rB
   ·have e16:av_.tmps.getD 89 undef=.bool true:=hR.d 16;have e19:av_.tmps.getD 92 undef=.bool true:=hR.d 19;refine pSq ?_;go_simp;exact hK _ _ rfl rB
   ·have e20:av_.tmps.getD 93 undef=.bool true:=hR.d 20;refine pSq ?_;go_simp;exact hK _ _ rfl rB
   ·have e21:av_.tmps.getD 94 undef=.bool true:=hR.g 21;have b5:av_.tmps.getD 5 undef=.pointer (some ⟨bk5,0,none⟩):=hR.b 5;refine gSq (b:=true) e21 ?_;go_simp;exact hK _ _ rfl rB
   ·have e22:av_.tmps.getD 95 undef=.pointer (some ⟨bk5,0,none⟩):=hR.d 22;have e21:av_.tmps.getD 94 undef=.bool true:=hR.g 21;have cx0:w.cell? ⟨bk5,0,none⟩=some (.int .i64 c):=by rw [Lib.cell_of_heap (hpU hR.below HX5_3.out)];rfl
    refine gSq (b:=true) e21 ?_;go_simp;exact hK _ _ rfl rB
   ·have e23:av_.tmps.getD 96 undef=.int .i64 c:=hR.d 23;have e21:av_.tmps.getD 94 undef=.bool true:=hR.g 21;refine gSq (b:=true) e21 ?_;go_simp;refine (C4.out w).mono ?_;rintro e w' ⟨rfl,hb⟩;exact hK _ _ (rfl) hb
   ·have e21:av_.tmps.getD 94 undef=.bool true:=hR.g 21;have b5:av_.tmps.getD 5 undef=.pointer (some ⟨bk5,0,none⟩):=hR.b 5;refine gSq (b:=true) e21 ?_;go_simp;exact hK _ _ rfl rB
   ·have e25:av_.tmps.getD 98 undef=.pointer (some ⟨bk5,0,none⟩):=hR.d 25;have e21:av_.tmps.getD 94 undef=.bool true:=hR.g 21;have cx0:w.cell? ⟨bk5,0,none⟩=some (.int .i64 c):=by rw [Lib.cell_of_heap (hpU hR.below HX5_3.out)];rfl
    refine gSq (b:=true) e21 ?_;go_simp;exact hK _ _ rfl rB
   ·have e26:av_.tmps.getD 99 undef=.int .i64 c:=hR.d 26;have e21:av_.tmps.getD 94 undef=.bool true:=hR.g 21;refine gSq (b:=true) e21 ?_;go_simp;refine (C5.out w).mono ?_;rintro e w' ⟨rfl,hb⟩;exact hK _ _ (rfl) hb
   ·have e24:av_.tmps.getD 97 undef=.agg #[.bool t.neg,.string (encS t.num),.string (encS t.den)]:=hR.d 24;have e27:av_.tmps.getD 100 undef=.agg #[.bool t.neg,.string (encS t.num),.string (encS t.den)]:=hR.d 27;have e21:av_.tmps.getD 94 undef=.bool true:=hR.g 21;refine gSq (b:=true) e21 ?_;go_simp;exact hK _ _ rfl rB
   ·have e21:av_.tmps.getD 94 undef=.bool true:=hR.d 21;have e28:av_.tmps.getD 101 undef=.bool true:=hR.d 28;refine pSq ?_;go_simp;exact hK _ _ rfl rB
   ·have e29:av_.tmps.getD 102 undef=.bool true:=hR.d 29;refine pSq ?_;go_simp;exact hK _ _ rfl rB
  ·intro sv_ w hS hb;have e30:sv_ 6=.bool true:=hS 30 (by decide);simp only [over,ovL,Nat.reduceAdd,Nat.reduceLeDiff,Nat.reduceLT];have HB:=mH HB hb;have HX3_1:=uH hb HX3_1;have HX4_2:=uH hb HX4_2;have HX5_3:=uH hb HX5_3;have HX62_13:=uH hb HX62_13;have HX69_16:=uH hb HX69_16;obtain ⟨w18,hw⟩:∃w8,w8=w:=⟨_,rfl⟩;subst hw;rw [e30];clear hS hb e30;go_wp2_with fail;go_ret;exact ⟨rfl,by rw [HNP1.out];have hX:=HBQ1.out.trans (HBQ2.out.mono HBQ1.out.size);exact hX.trans (HB.out.mono hX.size)⟩
end Go.Proofs.YtabfjecegpaoaaaGreatDoor.moneyRaw
