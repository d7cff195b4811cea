/- MoneySplits: for every input the law returns true, and each argument reads afterwards as it read before; the listed tables read as the program lays them (the tied card). -/
import Derived.WalkKit
import Derived.Deep.LoopGhost
import Derived.Deep.QuietTactic
import Derived.BigQuiet
import Derived.Test.YtabfjecegpaoaaaGreatDoorProg
import Derived.WalkSpells
import Derived.WalkLawsBesides
import Derived.IntWalk
import Derived.Lib.Hide
import Derived.Laws.BitsAllLaws
import Derived.StillTailTactics
import Derived.Deep.OwnRows
import Derived.Lib.ConvBytes
import Derived.Below
import Derived.RangeFuncNested
import Derived.RangeFuncCalls
import Derived.RangeFuncLeaves
import Derived.Shelf.Abstract
import Derived.Lib.LaidIn
import Derived.RegionTactic
import Derived.KernelRfl
import Derived.OrdersIn
import Derived.Shelf.Strings.Builder1
import Derived.Shelf.Strings.Builder2
import Derived.Shelf.Strings.Trim
import Derived.Shelf.Small.Utf8
import Derived.Shelf.Small.Bits
import Derived.Shelf.Small.Strs
import Derived.Shelf.Strings.BuilderF
import Derived.Shelf.Strings.BuilderK
import Derived.Shelf.Strings.Builder2Cap
import Derived.Shelf.Strconv.Atoi
import Derived.Shelf.Strconv.Itoa0
import Derived.Shelf.Strconv.Itoa1
import Derived.Shelf.LaysM
import Derived.Shelf.Strconv.Itoa2
import Derived.Shelf.Strconv.Itoa3
import Derived.Shelf.Strconv.AtoiErrFast
import Derived.Shelf.Strconv.ParseIntEmpty
import Derived.Shelf.Strconv.AtoiFail
import Derived.Shelf.Strconv.Clone
import Derived.Shelf.Strconv.SyntaxError
import Derived.Shelf.LaysC
import Derived.Shelf.Strconv.ToError
import Derived.Shelf.Strconv.Lower
import Derived.Shelf.Strconv.ParseUint10
import Derived.Shelf.Strconv.ParseUint10Empty
import Derived.Shelf.Strconv.ParseUint10Any
import Derived.Shelf.Strconv.ParseInt10
import Derived.Shelf.Strconv.AtoiLong
import Derived.Shelf.Strconv.AtoiInnerAll
import Derived.Shelf.Strconv.RangeError
import Derived.Shelf.Strconv.ToErrorRange
import Derived.Shelf.Strconv.AtoiAll
import Derived.Shelf.Strconv.ErrVarAll
import Derived.Shelf.Strconv.ParseUintEmpty
import Derived.Shelf.Strconv.ParseUint10b64
import Derived.Shelf.Strconv.ParseUint10b32
import Derived.Shelf.Strconv.ParseUint10b16
import Derived.Shelf.Strconv.ParseUint10b8
import Derived.Shelf.Strconv.ParseUint10At
import Derived.Shelf.Strconv.ParseInt10At64
import Derived.Shelf.Strconv.ParseInt10At32
import Derived.Shelf.Strconv.ParseInt10At16
import Derived.Shelf.Strconv.ParseInt10At8
import Derived.Shelf.Strconv.ParseInt10All
import Derived.Shelf.Strings.Search1
import Derived.Shelf.GgClosure.StringsIndexFunc
import Derived.Ground.GgwProg
import Derived.Shelf.GgClosure.StringsIndexFuncTop
import Derived.Shelf.GgClosure.StringsRunes
import Derived.Shelf.Strings.Prefix
import Derived.Shelf.Strings.Runes
import Derived.Shelf.Strings.AsciiSet
import Derived.Shelf.Bits.Mul64
import Derived.Shelf.Strings.Repeat
import Derived.Shelf.Unicode.DecodeSlow
import Derived.Shelf.Unicode.DecodeAny
import Derived.Shelf.Strings.FuncGrows
import Derived.Shelf.Strings.BuilderCap
import Derived.OwnWalkIn
import Derived.TacticsInMore
import Derived.LoopNIn
import Derived.LoopIn
import Derived.Laws.AppendOwnNone
import Derived.RangeFuncKeeps
import Derived.Lib.AtoiAll
import Derived.Lib.UnsafeStr
import Derived.Lib.AppendIntMem
import Derived.Lib.ItoaNum
import Derived.Lib.Itoa
import Derived.Lib.IndexMore
import Derived.Test.YtabfjecegpaoaaaGreatDoorCards
import Derived.Test.YtabfjecegpaoaaaGreatDoorTie
import Derived.ProofKit
import Derived.OpenShut
import Derived.LaidMore
import Derived.Deep.DeepHandedRow
import Derived.Deep.DeepWitnessRowRef
import Derived.Lib.LaidTab
import Derived.Lib.ItoaMem
import Derived.Stop.LaidErr
import Derived.Test.YtabfjecegpaoaaaGreatDoorK9a5
import Derived.Test.YtabfjecegpaoaaaGreatDoorZc2
import Derived.Test.YtabfjecegpaoaaaGreatDoorK9a3
import Derived.Test.YtabfjecegpaoaaaGreatDoorZb6
import Derived.Test.YtabfjecegpaoaaaGreatDoorZb2
import Derived.Test.YtabfjecegpaoaaaGreatDoorZb1
import Derived.Test.YtabfjecegpaoaaaGreatDoorZa6
import Derived.Test.YtabfjecegpaoaaaGreatDoorZa5
import Derived.Test.YtabfjecegpaoaaaGreatDoorZa4
import Derived.Test.YtabfjecegpaoaaaGreatDoorZa3
import Derived.Test.YtabfjecegpaoaaaGreatDoorZa0
import Derived.Test.YtabfjecegpaoaaaGreatDoorZa1
import Derived.Test.YtabfjecegpaoaaaGreatDoorZa2
import Derived.Test.YtabfjecegpaoaaaGreatDoorZc4
import Derived.Test.YtabfjecegpaoaaaGreatDoorZb4
import Derived.Test.YtabfjecegpaoaaaGreatDoorZb3
import Derived.Test.YtabfjecegpaoaaaGreatDoorZb5
import Derived.Test.YtabfjecegpaoaaaGreatDoorZb8
import Derived.Test.YtabfjecegpaoaaaGreatDoorZb7
import Derived.Test.YtabfjecegpaoaaaGreatDoorZc1
import Derived.Test.YtabfjecegpaoaaaGreatDoorZc0
import Derived.Test.YtabfjecegpaoaaaGreatDoorZb9
import Derived.Test.YtabfjecegpaoaaaGreatDoorZa9
import Derived.Test.YtabfjecegpaoaaaGreatDoorZa8
import Derived.Test.YtabfjecegpaoaaaGreatDoorK9a0
import Derived.Test.YtabfjecegpaoaaaGreatDoorK9a7
import Derived.Test.YtabfjecegpaoaaaGreatDoorK9a4
import Derived.Test.YtabfjecegpaoaaaGreatDoorK9a2
import Derived.Test.YtabfjecegpaoaaaGreatDoorZc7
import Derived.Test.YtabfjecegpaoaaaGreatDoorZc6
import Derived.Test.YtabfjecegpaoaaaGreatDoorZc3
import Derived.Test.YtabfjecegpaoaaaGreatDoorZc5
import Derived.Test.YtabfjecegpaoaaaGreatDoorZb0
import Derived.Test.YtabfjecegpaoaaaGreatDoorZc8
set_option maxHeartbeats 16000000
set_option linter.unusedVariables false
namespace Go.Proofs.YtabfjecegpaoaaaGreatDoor
open Go.RowKit Go.Shelf
open Dgt
set_option maxRecDepth 100000 in
theorem rSplit_no {na:Bool} {sa da:ByteArray} {c:Int} {okc:Bool} {ls:List Rw} (hc:∀w,Gv 49 #[.agg #[.bool na,.string sa,.string da]] w (.tuple #[.int .i64 c,.bool okc])) (hz:SzL ls 1000) (hn:ls.length≤20) (hno:okc=true→sharesB ls=false) (v:Value) (wq:World) (hl:LstR wq v ls) :
  Gv 21 #[.agg #[.bool na,.string sa,.string da],v] wq (.tuple #[.slice none 0 0,.bool false]):=by
 unfold Gv;have c2:∀w,Below wq.heap.size wq w→_:=fun w h=>shares_any ls v w (hl.up h) hn hz
 obtain ⟨sb,hsb⟩:∃b,sharesB ls=b:=⟨_,rfl⟩;rw [hsb] at c2 hno;have HNO:=hD hno;have C1:Hid (∀w,Gv 49 #[.agg #[.bool na,.string sa,.string da]] w (.tuple #[.int .i64 c,.bool okc])):=hD hc;have C2:Hid (∀w,Below wq.heap.size wq w→Gv 67 #[v] w (.bool sb)):=hD c2;clear c2 hc hz hl hn hno hsb;have HB:=hD (Below.refl wq.heap.size wq);obtain ⟨n0,hn0⟩:∃n,n=wq.heap.size:=⟨_,rfl⟩;rw [←hn0];have HN0:=hD hn0;clear hn0;go_enter Tryz.func21,Tryz.ntmps21;obtain ⟨W1,bk2,hW1,hbk2,HX2_1,HB,HG2_1,hup⟩:=boxS HB HN0 na sa da;clear hup;obtain ⟨k2a,k2b,k2c⟩:=c3 HX2_1;go_wp2_with fail;clear hW1 hbk2 k2a k2b k2c;refine (C1.out _).mono ?_;rintro e w2 ⟨rfl,hb⟩;have HX2_1:=uH hb HX2_1;have HB:=mH HB hb;clear hb;go_wp2_with fail;refine (C2.out _ HB.out).mono ?_;rintro e w3 ⟨rfl,hb⟩;have HX2_1:=uH hb HX2_1;have HB:=mH HB hb;clear hb;cases okc
 case false =>
  go_wp2_with fail;go_ret2;exact ⟨rfl,by rw [HN0.out];exact HB.out⟩
 case true =>
  obtain rfl:sb=false:=HNO.out rfl;go_wp2_with fail;go_ret2;exact ⟨rfl,by rw [HN0.out];exact HB.out⟩
end Go.Proofs.YtabfjecegpaoaaaGreatDoor
namespace Go.Proofs.YtabfjecegpaoaaaGreatDoor
open Go.RowKit Go.Shelf Go
open Dgt
def GoodP (c:Int) (l:List Rt) (P:List Rt):Prop:=if 0<sgnR (sumT l) then ∃s,OrdS c l s∧P=partsT c l s else P=[]
section
variable {c:Int} {l:List Rt}
theorem lst_nil (W:World):LstR W (.slice none 0 0) (([]:List Rt).map rawR):=.inl ⟨rfl,rfl⟩
theorem mSplit_any (h1:inJ c) (ho:∀a ∈ l,a.Ok) (hn:∀a ∈ l,a.neg=false) (hz:∀a ∈ l,Rz a 1000) (h8:l.length≤8) (v:Value) (w:World) (hl:LstR w v (l.map rawR)) :
  Calls Tryz.prog 19 #[rtV (ofC c),v] w fun e w' =>∃vp P,e=.returned (.tuple #[vp,.bool (decide (0<sgnR (sumT l)))])∧LstR w' vp (P.map rawR)∧GoodP c l P∧Below w.heap.size w w' :=by
 obtain ⟨hk,hi⟩:=cents_of h1.1 h1.2;have o:=ofC_ok c;have z:=(ofC_sz h1.1 h1.2).mono (show 16≤90000 by decide)
 by_cases hp:0<sgnR (sumT l)
 ·obtain ⟨hw,hn1⟩:=wts_of ho hn hp;refine (MoSplit_r o z hk hw hz hn1 h8 v w hl).mono fun e w' ⟨g,s,hs,he,hg,hc,hb⟩=> ?_
  rw [hi] at hs hc;refine ⟨.slice (some ⟨g,0,none⟩) l.length l.length,partsT c l s,?_,?_,?_,hb⟩
  ·rw [he,decide_eq_true hp]
  ·have h2:=lit_lstR (l:=(partsT c l s).map rawR) (cap:=l.length) (by rw [←cel_cells3];exact hc) (by rw [List.length_map,parts_len];omega) (by rw [List.length_map,parts_len]);rw [List.length_map,parts_len] at h2;exact h2
  ·unfold GoodP;rw [if_pos hp];exact ⟨s,hs,rfl⟩
 ·have hsr:sumL (l.map rawR) zeroR=sumT l:=sumT_raw ho;refine (MoSplit_no (c:=c) (okc:=true) (fun w=>by have h:=MoCents_r o z w;unfold centsV at h;rw [hk,hi] at h;exact h) (szl_raw hz) (by rw [List.length_map];omega) (fun _ h=>by rw [hsr] at h;exact absurd h hp) v w hl).mono fun e w' ⟨he,hb⟩=> ?_
  refine ⟨.slice none 0 0,[],?_,lst_nil w',?_,hb⟩
  ·rw [he,decide_eq_false hp]
  ·unfold GoodP;rw [if_neg hp]
theorem shares_raw (ho:∀a ∈ l,a.Ok) (hn:∀a ∈ l,a.neg=false) (h:¬0<sgnR (sumT l)):sharesB (l.map rawR)=false:=by
 unfold sharesB;rw [sumT_raw ho,decide_eq_false h];simp
theorem rSplit_any (h1:inJ c) (ho:∀a ∈ l,a.Ok) (hn:∀a ∈ l,a.neg=false) (hz:∀a ∈ l,Rz a 1000) (h8:l.length≤8) (P:List Rt) (hP:GoodP c l P) (v:Value) (w:World) (hl:LstR w v (l.map rawR)) :
  Calls Tryz.prog 21 #[rtV (ofC c),v] w fun e w' =>∃vp,e=.returned (.tuple #[vp,.bool (decide (0<sgnR (sumT l)))])∧LstR w' vp (P.map rawR)∧Below w.heap.size w w' :=by
 obtain ⟨hk,hi⟩:=cents_of h1.1 h1.2;have o:=ofC_ok c;have z:=(ofC_sz h1.1 h1.2).mono (show 16≤90000 by decide);unfold GoodP at hP
 by_cases hp:0<sgnR (sumT l)
 ·obtain ⟨hw,hn1⟩:=wts_of ho hn hp;rw [if_pos hp] at hP;obtain ⟨s,hs,rfl⟩:=hP;rw [decide_eq_true hp];have hs' :OrdS (centsI (ofC c)) l s:=by rw [hi];exact hs
  have h:=rSplit_c o z hk hw hz hn1 h8 hs' v w hl;rw [hi] at h;exact h
 ·rw [if_neg hp] at hP;subst hP;refine (rSplit_no (c:=c) (okc:=true) (fun w=>by have h:=rCents_r o z w;unfold centsV at h;rw [hk,hi] at h;exact h) (szl_raw hz) (by rw [List.length_map];omega) (fun _=>shares_raw ho hn hp) v w hl).mono fun e w' ⟨he,hb⟩=> ?_
  exact ⟨_,by rw [he,decide_eq_false hp],lst_nil w',hb⟩
end
end Go.Proofs.YtabfjecegpaoaaaGreatDoor
namespace Go.Proofs.YtabfjecegpaoaaaGreatDoor
open Go.RowKit Go.Shelf
open Dgt
set_option maxRecDepth 100000 in
theorem Weights_any  (v:Value) (wq:World) (hv:ArgT wq v) :
  Calls Tryz.prog 34 #[v] wq fun e w' =>∃(v' :Value) (l:List Rt),e=.returned v' ∧LstR w' v' (l.map rawR)∧l.length≤8∧(∀a ∈ l,a.Ok∧Rz a 32∧a.neg=false)∧Below wq.heap.size wq w' :=by
 obtain ⟨i0,hi,hz0,hz1,hz2⟩:=info_partsN infoRat;obtain ⟨p,len,cap,rfl,hlen,hcell⟩:=hv;have HC:=hD hcell;clear hcell;go_enter Tryz.func34,Tryz.ntmps34;go_wp2_with fail
 go_loopw [3,4] (fun vo i wr=>∃(k:Nat) (l:List Rt),k≤len∧k≤8∧i=.int .i64 (k:Int)∧Hid (wr.ownsRow wq.heap.size 26 3 vo l.length (cells3 (l.map rawR)))∧l.length≤k∧Hid (∀a ∈ l,a.Ok∧Rz a 32∧a.neg=false)∧Hid (Below wq.heap.size wq wr)) (fun _ i _=>8-(intOf i).toNat)
 case atStart=>exact ⟨0,[],by omega,by omega,rfl,hD (World.ownsRow_nil _ _ _ _),by simp,hD (by simp),hD rB⟩
 case round =>
  obtain ⟨k,l,hk,hk12,rfl,HO,hlk,HP,HBW⟩:=hrel
  by_cases hlt:k<len
  ·have hlt' :(k:Int)<(len:Int):=by omega
   by_cases h12:k<8
   ·have h12' :(k:Int)<8:=by omega
    obtain ⟨g,off,x,y,z,rfl,hg,hx,hy,hz,h1,h2,h3⟩:=HC.out k hlt;have d1:wr.cell? ⟨g,off+k*3,none⟩=some (.int .i64 x):=by rw [clU HBW.out hg];exact h1
    have d2:wr.cell? ⟨g,off+k*3+1,none⟩=some (.int .i64 y):=by rw [clU HBW.out hg];exact h2
    have d3:wr.cell? ⟨g,off+k*3+2,none⟩=some (.int .i64 z):=by rw [clU HBW.out hg];exact h3
    have HIN:=hD (And.intro hx (And.intro hy hz));have HB:=hD (Below.refl wr.heap.size wr);obtain ⟨n0,hn0⟩:∃n,n=wr.heap.size:=⟨_,rfl⟩;have HN0:=hD hn0;have HKK:=hD (And.intro hlt (And.intro h12 hlk));clear hn0 hx hy hz h1 h2 h3;have C1:Hid (∀w,Calls Tryz.prog 12 #[.agg #[.int .i64 x,.int .i64 y,.int .i64 z]] w fun e w' =>∃ng nu de,e=.returned (.agg #[.bool ng,.string (encS nu),.string (encS de)])∧Rt.Ok ⟨ng,nu,de⟩∧Rz ⟨ng,nu,de⟩ 32∧Below w.heap.size w w'):=hD fun w=>by
     refine (Made_r x y z w HIN.out.1 HIN.out.2.1 HIN.out.2.2).mono ?_;rintro e w' ⟨⟨ng,nu,de⟩,rfl,ho,hz,hb⟩;exact ⟨ng,nu,de,rfl,ho,hz,hb⟩
    go_wp2_with fail;clear d1 d2 d3;refine (C1.out _).mono ?_;rintro e w1 ⟨ng,nu,de,rfl,ho,hz,hb⟩;have HB:=mH HB hb;clear hb;obtain ⟨W2,bk5,hW2,hbk5,HX5_1,HB,HG5_1,hup⟩:=boxZ HB HN0;clear hup;obtain ⟨W3,hW3,HX5_1,HB,ho,f2a,f2b,f2c,k2a,k2b,k2c⟩:=put3 HX5_1 HB HN0 HG5_1 (.bool ng) (.string (encS nu)) (.string (encS de));clear ho;have HOK:=hD ho;have HZ:=hD hz;clear ho hz;have k3:W3.cell? ⟨bk5,0,none⟩=some (.bool ng):=by rw [Lib.cell_of_heap HX5_1.out];rfl
    cases ng
    case false =>
     obtain ⟨k4a,k4b,k4c⟩:=c3 HX5_1;have HB1:=hD (HBW.out.trans (HB.out.mono HBW.out.size));have HO1:=hD (own_up HO.out HB.out);have hkl:=HKK.out.2.2;have hk8:=HKK.out.2.1;have hkn:=HKK.out.1;go_wp2_with (first|(at_builtin;refine wpList_append_own _ rfl _ _ 32 rfl wq.heap.size 26 i0 (.agg #[.bool false,.string ⟨#[]⟩,.string ⟨#[]⟩]) 3 40 Tryz.underlying32 hi hz0 hz1 hz2 rfl (by decide) _ _ _ rfl (HO1.out.alloc _) ⟨W3.heap.size,0,none⟩ 1 1 [.bool false,.string (encS nu),.string (encS de)] rfl rfl (cell_fresh3 W3 _ _ _ _) (cells3_one [rawR (⟨false,nu,de⟩:Rt)]) (by unfold maxLen;omega) (by omega) (by have:=HB1.out.size;simp;omega) ?_;intro v' w2 hown' hgrow hnn;have HO2:=hD hown';have HG:=hD hgrow;clear hown' hgrow hnn)|fail)
     go_roundw
     case rel=>exact ⟨k+1,l++[(⟨false,nu,de⟩:Rt)],by omega,by omega,by go_num,hD (by rw [List.map_append,cells3_append,List.length_append];exact HO2.out),by simp;omega,hD (fun s hs=>by
         rcases List.mem_append.1 hs with h|h
         ·exact HP.out s h
         ·rw [List.mem_singleton.1 h];exact ⟨HOK.out,HZ.out,rfl⟩),hD (below_own (HB1.out.alloc HB1.out.size _) (HO1.out.alloc _) HG.out (Nat.le_refl _))⟩
     case measure=>simp [intOf];omega
    case true =>
     have HNG:Hid (negR ⟨true,nu,de⟩=⟨false,nu,de⟩):=hD rfl;have C2:Hid (∀w,Gv 44 #[.agg #[.bool true,.string (encS nu),.string (encS de)]] w (.agg #[.bool false,.string (encS nu),.string (encS de)])):=hD fun w=>by
      have h:=rRatNeg_r (IsR.of HOK.out HZ.out) (by decide) w;rw [HNG.out] at h;exact h
     obtain ⟨k5a,k5b,k5c⟩:=c3 HX5_1;go_wp2_with fail;clear hW2 hbk5 f2a f2b f2c k2a k2b k2c hW3 k3 k5a k5b k5c;refine (C2.out _).mono ?_;rintro e w4 ⟨rfl,hb⟩;have HX5_1:=uH hb HX5_1;have HB:=mH HB hb;clear hb;obtain ⟨W5,hW5,HX5_1,HB,ho,f6a,f6b,f6c,k6a,k6b,k6c⟩:=put3 HX5_1 HB HN0 HG5_1 (.bool false) (.string (encS nu)) (.string (encS de));clear ho;have HO9:Hid (Rt.Ok ⟨false,nu,de⟩):=hD (by rw [←HNG.out];exact negR_ok HOK.out);have HZ9:Hid (Rz ⟨false,nu,de⟩ 32):=hD (by rw [←HNG.out];exact negR_sz HZ.out);clear HOK HZ;have HOK:=HO9;have HZ:=HZ9;clear HO9 HZ9;obtain ⟨k7a,k7b,k7c⟩:=c3 HX5_1;have HB1:=hD (HBW.out.trans (HB.out.mono HBW.out.size));have HO1:=hD (own_up HO.out HB.out);have hkl:=HKK.out.2.2;have hk8:=HKK.out.2.1;have hkn:=HKK.out.1
     go_wp2_with (first|(at_builtin;refine wpList_append_own _ rfl _ _ 32 rfl wq.heap.size 26 i0 (.agg #[.bool false,.string ⟨#[]⟩,.string ⟨#[]⟩]) 3 40 Tryz.underlying32 hi hz0 hz1 hz2 rfl (by decide) _ _ _ rfl (HO1.out.alloc _) ⟨W5.heap.size,0,none⟩ 1 1 [.bool false,.string (encS nu),.string (encS de)] rfl rfl (cell_fresh3 W5 _ _ _ _) (cells3_one [rawR (⟨false,nu,de⟩:Rt)]) (by unfold maxLen;omega) (by omega) (by have:=HB1.out.size;simp;omega) ?_;intro v' w2 hown' hgrow hnn;have HO2:=hD hown';have HG:=hD hgrow;clear hown' hgrow hnn)|fail)
     go_roundw
     case rel=>exact ⟨k+1,l++[(⟨false,nu,de⟩:Rt)],by omega,by omega,by go_num,hD (by rw [List.map_append,cells3_append,List.length_append];exact HO2.out),by simp;omega,hD (fun s hs=>by
         rcases List.mem_append.1 hs with h|h
         ·exact HP.out s h
         ·rw [List.mem_singleton.1 h];exact ⟨HOK.out,HZ.out,rfl⟩),hD (below_own (HB1.out.alloc HB1.out.size _) (HO1.out.alloc _) HG.out (Nat.le_refl _))⟩
     case measure=>simp [intOf];omega
   ·have h12' :¬(k:Int)<8:=by omega
    have HLR:Hid (∀v',wr.ownsRow wq.heap.size 26 3 v' l.length (cells3 (l.map rawR))→LstR wr v' (l.map rawR)):=hD fun v' h=>own_lstR (by rwa [List.length_map]) (by rw [List.length_map];omega)
    go_wp2_with fail;go_ret
    first|exact ⟨_,l,rfl,HLR.out _ HO.out,by omega,HP.out,HBW.out⟩|exact ⟨_,rfl,l,HLR.out _ HO.out,by omega,HP.out,HBW.out⟩
  ·have hge:(len:Int)≤(k:Int):=by omega
   have HLR:Hid (∀v',wr.ownsRow wq.heap.size 26 3 v' l.length (cells3 (l.map rawR))→LstR wr v' (l.map rawR)):=hD fun v' h=>own_lstR (by rwa [List.length_map]) (by rw [List.length_map];omega)
   go_wp2_with fail;go_ret
   first|exact ⟨_,l,rfl,HLR.out _ HO.out,by omega,HP.out,HBW.out⟩|exact ⟨_,rfl,l,HLR.out _ HO.out,by omega,HP.out,HBW.out⟩
end Go.Proofs.YtabfjecegpaoaaaGreatDoor
namespace Go.Proofs.YtabfjecegpaoaaaGreatDoor.moneySplits
open Go.RowKit Go.Shelf
open Dgt
set_option maxRecDepth 100000 in
theorem walk (c:Int) (v1:Value) (rc:inJ c) (wq:World) (hv:ArgT wq v1) (htab:Lib.TabIs Tryz.prog wq "internal/strconv.uint64pow10" .u64 Lib.pow10Tab) :
  Gv 9 #[.int .i64 c,v1] wq (.bool true):=by
 unfold Gv;have HT:=hD (Lib.tabBelow_of_tabIs htab);clear htab;have C1:Hid (∀w,Below wq.heap.size wq w→Gv 11 #[] w (.bool true)):=hD fun w hp0=>sanity_any w (HT.out.on hp0).here
 have HWT:=hD (fun W (h:Below wq.heap.size wq W)=>Weights_any v1 W (hv.up h));have HRC:=hD rc;clear hv rc;have HB:=hD (Below.refl wq.heap.size wq);obtain ⟨n0,hn0⟩:∃n,n=wq.heap.size:=⟨_,rfl⟩;rw [←hn0];have HN0:=hD hn0;clear hn0;go_enter Tryz.func9,Tryz.ntmps9;go_wp2_with fail;refine (C1.out _ HB.out).mono ?_;rintro e w1 ⟨rfl,hb⟩;have HB:=mH HB hb;clear hb;go_wp2_with fail;refine (HWT.out _ HB.out).mono ?_;rintro e w2 ⟨wv,l,rfl,hl,hn8,hall,hb⟩;have HB:=mH HB hb;clear hb;have HBQ:=hD HB.out;have HNP:=hD HN0.out;clear HB HN0 HWT HT;obtain ⟨wp,rfl⟩:∃w,w=wq:=⟨_,rfl⟩;obtain ⟨np,rfl⟩:∃w,w=n0:=⟨_,rfl⟩;obtain ⟨wq,rfl⟩:∃w,w=w2:=⟨_,rfl⟩;have HB:=hD (Below.refl wq.heap.size wq);obtain ⟨n0,hn0⟩:∃n,n=wq.heap.size:=⟨_,rfl⟩;have HN0:=hD hn0;clear hn0;have ho:∀a ∈ l,a.Ok:=fun a ha=>(hall a ha).1
 have hnn:∀a ∈ l,a.neg=false:=fun a ha=>(hall a ha).2.2
 have hz:∀a ∈ l,Rz a 1000:=fun a ha=>(hall a ha).2.1.mono (by decide)
 have HM:=hD (fun (x:Int) (hx:inJ x) (w:World) (h:Below wq.heap.size wq w)=>mSplit_any hx ho hnn hz hn8 wv w (hl.up h));have HR:=hD (fun (x:Int) (hx:inJ x) (P:List Rt) (hP:GoodP x l P) (w:World) (h:Below wq.heap.size wq w)=>rSplit_any hx ho hnn hz hn8 P hP wv w (hl.up h));obtain ⟨ok,hok⟩:∃b,decide (0<sgnR (sumT l))=b:=⟨_,rfl⟩;rw [hok] at HM HR;obtain ⟨m,hm⟩:∃m,c.tmod 1000=m:=⟨_,rfl⟩;have hmr: -1000<m∧m<1000:=by
  rw [←hm];exact ⟨Int.neg_lt_of_neg_lt (by have:=Int.tmod_lt_of_pos (-c) (show (0:Int)<1000 by decide);rw [Int.neg_tmod] at this;omega),Int.tmod_lt_of_pos c (by decide)⟩
 have HMR:=hD hmr;have HWM:=hD hm;clear hok hm hmr hl hn8 hall ho hnn hz;have hwm:=HWM.out;obtain ⟨W3,bk19,hW3,hbk19,HX19_1,HB,HG19_1,hup⟩:=boxn HB HN0 (.cells #[.int .i64 c,.int .i64 m] 3);clear hup;go_wp2_with fail;clear hwm hW3 hbk19
 go_loopw [21] (fun v wr=>∃k:Nat,k≤2∧v=.int .i64 (k:Int)∧Hid (wr.heap[bk19]? =some (.cells #[.int .i64 c,.int .i64 m] 3 (0,0)))∧Hid (Below wq.heap.size wq wr)) (fun v _=>2-(intOf v).toNat)
 case atStart=>exact ⟨0,by omega,rfl,HX19_1,HB⟩
 case round =>
  obtain ⟨k,hk,rfl,HX19_1,HB⟩:=hrel
  by_cases hlt:k<2
  ·have hlt' :(k:Int)<(2:Int):=by omega
   obtain ⟨x,hx,d1⟩:∃x,inJ x∧wr.cell? ⟨bk19,k,none⟩=some (.int .i64 x):=by
    have hkk:k=0∨k=1:=by omega
    rcases hkk with rfl|rfl
    ·exact ⟨c,HRC.out,by rw [Lib.cell_of_heap HX19_1.out];rfl⟩
    ·exact ⟨m,by have:=HMR.out;unfold inJ;omega,by rw [Lib.cell_of_heap HX19_1.out];rfl⟩
   have c1:=fun w=>rOfC_any x hx.1 hx.2 w
   have HM2:=hD (HM.out x hx);have HR2:=hD (HR.out x hx);obtain ⟨t,ht⟩:∃t,ofC x=t:=⟨_,rfl⟩;rw [ht] at c1 HM2 HR2;have HKN:=hD hlt;have C2:Hid (∀w,Gv 14 #[.int .i64 x] w (.agg #[.bool t.neg,.string (encS t.num),.string (encS t.den)])):=hD c1;clear c1 ht hx hk hlt;go_wp2_with fail;clear hlt' d1;refine (C2.out _).mono ?_;rintro e w4 ⟨rfl,hb⟩;have HX19_1:=uH hb HX19_1;have HB:=mH HB hb;clear hb;go_wp2_with fail;refine (HM2.out _ HB.out).mono ?_;rintro e w5 ⟨vp,P,rfl,hvp,hP,hb⟩;have HX19_1:=uH hb HX19_1;have HB:=mH HB hb;have HVP:=hD hvp;have HGP:=hD hP;clear hb hvp hP;go_wp2_with fail;refine (C2.out _).mono ?_;rintro e w6 ⟨rfl,hb⟩;have HX19_1:=uH hb HX19_1;have HB:=mH HB hb;have HVP:=hD (HVP.out.up hb);clear hb;go_wp2_with fail;refine (HR2.out P HGP.out _ HB.out).mono ?_;rintro e w7 ⟨vq,rfl,hvq,hb⟩;have HX19_1:=uH hb HX19_1;have HB:=mH HB hb
   have HVP:=hD (HVP.out.up hb);have HVQ:=hD hvq;clear hb hvq;go_wp2_with fail;refine (Same_any P P vp vq _ HVP.out HVQ.out).mono ?_;rintro e w8 ⟨rfl,hb⟩;have HX19_1:=uH hb HX19_1;have HB:=mH HB hb;rw [decide_eq_true (rfl:P=P)];clear hb;have hwi:IntKind.i64.wrap ((k:Int)+1)=((k+1:Nat):Int):=by rw [IntWalk.i64_in _ (by have:=HKN.out;omega)];omega
   go_wp2_with fail;clear hwi
   go_roundw
   case rel=>exact ⟨k+1,by have:=HKN.out;omega,by first|rfl|go_num,HX19_1,HB⟩
   case measure=>have:=HKN.out;simp [intOf];omega
  ·have hge:¬(k:Int)<(2:Int):=by omega
   clear hlt hk;go_wp2_with fail;clear hge;go_ret;exact ⟨rfl,by rw [HNP.out];exact HBQ.out.trans (HB.out.mono HBQ.out.size)⟩
end Go.Proofs.YtabfjecegpaoaaaGreatDoor.moneySplits
namespace Go.Proofs.YtabfjecegpaoaaaGreatDoor.moneySplits
open Go.ChangeShapes Go.WideShapes Go.ChangeAt Go.RowKit Go
set_option maxRecDepth 100000 in
theorem contract (H:Type) (enc:TypeId × Value→H) (W:World) (base:Nat) (args:Array Value) (ds gs:List (DataW H)) (before:List MemPlace)
  (hval:∀(j:Nat) t v,Tryz.f9.params[j]? =some t→args[j]? =some v→Value.okWide Tryz.prog W .any base t v)
  (hW:DataW.Whole enc Tryz.prog Tryz.f9.params.toList Rows.moneySplitsSpec.vars false W args.toList ds gs before) (hL:laidMetH Tryz.prog Rows.moneySplitsRow.laid W) (hsh:W.ShapedOpen Tryz.prog) :
  Calls Tryz.prog 9 args W fun e W' =>∃v,e=.returned v∧Rows.moneySplitsSpec.post enc Tryz.prog Tryz.f9 false true false false W args v W' :=by
 have hW' :=hW;obtain ⟨p,q,hA0,hV,rfl,hfz,hnd⟩:=hW;have hA:DataW.TrodAll enc Tryz.prog W 0 (fun _=>true) true Tryz.f9.params.toList args.toList ds p:=hA0;rw [Tryz.params9] at hA hval;obtain ⟨v0,vs0,d0,ds0,p0,q0,hargs,rfl,rfl,h0,r0⟩:=trodAll_cons hA;obtain ⟨v1,vs1,d1,ds1,p1,q1,rfl,rfl,rfl,h1,r1⟩:=trodAll_cons r0;obtain ⟨rfl,rfl,rfl⟩:=trodAll_nil r1;obtain rfl:args=#[v0,v1]:=by cases args;simp_all
 obtain ⟨rfl,rfl⟩:=trodVars_none hV;obtain ⟨a0,rfl,rfl,rfl,w0⟩:=open_int Tryz.underlying3 (hval 0 3 v0 rfl rfl) h0;have lt1:∀x ∈ p1,x.block<W.heap.size:=fun x hx=>hW'.lt x (by simp [hx])
 obtain ⟨l1,a1⟩:=arg_triples (hval 1 52 v1 rfl rfl) h1 lt1;clear hA0;simp only [List.append_nil] at hW';refine (walk a0 v1 (wf_rng w0) W a1 (table hL)).mono fun e W' ⟨he,hb⟩=> ?_
 subst he;exact ⟨_,rfl,post_of_below (pv:=[]) hW' (fun _ _ _=>(trodAll_cons_mk (shut_bool Tryz.underlying4 _) trodAll_mk0)) (fun sp hsp=>(trodAll_cons_mk (shut_int Tryz.underlying3 w0) (trodAll_cons_mk (WideElems.Trod_stays (by kernel_rfl) (by kernel_rfl) (of_decide_eq_true (by kernel_rfl)) h1 (fun x hx=>hb.same (lt1 x hx)) (fun x hx=>hsp x (by simp [hx]))) trodAll_mk0))) (fun _ _=>rfl) (by simp)
  hb (ok_one (by kernel_rfl) rfl (okWide_bool_mk Tryz.underlying4 _))⟩
theorem reads (os:Os) {H:Type} (enc:TypeId × Value→H):∃places,DataW.whole enc Tryz.prog ((laidWorld os).forCall (fun _ _=>0) ⟨#[],#[.int .i64 0,.slice none 0 0],[]⟩).memory Tryz.f9.params.toList Rows.moneySplitsSpec.vars false (#[Value.int .i64 0,Value.slice none 0 0]:Array Value).toList 8=some ([.lit (.int .i64 0),.nil],[],places) :=
 ⟨[],by kernel_rfl⟩
set_option maxRecDepth 100000 in
theorem lifted (os:Os) (started:os.Started) (H:Type) (enc:TypeId × Value→H) (F:Stop.Interp) :
  ReturnsInHanded {} Tryz.checked os 9 .any ((OpenSpec.ofChange Rows.moneySplitsSpec).preRow enc Tryz.prog Tryz.f9 Rows.moneySplitsRow.domain false Rows.moneySplitsRow.laid) (((OpenSpec.ofChange Rows.moneySplitsSpec).at F).post enc Tryz.prog Tryz.f9 false true false false):=by
 obtain ⟨places,hx⟩:=reads os enc;refine returnsInHanded_of_row (C:=Tryz.checked) (s:=OpenSpec.ofChange Rows.moneySplitsSpec) own started (by kernel_rfl) Tryz.func9
  (witness_row_atRef (enc:=enc) (C:=Tryz.checked) false (laidWorld os) #[.int .i64 0,.slice none 0 0] rfl (by kernel_rfl) (by kernel_rfl) (by kernel_rfl)
   (OpenSpec.preRow_of_cond 8 hx (by kernel_rfl) (fun k hk=>by cases hk) (by kernel_rfl) (laid_met os _))) ?_
 intro W base args ds gs before hval hW _ _ _ hL hsh _;exact contract H enc W base args ds gs before hval hW hL hsh
theorem said:Rows.MoneySplitsSaid :=
 OpenClaim.holds_of_cond 9 Tryz.f9 rfl rfl rfl rfl rfl rfl rfl ⟨rfl,rfl,rfl,rfl,rfl⟩ rfl rfl rfl rfl rfl (by kernel_rfl) Tryz.func9 (by kernel_rfl)
  (of_decide_eq_true (by kernel_rfl)) (by unfold Func.isWrapper;first|(rw [if_pos (by decide+kernel)];kernel_rfl)|(rw [if_neg (by decide+kernel)];exact ⟨rfl,rfl⟩))
  (fun os started H enc _ F=>by rw [OpenClaim.pre_eq_preRow];exact lifted os started H enc F)
theorem plain (f:FuncId) (fn:Func) (hf:Tryz.pinned.checked.prog.funcNamed "tithing/tithinglaw04.MoneySplits" =some f) (hfn:Tryz.pinned.checked.prog.funcs[f]? =some fn) :
  true=Tryz.pinned.checked.prog.looks []∧∀(j:Nat) t,fn.params[j]? =some t→Tryz.pinned.checked.prog.wantsStandIn t=false:=by
 obtain rfl:f=9:=Option.some.inj ((show Tryz.prog.funcNamed "tithing/tithinglaw04.MoneySplits" =some 9 by kernel_rfl).symm.trans hf) |>.symm
 obtain rfl:fn=Tryz.f9:=(Option.some.inj (Tryz.func9.symm.trans hfn)).symm;refine ⟨by kernel_rfl,fun j t ht=> ?_⟩;rw [Tryz.params9] at ht;have hm:t ∈ [3,52]:=by simpa using Array.mem_of_getElem? ht
 have hall:([3,52].all fun u=> !Tryz.prog.wantsStandIn u)=true:=by kernel_rfl
 exact (show Tryz.prog.wantsStandIn t=false by simpa using List.all_eq_true.1 hall t hm)
theorem proved:Rows.MoneySplitsCardSaid :=
 Claim7.holds_tied_plain_at .later [] _ _ _ _ said (fun _ h=>by cases h) (by kernel_rfl) (fun _ h=>by cases h) moneySplits_row_tie rfl ⟨rfl,rfl⟩ (by kernel_rfl) rfl plain (by kernel_rfl)
#print axioms proved
end Go.Proofs.YtabfjecegpaoaaaGreatDoor.moneySplits
