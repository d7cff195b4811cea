/- MoneyRaw: for every input the law returns true, and each argument reads afterwards as it read before; the listed tables read as the program lays them (the tied card). -/
import Derived.Deep.DeepCutAuto
import Derived.Deep.LoopGhost
import Derived.Deep.QuietTactic
import Derived.BigQuiet
import Derived.Test.YtabfjecegpaoaaaGreatDoorProg
import Derived.WalkKit
import Derived.WalkSpells
import Derived.WalkLawsBesides
import Derived.IntWalk
import Derived.Lib.Hide
import Derived.Laws.BitsAllLaws
import Derived.StillTailTactics
import Derived.Deep.OwnRows
import Derived.Lib.ConvBytes
import Derived.Below
import Derived.RangeFuncNested
import Derived.RangeFuncCalls
import Derived.RangeFuncLeaves
import Derived.Shelf.Abstract
import Derived.Lib.LaidIn
import Derived.RegionTactic
import Derived.KernelRfl
import Derived.OrdersIn
import Derived.Shelf.Strings.Builder1
import Derived.Shelf.Strings.Builder2
import Derived.Shelf.Strings.Trim
import Derived.Shelf.Small.Utf8
import Derived.Shelf.Small.Bits
import Derived.Shelf.Small.Strs
import Derived.Shelf.Strings.BuilderF
import Derived.Shelf.Strings.BuilderK
import Derived.Shelf.Strings.Builder2Cap
import Derived.Shelf.Strconv.Atoi
import Derived.Shelf.Strconv.Itoa0
import Derived.Shelf.Strconv.Itoa1
import Derived.Shelf.LaysM
import Derived.Shelf.Strconv.Itoa2
import Derived.Shelf.Strconv.Itoa3
import Derived.Shelf.Strconv.AtoiErrFast
import Derived.Shelf.Strconv.ParseIntEmpty
import Derived.Shelf.Strconv.AtoiFail
import Derived.Shelf.Strconv.Clone
import Derived.Shelf.Strconv.SyntaxError
import Derived.Shelf.LaysC
import Derived.Shelf.Strconv.ToError
import Derived.Shelf.Strconv.Lower
import Derived.Shelf.Strconv.ParseUint10
import Derived.Shelf.Strconv.ParseUint10Empty
import Derived.Shelf.Strconv.ParseUint10Any
import Derived.Shelf.Strconv.ParseInt10
import Derived.Shelf.Strconv.AtoiLong
import Derived.Shelf.Strconv.AtoiInnerAll
import Derived.Shelf.Strconv.RangeError
import Derived.Shelf.Strconv.ToErrorRange
import Derived.Shelf.Strconv.AtoiAll
import Derived.Shelf.Strconv.ErrVarAll
import Derived.Shelf.Strconv.ParseUintEmpty
import Derived.Shelf.Strconv.ParseUint10b64
import Derived.Shelf.Strconv.ParseUint10b32
import Derived.Shelf.Strconv.ParseUint10b16
import Derived.Shelf.Strconv.ParseUint10b8
import Derived.Shelf.Strconv.ParseUint10At
import Derived.Shelf.Strconv.ParseInt10At64
import Derived.Shelf.Strconv.ParseInt10At32
import Derived.Shelf.Strconv.ParseInt10At16
import Derived.Shelf.Strconv.ParseInt10At8
import Derived.Shelf.Strconv.ParseInt10All
import Derived.Shelf.Strings.Search1
import Derived.Shelf.GgClosure.StringsIndexFunc
import Derived.Ground.GgwProg
import Derived.Shelf.GgClosure.StringsIndexFuncTop
import Derived.Shelf.GgClosure.StringsRunes
import Derived.Shelf.Strings.Prefix
import Derived.Shelf.Unicode.Decode
import Derived.Shelf.Strings.Runes
import Derived.Shelf.Strings.AsciiSet
import Derived.Shelf.Bits.Mul64
import Derived.Shelf.Strings.Repeat
import Derived.Shelf.Unicode.DecodeSlow
import Derived.Shelf.Unicode.DecodeAny
import Derived.Shelf.Strings.FuncGrows
import Derived.Shelf.Strings.BuilderCap
import Derived.OwnWalkIn
import Derived.TacticsInMore
import Derived.LoopNIn
import Derived.LoopIn
import Derived.Test.YtabfjecegpaoaaaGreatDoorK4a7
import Derived.Test.YtabfjecegpaoaaaGreatDoorZc2
import Derived.Test.YtabfjecegpaoaaaGreatDoorK4a2
import Derived.Test.YtabfjecegpaoaaaGreatDoorZb6
import Derived.Test.YtabfjecegpaoaaaGreatDoorZb2
import Derived.Test.YtabfjecegpaoaaaGreatDoorZb4
import Derived.Test.YtabfjecegpaoaaaGreatDoorZb3
import Derived.Test.YtabfjecegpaoaaaGreatDoorZb1
import Derived.Test.YtabfjecegpaoaaaGreatDoorZa6
import Derived.Test.YtabfjecegpaoaaaGreatDoorZa5
import Derived.Test.YtabfjecegpaoaaaGreatDoorZa4
import Derived.Test.YtabfjecegpaoaaaGreatDoorZa3
import Derived.Test.YtabfjecegpaoaaaGreatDoorZa0
import Derived.Test.YtabfjecegpaoaaaGreatDoorZa1
import Derived.Test.YtabfjecegpaoaaaGreatDoorZa2
import Derived.Test.YtabfjecegpaoaaaGreatDoorZb5
import Derived.Test.YtabfjecegpaoaaaGreatDoorZb8
import Derived.Test.YtabfjecegpaoaaaGreatDoorZb7
import Derived.Test.YtabfjecegpaoaaaGreatDoorZc1
import Derived.Test.YtabfjecegpaoaaaGreatDoorK4a6
set_option maxHeartbeats 16000000
set_option linter.unusedVariables false
namespace Go.Proofs.YtabfjecegpaoaaaGreatDoor
open Go.RowKit Go.Shelf
open Dgt
def ErSplit_c_24_1 (n:Nat) (k:Nat) (bkt:Nat):Nat→Value
 | 0=>.slice (some ⟨bkt,0,none⟩) n n
 | 1=>.int .i64 (k:Int)
 | 2=>.pointer (some ⟨bkt,k,none⟩)
 | 3=>.bool true
 | 4=>.bool false
 | 5=>.bool false
 | 6=>undef
 | 7=>undef
 | 8=>undef
 | 9=>undef
 | 10=>undef
 | 11=>undef
 | 12=>undef
 | 13=>undef
 | 14=>undef
 | 15=>undef
 | 16=>undef
 | 17=>undef
 | 18=>undef
 | 19=>undef
 | 20=>.bool false
 | _=>undef
def ErSplit_c_24_2 (n:Nat) (k:Nat) (bkt:Nat):Nat→Value
 | 0=>.slice (some ⟨bkt,0,none⟩) n n
 | 1=>.int .i64 (k:Int)
 | 2=>.pointer (some ⟨bkt,k,none⟩)
 | 3=>.bool false
 | 4=>.bool true
 | 5=>.bool true
 | 6=>.int .i64 (-1)
 | 7=>.bool true
 | 8=>.bool true
 | 9=>undef
 | 10=>undef
 | 11=>undef
 | 12=>undef
 | 13=>undef
 | 14=>undef
 | 15=>undef
 | 16=>undef
 | 17=>undef
 | 18=>undef
 | 19=>.bool true
 | 20=>.bool true
 | _=>undef
def ErSplit_c_24_3 (n:Nat) (k:Nat) (ox:Rt) (ob:Rt) (bs:Nat) (go:Nat) (bkt:Nat) (co:Nat) (P:Bool) (cm:Int):Nat→Value
 | 0=>.slice (some ⟨bkt,0,none⟩) n n
 | 1=>.int .i64 (k:Int)
 | 2=>.pointer (some ⟨bkt,k,none⟩)
 | 3=>.bool false
 | 4=>.bool true
 | 5=>.bool true
 | 6=>.int .i64 (bs:Int)
 | 7=>.bool false
 | 8=>.bool false
 | 9=>.slice (some ⟨go,0,none⟩) n co
 | 10=>.int .i64 (k:Int)
 | 11=>.pointer (some ⟨go,k*3,none⟩)
 | 12=>.agg #[.bool ox.neg,.string (encS ox.num),.string (encS ox.den)]
 | 13=>.slice (some ⟨go,0,none⟩) n co
 | 14=>.int .i64 (bs:Int)
 | 15=>.pointer (some ⟨go,bs*3,none⟩)
 | 16=>.agg #[.bool ob.neg,.string (encS ob.num),.string (encS ob.den)]
 | 17=>.int .i64 cm
 | 18=>.bool P
 | 19=>.bool P
 | 20=>.bool P
 | _=>undef
def ErSplit_c_27_4 (n:Nat) (o1:Rt) (px:Rt) (nx:Rt) (bs:Nat) (gx:Nat) (cx:Nat):Nat→Value
 | 0=>.slice (some ⟨gx,0,none⟩) n cx
 | 1=>.int .i64 (bs:Int)
 | 2=>.slice (some ⟨gx,0,none⟩) n cx
 | 3=>.int .i64 (bs:Int)
 | 4=>.pointer (some ⟨gx,bs*3,none⟩)
 | 5=>.agg #[.bool px.neg,.string (encS px.num),.string (encS px.den)]
 | 6=>.agg #[.bool o1.neg,.string (encS o1.num),.string (encS o1.den)]
 | 7=>.agg #[.bool nx.neg,.string (encS nx.num),.string (encS nx.den)]
 | 8=>.pointer (some ⟨gx,bs*3,none⟩)
 | _=>undef
def ErSplit_c_28_5 (lc:Rt) (lc2:Rt) (o1:Rt):Nat→Value
 | 0=>.agg #[.bool lc.neg,.string (encS lc.num),.string (encS lc.den)]
 | 1=>.agg #[.bool o1.neg,.string (encS o1.num),.string (encS o1.den)]
 | 2=>.agg #[.bool lc2.neg,.string (encS lc2.num),.string (encS lc2.den)]
 | _=>undef
def ErSplit_c_34_6 (n:Nat) (k:Nat) (yk:Rt) (fin:Rt) (cen:Rt) (gx:Nat) (cx:Nat):Nat→Value
 | 0=>.slice (some ⟨gx,0,none⟩) n cx
 | 1=>.int .i64 (k:Int)
 | 2=>.slice (some ⟨gx,0,none⟩) n cx
 | 3=>.int .i64 (k:Int)
 | 4=>.pointer (some ⟨gx,k*3,none⟩)
 | 5=>.agg #[.bool yk.neg,.string (encS yk.num),.string (encS yk.den)]
 | 6=>.agg #[.bool cen.neg,.string (encS cen.num),.string (encS cen.den)]
 | 7=>.agg #[.bool fin.neg,.string (encS fin.num),.string (encS fin.den)]
 | 8=>.pointer (some ⟨gx,k*3,none⟩)
 | _=>undef
set_option maxRecDepth 100000 in
theorem rSplit_c {a:Rt} {ws:List Rt} {s:List Nat} (ha:a.Ok) (za:Rz a 90000) (hc:centsOk a=true) (hw:Wts ws) (hz:∀x ∈ ws,Rz x 1000) (hn1:1≤ws.length) (hn:ws.length≤8) (hS:OrdS (centsI a) ws s) (v:Value) (wq:World) (hl:LstR wq v (ws.map rawR)) :
  Calls Tryz.prog 21 #[.agg #[.bool a.neg,.string (encS a.num),.string (encS a.den)],v] wq fun e w' =>∃v',e=.returned (.tuple #[v',.bool true])∧LstR w' v' ((partsT (centsI a) ws s).map rawR)∧Below wq.heap.size wq w' :=by
 have HQO:=hD (fun (k:Nat) (hk:k<ws.length) (w:World) (h:Below wq.heap.size wq w) (A:Rt) (hA:A.Ok) (zA:Rz A 90000)=>Quota_r hA zA hw.ok hz (by omega) hw.snum k hk v w (hl.up h));have HSH:=hD (fun (w:World) (h:Below wq.heap.size wq w)=>shares_any (ws.map rawR) v w (hl.up h) (by rw [List.length_map];omega) (szl_raw hz));obtain ⟨p,ca,rfl,-,-⟩:=hl.open;rw [List.length_map] at hl HQO HSH ⊢;have hsb:sharesB (ws.map rawR)=true:=by
  unfold sharesB;rw [no_bad hw.ok hw.nn,sumT_raw hw.ok,List.length_map,(q_sgn hw.sok).2.1.2 hw.pos];simp;omega
 rw [hsb] at HSH;obtain ⟨i0,hi,hz0,hz1,hz2⟩:=info_partsN infoRat;obtain ⟨-,h1,h2⟩:=cents_back ha hc;obtain ⟨c,hcc⟩:∃c,centsI a=c:=⟨_,rfl⟩;rw [hcc] at h1 h2 hS ⊢;have HLEN:=hD (And.intro hn1 hn);have HCR:=hD (And.intro h1 h2);have zS:Rz (sumT ws) 30000:=sumT_sz hw.ok hz (by omega);have hcn:c.natAbs<18446744073709551616:=by omega
 have HW:=hD hw;have HZS:=hD hz;have HCN:=hD hcn;have HSO:=hD hS;have c1:=fun w=>rCents_r ha za w
 unfold centsV at c1;rw [hc,hcc] at c1;have c5:=fun w=>rRatOf_any c w h1 h2
 have HOC:Hid (ofR c=⟨decide (c<0),c.natAbs,1⟩):=hD rfl;obtain ⟨n,hnn⟩:∃n,ws.length=n:=⟨_,rfl⟩;have HNN:=hD hnn;rw [hnn] at HQO HSH HLEN ⊢;have C1:Hid (∀w,Gv 49 #[rtV a] w (.tuple #[.int .i64 c,.bool true])):=hD c1;have C2:Hid (∀w,Below wq.heap.size wq w→Gv 67 #[.slice p n ca] w (.bool true)):=hD fun w hp0=>by
  have h:=HSH.out w hp0;exact h
 obtain ⟨sg,hsg⟩:∃b,decide (c<0)=b:=⟨_,rfl⟩;have HSG:=hD hsg;clear hsg;have C3:Hid (∀w,Gv 17 #[.int .i64 c] w (.agg #[.bool sg,.string (encS c.natAbs),.string (encS 1)])):=hD fun w=>by
  have h:=c5 w;rw [HOC.out,HSG.out] at h;exact h
 clear c1 c5 hl ha za hc hw hz hn1 hn hS hsb h1 h2 hcc zS hcn hnn HSH;have HB:=hD (Below.refl wq.heap.size wq);obtain ⟨n0,hn0⟩:∃n,n=wq.heap.size:=⟨_,rfl⟩;rw [←hn0];have HN0:=hD hn0;clear hn0;go_enter Tryz.func21,Tryz.ntmps21;obtain ⟨W1,bk2,hW1,hbk2,HX2_1,HB,HG2_1,hup⟩:=boxR HB HN0 a;clear hup;obtain ⟨k2a,k2b,k2c⟩:=c3 HX2_1;go_wp2_with fail;clear hW1 hbk2 k2a k2b k2c;refine (C1.out _).mono ?_;rintro e w2 ⟨rfl,hb⟩;have HX2_1:=uH hb HX2_1;have HB:=mH HB hb;clear hb;go_wp2_with fail;refine (C2.out _ HB.out).mono ?_;rintro e w3 ⟨rfl,hb⟩;have HX2_1:=uH hb HX2_1;have HB:=mH HB hb;clear hb;go_wp2_with fail;refine (C3.out _).mono ?_;rintro e w4 ⟨rfl,hb⟩;have HX2_1:=uH hb HX2_1;have HB:=mH HB hb;clear hb;obtain ⟨W5,bk9,hW5,hbk9,HX9_3,HB,HG9_3,hup⟩:=boxZ HB HN0;have HL9_3:=(hup _ _ HX2_1).2;have HX2_1:=(hup _ _ HX2_1).1;clear hup
 obtain ⟨W6,hW6,HX9_3,HB,ho,f4a,f4b,f4c,k4a,k4b,k4c⟩:=put3 HX9_3 HB HN0 HG9_3 (.bool sg) (.string (encS c.natAbs)) (.string (encS 1));have HX2_1:=ho _ _ (en1 HL9_3) HX2_1;clear ho;have k5:W6.cell? ⟨bk9,0,none⟩=some (.bool sg):=by rw [Lib.cell_of_heap HX9_3.out];rfl
 go_upto_if 36 with fail
 clear hW5 hbk9 f4a f4b f4c k4a k4b k4c hW6 k5
 go_cut [] (fun wx=>Hid (wx.heap[bk9]? =some (.cells #[.bool false,.string (encS c.natAbs),.string (encS 1)] 26 (0,0)))∧Hid (Below wq.heap.size wq wx))
 case first =>
  cases sg
  case false =>
   go_wp2_with fail
   go_meet
   exact ⟨HX9_3,HB⟩
  case true =>
   have C4:Hid (∀w,Gv 44 #[.agg #[.bool true,.string (encS c.natAbs),.string (encS 1)]] w (.agg #[.bool false,.string (encS c.natAbs),.string (encS 1)])):=hD fun w=>by
    have hlt:c<0:=of_decide_eq_true HSG.out;have h:=rRatNeg_r (IsR.of (ofR_ok c) (of_sz HCN.out)) (by decide) w;rw [neg_of,show-c=((c.natAbs:Nat):Int) from by omega,of_nat] at h;rw [HOC.out,show decide (c<0)=true from decide_eq_true hlt] at h;exact h
   obtain ⟨k6a,k6b,k6c⟩:=c3 HX9_3;go_wp2_with fail;clear k6a k6b k6c;refine (C4.out _).mono ?_;rintro e w7 ⟨rfl,hb⟩;have HX2_1:=uH hb HX2_1;have HX9_3:=uH hb HX9_3;have HB:=mH HB hb;clear hb;obtain ⟨W8,hW8,HX9_3,HB,ho,f7a,f7b,f7c,k7a,k7b,k7c⟩:=put3 HX9_3 HB HN0 HG9_3 (.bool false) (.string (encS c.natAbs)) (.string (encS 1));have HX2_1:=ho _ _ (en1 HL9_3) HX2_1;clear ho;go_wp2_with fail;clear f7a f7b f7c k7a k7b k7c hW8
   go_meet
   exact ⟨HX9_3,HB⟩
 case rest =>
  obtain ⟨HX9_3,HB⟩:=hcut;obtain ⟨k8a,k8b,k8c⟩:=c3 HX9_3;obtain ⟨W9,bk12,hW9,hbk12,HX12_9,HB,HG12_9,hup⟩:=boxZ HB HN0;have HL12_9:=(hup _ _ HX9_3).2;have HX9_3:=(hup _ _ HX9_3).1;clear hup;obtain ⟨W10,hW10,HX12_9,HB,ho,f10a,f10b,f10c,k10a,k10b,k10c⟩:=put3 HX12_9 HB HN0 HG12_9 (.bool false) (.string (encS c.natAbs)) (.string (encS 1));have HX9_3:=ho _ _ (en1 HL12_9) HX9_3;clear ho;go_wp2_with fail;clear k8a k8b k8c hW9 hbk12 f10a f10b f10c k10a k10b k10c hW10
  go_loopw [10,11,13] (fun v10 v11 v wr=>∃k:Nat,k≤n∧v=.int .i64 (k:Int)∧Hid (wr.heap[bk9]? =some (.cells #[.bool false,.string (encS c.natAbs),.string (encS 1)] 26 (0,0)))∧Hid (wr.heap[bk12]? =some (.cells #[.bool (ofR (lfZ c ws k)).neg,.string (encS (ofR (lfZ c ws k)).num),.string (encS (ofR (lfZ c ws k)).den)] 26 (0,0)))∧Hid (wr.ownsRow (bk12+1) 26 3 v10 k (cells3 ((lsf (fun i=>ofR (zZ c ws i)) k).map rawR)))∧Hid (wr.ownsRow (bk12+1) 26 3 v11 k (cells3 ((lsf (ovR c ws) k).map rawR)))∧Hid (Apart v10 v11)∧Hid (Below wq.heap.size wq wr)) (fun _ _ v _=>n-(intOf v).toNat)
  case atStart=>exact ⟨0,by omega,rfl,HX9_3,hD (by rw [show lfZ c ws 0=(c.natAbs:Int) from by unfold lfZ sumZ;omega,of_nat];exact HX12_9.out),hD (World.ownsRow_nil _ _ _ _),hD (World.ownsRow_nil _ _ _ _),hD (.inl rfl),HB⟩
  case round =>
   obtain ⟨k,hk,rfl,HX9_3,HX12_9,HOx,HOo,HAx_o,HB⟩:=hrel
   by_cases hlt:k<n
   ·have hlt' :(k:Int)<(n:Int):=by omega
    have hkl:k<ws.length:=by rw [HNN.out];exact hlt
    have HKN:=hD hlt;have HKL:=hD hkl;have hzq:=ovR_sz HW.out HZS.out (by rw [HNN.out];have:=HLEN.out.2;omega) HCN.out hkl;have hz9:=HW.out.z_le (c:=c) hkl;have hz8:=HW.out.z_nn (c:=c) k;have zf:Rz (ofR (zZ c ws k)) 40000:=(of_sz (n:=zZ c ws k) (by have:=HCR.out;omega)).mono (by decide);have hlr:=HW.out.lf_range (c:=c) (k:=k) (by omega);have zlf:Rz (ofR (lfZ c ws k)) 40000:=(of_sz (n:=lfZ c ws k) (by have:=HCR.out;omega)).mono (by decide);have hqk:=HW.out.qt_ok (c:=c) k;have m1:∀w,Below wq.heap.size wq w→_:=fun w h=>HQO.out k hlt w h (ofR (c.natAbs:Int)) (ofR_ok _) ((of_sz (by simpa using HCN.out)).mono (by decide))
    rw [show quoR (mulR (ofR (c.natAbs:Int)) (ws.getD k zeroR)) (sumT ws)=qtR c ws k from rfl,of_nat] at m1;have m2:=fun w=>rFloor_r hqk hzq.1 (by decide) w
    rw [show flR (qtR c ws k)=ofR (zZ c ws k) from rfl] at m2;have m3:=fun w=>rRatSub_r (IsR.of hqk hzq.1) (IsR.of (ofR_ok (zZ c ws k)) zf) (by decide) (by decide) w
    have m4:=fun w=>rRatSub_r (IsR.of (ofR_ok (lfZ c ws k)) zlf) (IsR.of (ofR_ok (zZ c ws k)) zf) (by decide) (by decide) w
    rw [lfZ_succ] at m4;rw [show subR (qtR c ws k) (ofR (zZ c ws k))=ovR c ws k from rfl] at m3;obtain ⟨q,hqe⟩:∃x,qtR c ws k=x:=⟨_,rfl⟩;rw [hqe] at m1 m2 m3;obtain ⟨fz,hfe⟩:∃x,ofR (zZ c ws k)=x:=⟨_,rfl⟩;rw [hfe] at m2 m3 m4;obtain ⟨o,hoe⟩:∃x,ovR c ws k=x:=⟨_,rfl⟩;rw [hoe] at m3;obtain ⟨lf,hle⟩:∃x,ofR (lfZ c ws k)=x:=⟨_,rfl⟩;rw [hle] at m4 HX12_9;obtain ⟨lf2,hl2⟩:∃x,ofR (lfZ c ws (k+1))=x:=⟨_,rfl⟩;rw [hl2] at m4;have HFE:=hD hfe;have HOE:=hD hoe;have HL2:=hD hl2;have HRx_bk9:=hD (own_old HOx.out (b:=bk9) (by have:=HL12_9.out;omega));have HRx_bk12:=hD (own_old HOx.out (b:=bk12) (by omega));have HRo_bk9:=hD (own_old HOo.out (b:=bk9) (by have:=HL12_9.out;omega));have HRo_bk12:=hD (own_old HOo.out (b:=bk12) (by omega));have HAo_x:=hD HAx_o.out.symm
    have C4:Hid (∀w,Below wq.heap.size wq w→Gv 37 #[.agg #[.bool false,.string (encS c.natAbs),.string (encS 1)],.slice p n ca,.int .i64 (k:Int)] w (.agg #[.bool q.neg,.string (encS q.num),.string (encS q.den)])):=hD m1;have C5:Hid (∀w,Gv 68 #[rtV q] w (.agg #[.bool fz.neg,.string (encS fz.num),.string (encS fz.den)])):=hD m2;have C6:Hid (∀w,Gv 27 #[rtV q,rtV fz] w (.agg #[.bool o.neg,.string (encS o.num),.string (encS o.den)])):=hD m3;have C7:Hid (∀w,Gv 27 #[rtV lf,rtV fz] w (.agg #[.bool lf2.neg,.string (encS lf2.num),.string (encS lf2.den)])):=hD m4;clear m1 m2 m3 m4 hqe hfe hoe hle hl2 hk hlt hkl hzq hz9 hz8 zf hlr zlf hqk;obtain ⟨k11a,k11b,k11c⟩:=c3 HX9_3;go_wp2_with fail;clear hlt' k11a k11b k11c;refine (C4.out _ HB.out).mono ?_;rintro e w11 ⟨rfl,hb⟩;have HX9_3:=uH hb HX9_3;have HX12_9:=uH hb HX12_9;have HOx:=hD (own_up HOx.out hb);have HOo:=hD (own_up HOo.out hb);have HB:=mH HB hb
    clear hb;have hN:=heap_alloc_new w11 (.cells #[.bool false,.string ⟨#[]⟩,.string ⟨#[]⟩] 26);have hB:=HB.out.alloc HB.out.size (.cells #[.bool false,.string ⟨#[]⟩,.string ⟨#[]⟩] 26);have HG14_12:Hid (n0≤w11.heap.size):=hD (by rw [HN0.out];exact HB.out.size);have HL14_12:=hD (Array.getElem?_eq_some_iff.1 HX12_9.out).1;have HX9_3:=hD (hpU ((Below.refl _ w11).alloc (Nat.le_refl _) (.cells #[.bool false,.string ⟨#[]⟩,.string ⟨#[]⟩] 26)) HX9_3.out);have HX12_9:=hD (hpU ((Below.refl _ w11).alloc (Nat.le_refl _) (.cells #[.bool false,.string ⟨#[]⟩,.string ⟨#[]⟩] 26)) HX12_9.out);have hrx:=own_new HOx.out;have HOx:=hD (HOx.out.alloc (.cells #[.bool false,.string ⟨#[]⟩,.string ⟨#[]⟩] 26));have hro:=own_new HOo.out;have HOo:=hD (HOo.out.alloc (.cells #[.bool false,.string ⟨#[]⟩,.string ⟨#[]⟩] 26));obtain ⟨W12,hW12⟩:∃W,w11.alloc (.cells #[.bool false,.string ⟨#[]⟩,.string ⟨#[]⟩] 26)=W:=⟨_,rfl⟩
    obtain ⟨bk14,hbk14⟩:∃b,w11.heap.size=b:=⟨_,rfl⟩;rw [hW12] at hN hB HX9_3 HX12_9 HOx HOo;rw [hbk14] at hrx;have HRx_bk14:=hD hrx;clear hrx;rw [hbk14] at hro;have HRo_bk14:=hD hro;clear hro;rw [hbk14] at hN HG14_12 HL14_12;have HX14_12:=hD hN;have HB:=hD hB;clear hN hB;have f13:W12.frozen? ⟨bk14,0,none⟩=false:=frz0 HX14_12.out 0;have f14:W12.frozen? ⟨bk14,1,none⟩=false:=frz0 HX14_12.out 1;have f15:W12.frozen? ⟨bk14,2,none⟩=false:=frz0 HX14_12.out 2;obtain ⟨k16a,k16b,k16c⟩:=c3 HX14_12;have hB:=(((HB.out.setCell (p:=⟨bk14,0,none⟩) (by rw [←HN0.out];exact HG14_12.out) (.bool q.neg)).setCell (p:=⟨bk14,1,none⟩) (by rw [←HN0.out];exact HG14_12.out) (.string (encS q.num))).setCell (p:=⟨bk14,2,none⟩) (by rw [←HN0.out];exact HG14_12.out) (.string (encS q.den)))
    have hN:(((W12.setCell ⟨bk14,0,none⟩ (.bool q.neg)).setCell ⟨bk14,1,none⟩ (.string (encS q.num))).setCell ⟨bk14,2,none⟩ (.string (encS q.den))).heap[bk14]? =some (.cells #[.bool q.neg,.string (encS q.num),.string (encS q.den)] 26 (0,0)):=by simp [World.setCell,Array.getElem?_modify,HX14_12.out]
    have hx9_3:(((W12.setCell ⟨bk14,0,none⟩ (.bool q.neg)).setCell ⟨bk14,1,none⟩ (.string (encS q.num))).setCell ⟨bk14,2,none⟩ (.string (encS q.den))).heap[bk9]? =_:=(row_else (row_else (row_else HX9_3.out (en2 HL12_9 HL14_12) _) (en2 HL12_9 HL14_12) _) (en2 HL12_9 HL14_12) _);have HX9_3:=hD hx9_3;clear hx9_3;have hx12_9:(((W12.setCell ⟨bk14,0,none⟩ (.bool q.neg)).setCell ⟨bk14,1,none⟩ (.string (encS q.num))).setCell ⟨bk14,2,none⟩ (.string (encS q.den))).heap[bk12]? =_:=(row_else (row_else (row_else HX12_9.out (en1 HL14_12) _) (en1 HL14_12) _) (en1 HL14_12) _);have HX12_9:=hD hx12_9;clear hx12_9
    have hox:(((W12.setCell ⟨bk14,0,none⟩ (.bool q.neg)).setCell ⟨bk14,1,none⟩ (.string (encS q.num))).setCell ⟨bk14,2,none⟩ (.string (encS q.den))).ownsRow (bk12+1) 26 3 u10 k (cells3 ((lsf (fun i=>ofR (zZ c ws i)) k).map rawR)):=(own_cell (own_cell (own_cell HOx.out HRx_bk14.out) HRx_bk14.out) HRx_bk14.out);have HOx:=hD hox;clear hox;have hoo:(((W12.setCell ⟨bk14,0,none⟩ (.bool q.neg)).setCell ⟨bk14,1,none⟩ (.string (encS q.num))).setCell ⟨bk14,2,none⟩ (.string (encS q.den))).ownsRow (bk12+1) 26 3 u11 k (cells3 ((lsf (ovR c ws) k).map rawR)):=(own_cell (own_cell (own_cell HOo.out HRo_bk14.out) HRo_bk14.out) HRo_bk14.out);have HOo:=hD hoo;clear hoo;obtain ⟨W13,hW13⟩:∃W,(((W12.setCell ⟨bk14,0,none⟩ (.bool q.neg)).setCell ⟨bk14,1,none⟩ (.string (encS q.num))).setCell ⟨bk14,2,none⟩ (.string (encS q.den)))=W:=⟨_,rfl⟩;rw [hW13] at hN hB HX9_3 HX12_9 HOx HOo
    have HX14_12:=hD hN;have HB:=hD hB;clear hN hB;obtain ⟨k17a,k17b,k17c⟩:=c3 HX14_12;go_wp2_with fail;clear hW12 hbk14 f13 f14 f15 k16a k16b k16c hW13 k17a k17b k17c;refine (C5.out _).mono ?_;rintro e w14 ⟨rfl,hb⟩;have HX9_3:=uH hb HX9_3;have HX12_9:=uH hb HX12_9;have HX14_12:=uH hb HX14_12;have HOx:=hD (own_up HOx.out hb);have HOo:=hD (own_up HOo.out hb);have HB:=mH HB hb;clear hb;have hN:=heap_alloc_new w14 (.cells #[.bool false,.string ⟨#[]⟩,.string ⟨#[]⟩] 26);have hB:=HB.out.alloc HB.out.size (.cells #[.bool false,.string ⟨#[]⟩,.string ⟨#[]⟩] 26);have HG15_18:Hid (n0≤w14.heap.size):=hD (by rw [HN0.out];exact HB.out.size);have HL15_18:=hD (Array.getElem?_eq_some_iff.1 HX14_12.out).1;have HX9_3:=hD (hpU ((Below.refl _ w14).alloc (Nat.le_refl _) (.cells #[.bool false,.string ⟨#[]⟩,.string ⟨#[]⟩] 26)) HX9_3.out)
    have HX12_9:=hD (hpU ((Below.refl _ w14).alloc (Nat.le_refl _) (.cells #[.bool false,.string ⟨#[]⟩,.string ⟨#[]⟩] 26)) HX12_9.out);have HX14_12:=hD (hpU ((Below.refl _ w14).alloc (Nat.le_refl _) (.cells #[.bool false,.string ⟨#[]⟩,.string ⟨#[]⟩] 26)) HX14_12.out);have hrx:=own_new HOx.out;have HOx:=hD (HOx.out.alloc (.cells #[.bool false,.string ⟨#[]⟩,.string ⟨#[]⟩] 26));have hro:=own_new HOo.out;have HOo:=hD (HOo.out.alloc (.cells #[.bool false,.string ⟨#[]⟩,.string ⟨#[]⟩] 26));obtain ⟨W15,hW15⟩:∃W,w14.alloc (.cells #[.bool false,.string ⟨#[]⟩,.string ⟨#[]⟩] 26)=W:=⟨_,rfl⟩;obtain ⟨bk15,hbk15⟩:∃b,w14.heap.size=b:=⟨_,rfl⟩;rw [hW15] at hN hB HX9_3 HX12_9 HX14_12 HOx HOo;rw [hbk15] at hrx;have HRx_bk15:=hD hrx;clear hrx;rw [hbk15] at hro;have HRo_bk15:=hD hro;clear hro;rw [hbk15] at hN HG15_18 HL15_18;have HX15_18:=hD hN;have HB:=hD hB;clear hN hB
    have f19:W15.frozen? ⟨bk15,0,none⟩=false:=frz0 HX15_18.out 0;have f20:W15.frozen? ⟨bk15,1,none⟩=false:=frz0 HX15_18.out 1;have f21:W15.frozen? ⟨bk15,2,none⟩=false:=frz0 HX15_18.out 2;obtain ⟨k22a,k22b,k22c⟩:=c3 HX15_18;have hB:=(((HB.out.setCell (p:=⟨bk15,0,none⟩) (by rw [←HN0.out];exact HG15_18.out) (.bool fz.neg)).setCell (p:=⟨bk15,1,none⟩) (by rw [←HN0.out];exact HG15_18.out) (.string (encS fz.num))).setCell (p:=⟨bk15,2,none⟩) (by rw [←HN0.out];exact HG15_18.out) (.string (encS fz.den)));have hN:(((W15.setCell ⟨bk15,0,none⟩ (.bool fz.neg)).setCell ⟨bk15,1,none⟩ (.string (encS fz.num))).setCell ⟨bk15,2,none⟩ (.string (encS fz.den))).heap[bk15]? =some (.cells #[.bool fz.neg,.string (encS fz.num),.string (encS fz.den)] 26 (0,0)):=by simp [World.setCell,Array.getElem?_modify,HX15_18.out]
    have hx9_3:(((W15.setCell ⟨bk15,0,none⟩ (.bool fz.neg)).setCell ⟨bk15,1,none⟩ (.string (encS fz.num))).setCell ⟨bk15,2,none⟩ (.string (encS fz.den))).heap[bk9]? =_:=(row_else (row_else (row_else HX9_3.out (en3 HL12_9 HL14_12 HL15_18) _) (en3 HL12_9 HL14_12 HL15_18) _) (en3 HL12_9 HL14_12 HL15_18) _);have HX9_3:=hD hx9_3;clear hx9_3;have hx12_9:(((W15.setCell ⟨bk15,0,none⟩ (.bool fz.neg)).setCell ⟨bk15,1,none⟩ (.string (encS fz.num))).setCell ⟨bk15,2,none⟩ (.string (encS fz.den))).heap[bk12]? =_:=(row_else (row_else (row_else HX12_9.out (en2 HL14_12 HL15_18) _) (en2 HL14_12 HL15_18) _) (en2 HL14_12 HL15_18) _);have HX12_9:=hD hx12_9;clear hx12_9
    have hx14_12:(((W15.setCell ⟨bk15,0,none⟩ (.bool fz.neg)).setCell ⟨bk15,1,none⟩ (.string (encS fz.num))).setCell ⟨bk15,2,none⟩ (.string (encS fz.den))).heap[bk14]? =_:=(row_else (row_else (row_else HX14_12.out (en1 HL15_18) _) (en1 HL15_18) _) (en1 HL15_18) _);have HX14_12:=hD hx14_12;clear hx14_12;have hox:(((W15.setCell ⟨bk15,0,none⟩ (.bool fz.neg)).setCell ⟨bk15,1,none⟩ (.string (encS fz.num))).setCell ⟨bk15,2,none⟩ (.string (encS fz.den))).ownsRow (bk12+1) 26 3 u10 k (cells3 ((lsf (fun i=>ofR (zZ c ws i)) k).map rawR)):=(own_cell (own_cell (own_cell HOx.out HRx_bk15.out) HRx_bk15.out) HRx_bk15.out);have HOx:=hD hox;clear hox
    have hoo:(((W15.setCell ⟨bk15,0,none⟩ (.bool fz.neg)).setCell ⟨bk15,1,none⟩ (.string (encS fz.num))).setCell ⟨bk15,2,none⟩ (.string (encS fz.den))).ownsRow (bk12+1) 26 3 u11 k (cells3 ((lsf (ovR c ws) k).map rawR)):=(own_cell (own_cell (own_cell HOo.out HRo_bk15.out) HRo_bk15.out) HRo_bk15.out);have HOo:=hD hoo;clear hoo;obtain ⟨W16,hW16⟩:∃W,(((W15.setCell ⟨bk15,0,none⟩ (.bool fz.neg)).setCell ⟨bk15,1,none⟩ (.string (encS fz.num))).setCell ⟨bk15,2,none⟩ (.string (encS fz.den)))=W:=⟨_,rfl⟩;rw [hW16] at hN hB HX9_3 HX12_9 HX14_12 HOx HOo;have HX15_18:=hD hN;have HB:=hD hB;clear hN hB;obtain ⟨k23a,k23b,k23c⟩:=c3 HX15_18
    go_wp2_with (first|(at_builtin;refine wpList_append_moved rfl _ _ 32 rfl (bk12+1) 26 i0 (.agg #[.bool false,.string ⟨#[]⟩,.string ⟨#[]⟩]) 3 40 Tryz.underlying32 hi hz0 hz1 hz2 rfl (by decide) _ _ _ rfl (HOx.out.alloc _) ⟨W16.heap.size,0,none⟩ 1 1 [.bool fz.neg,.string (encS fz.num),.string (encS fz.den)] rfl rfl (cell_fresh3 W16 _ _ _ _) (cells3_one [rawR fz]) (by decide) (by unfold maxLen;have:=HLEN.out.2;have:=HKN.out;omega) (by have:=HLEN.out.2;have:=HKN.out;omega) (by have:=(Array.getElem?_eq_some_iff.1 HX12_9.out).1;simp;omega) ?_;intro v24 w17 hown24 hgrow24 hmv24;have hO24:=hD hown24;have hG24:=hD hgrow24;have hM24:=hD hmv24;obtain ⟨ka24_bk14,kb24_bk14,kc24_bk14⟩:=c3 (hD (grown_keep hgrow24 (hpU ((Below.refl _ W16).alloc (Nat.le_refl _) (.cells #[.bool fz.neg,.string (encS fz.num),.string (encS fz.den)] 26)) HX14_12.out) HRx_bk14.out));obtain ⟨ka24_bk15,kb24_bk15,kc24_bk15⟩:=c3 (hD (grown_keep hgrow24 (hpU ((Below.refl _ W16).alloc (Nat.le_refl _) (.cells #[.bool fz.neg,.string (encS fz.num),.string (encS fz.den)] 26)) HX15_18.out) HRx_bk15.out));clear hown24 hgrow24 hmv24)|fail)
    clear hW15 hbk15 f19 f20 f21 k22a k22b k22c hW16 k23a k23b k23c;have hb:=(Below.refl W16.heap.size W16).alloc (Nat.le_refl _) (.cells #[.bool fz.neg,.string (encS fz.num),.string (encS fz.den)] 26);have HRx_bk9n:=hD (moved_apart hM24.out HRx_bk9.out (Array.getElem?_eq_some_iff.1 (hpU hb HX9_3.out)).1);have HX9_3:=hD (grown_keep hG24.out (hpU hb HX9_3.out) HRx_bk9.out);have HRx_bk12n:=hD (moved_apart hM24.out HRx_bk12.out (Array.getElem?_eq_some_iff.1 (hpU hb HX12_9.out)).1);have HX12_9:=hD (grown_keep hG24.out (hpU hb HX12_9.out) HRx_bk12.out);have HRx_bk14n:=hD (moved_apart hM24.out HRx_bk14.out (Array.getElem?_eq_some_iff.1 (hpU hb HX14_12.out)).1);have HX14_12:=hD (grown_keep hG24.out (hpU hb HX14_12.out) HRx_bk14.out);have HRx_bk15n:=hD (moved_apart hM24.out HRx_bk15.out (Array.getElem?_eq_some_iff.1 (hpU hb HX15_18.out)).1)
    have HX15_18:=hD (grown_keep hG24.out (hpU hb HX15_18.out) HRx_bk15.out);have HB:=hD (below_own (HB.out.trans (hb.mono HB.out.size)) (own_base (HOx.out.alloc (.cells #[.bool fz.neg,.string (encS fz.num),.string (encS fz.den)] 26)) (by rw [←HN0.out];have:=HG12_9.out;omega)) hG24.out (Nat.le_refl _));have hA:=HAx_o.out.moved hM24.out (HOo.out.alloc (.cells #[.bool fz.neg,.string (encS fz.num),.string (encS fz.den)] 26));have HOo:=hD ((HOo.out.alloc (.cells #[.bool fz.neg,.string (encS fz.num),.string (encS fz.den)] 26)).kept hG24.out HAx_o.out);have HAx_o:=hD hA;clear hA;clear HRx_bk9;have HRx_bk9:=HRx_bk9n;clear HRx_bk9n;clear HRx_bk12;have HRx_bk12:=HRx_bk12n;clear HRx_bk12n;clear HRx_bk14;have HRx_bk14:=HRx_bk14n;clear HRx_bk14n;clear HRx_bk15;have HRx_bk15:=HRx_bk15n;clear HRx_bk15n;have HAo_x:=hD HAx_o.out.symm;have HOx:=hO24
    clear hb ka24_bk14 kb24_bk14 kc24_bk14 ka24_bk15 kb24_bk15 kc24_bk15;go_wp2_with fail;refine (C6.out _).mono ?_;rintro e w18 ⟨rfl,hb⟩;have HX9_3:=uH hb HX9_3;have HX12_9:=uH hb HX12_9;have HX14_12:=uH hb HX14_12;have HX15_18:=uH hb HX15_18;have HOx:=hD (own_up HOx.out hb);have HOo:=hD (own_up HOo.out hb);have HB:=mH HB hb;clear hb
    go_wp2_with (first|(at_builtin;refine wpList_append_moved rfl _ _ 32 rfl (bk12+1) 26 i0 (.agg #[.bool false,.string ⟨#[]⟩,.string ⟨#[]⟩]) 3 40 Tryz.underlying32 hi hz0 hz1 hz2 rfl (by decide) _ _ _ rfl (HOo.out.alloc _) ⟨w18.heap.size,0,none⟩ 1 1 [.bool o.neg,.string (encS o.num),.string (encS o.den)] rfl rfl (cell_fresh3 w18 _ _ _ _) (cells3_one [rawR o]) (by decide) (by unfold maxLen;have:=HLEN.out.2;have:=HKN.out;omega) (by have:=HLEN.out.2;have:=HKN.out;omega) (by have:=(Array.getElem?_eq_some_iff.1 HX12_9.out).1;simp;omega) ?_;intro v25 w19 hown25 hgrow25 hmv25;have hO25:=hD hown25;have hG25:=hD hgrow25;have hM25:=hD hmv25;obtain ⟨ka25_bk12,kb25_bk12,kc25_bk12⟩:=c3 (hD (grown_keep hgrow25 (hpU ((Below.refl _ w18).alloc (Nat.le_refl _) (.cells #[.bool o.neg,.string (encS o.num),.string (encS o.den)] 26)) HX12_9.out) HRo_bk12.out));obtain ⟨ka25_bk15,kb25_bk15,kc25_bk15⟩:=c3 (hD (grown_keep hgrow25 (hpU ((Below.refl _ w18).alloc (Nat.le_refl _) (.cells #[.bool o.neg,.string (encS o.num),.string (encS o.den)] 26)) HX15_18.out) HRo_bk15.out));clear hown25 hgrow25 hmv25)|fail)
    have hb:=(Below.refl w18.heap.size w18).alloc (Nat.le_refl _) (.cells #[.bool o.neg,.string (encS o.num),.string (encS o.den)] 26);have HRo_bk9n:=hD (moved_apart hM25.out HRo_bk9.out (Array.getElem?_eq_some_iff.1 (hpU hb HX9_3.out)).1);have HX9_3:=hD (grown_keep hG25.out (hpU hb HX9_3.out) HRo_bk9.out);have HRo_bk12n:=hD (moved_apart hM25.out HRo_bk12.out (Array.getElem?_eq_some_iff.1 (hpU hb HX12_9.out)).1);have HX12_9:=hD (grown_keep hG25.out (hpU hb HX12_9.out) HRo_bk12.out);have HRo_bk14n:=hD (moved_apart hM25.out HRo_bk14.out (Array.getElem?_eq_some_iff.1 (hpU hb HX14_12.out)).1);have HX14_12:=hD (grown_keep hG25.out (hpU hb HX14_12.out) HRo_bk14.out);have HRo_bk15n:=hD (moved_apart hM25.out HRo_bk15.out (Array.getElem?_eq_some_iff.1 (hpU hb HX15_18.out)).1);have HX15_18:=hD (grown_keep hG25.out (hpU hb HX15_18.out) HRo_bk15.out)
    have HB:=hD (below_own (HB.out.trans (hb.mono HB.out.size)) (own_base (HOo.out.alloc (.cells #[.bool o.neg,.string (encS o.num),.string (encS o.den)] 26)) (by rw [←HN0.out];have:=HG12_9.out;omega)) hG25.out (Nat.le_refl _));have hA:=HAo_x.out.moved hM25.out (HOx.out.alloc (.cells #[.bool o.neg,.string (encS o.num),.string (encS o.den)] 26));have HOx:=hD ((HOx.out.alloc (.cells #[.bool o.neg,.string (encS o.num),.string (encS o.den)] 26)).kept hG25.out HAo_x.out);have HAo_x:=hD hA;clear hA;clear HRo_bk9;have HRo_bk9:=HRo_bk9n;clear HRo_bk9n;clear HRo_bk12;have HRo_bk12:=HRo_bk12n;clear HRo_bk12n;clear HRo_bk14;have HRo_bk14:=HRo_bk14n;clear HRo_bk14n;clear HRo_bk15;have HRo_bk15:=HRo_bk15n;clear HRo_bk15n;have HAx_o:=hD HAo_x.out.symm;have HOo:=hO25;clear hb ka25_bk12 kb25_bk12 kc25_bk12 ka25_bk15 kb25_bk15 kc25_bk15;go_wp2_with fail;refine (C7.out _).mono ?_;rintro e w20 ⟨rfl,hb⟩
    have HX9_3:=uH hb HX9_3;have HX12_9:=uH hb HX12_9;have HX14_12:=uH hb HX14_12;have HX15_18:=uH hb HX15_18;have HOx:=hD (own_up HOx.out hb);have HOo:=hD (own_up HOo.out hb);have HB:=mH HB hb;clear hb;have f26:w20.frozen? ⟨bk12,0,none⟩=false:=frz0 HX12_9.out 0;have f27:w20.frozen? ⟨bk12,1,none⟩=false:=frz0 HX12_9.out 1;have f28:w20.frozen? ⟨bk12,2,none⟩=false:=frz0 HX12_9.out 2;obtain ⟨k29a,k29b,k29c⟩:=c3 HX12_9;have hB:=(((HB.out.setCell (p:=⟨bk12,0,none⟩) (by rw [←HN0.out];exact HG12_9.out) (.bool lf2.neg)).setCell (p:=⟨bk12,1,none⟩) (by rw [←HN0.out];exact HG12_9.out) (.string (encS lf2.num))).setCell (p:=⟨bk12,2,none⟩) (by rw [←HN0.out];exact HG12_9.out) (.string (encS lf2.den)))
    have hN:(((w20.setCell ⟨bk12,0,none⟩ (.bool lf2.neg)).setCell ⟨bk12,1,none⟩ (.string (encS lf2.num))).setCell ⟨bk12,2,none⟩ (.string (encS lf2.den))).heap[bk12]? =some (.cells #[.bool lf2.neg,.string (encS lf2.num),.string (encS lf2.den)] 26 (0,0)):=by simp [World.setCell,Array.getElem?_modify,HX12_9.out]
    have hx9_3:(((w20.setCell ⟨bk12,0,none⟩ (.bool lf2.neg)).setCell ⟨bk12,1,none⟩ (.string (encS lf2.num))).setCell ⟨bk12,2,none⟩ (.string (encS lf2.den))).heap[bk9]? =_:=(row_else (row_else (row_else HX9_3.out (en1 HL12_9) _) (en1 HL12_9) _) (en1 HL12_9) _);have HX9_3:=hD hx9_3;clear hx9_3;have hx14_12:(((w20.setCell ⟨bk12,0,none⟩ (.bool lf2.neg)).setCell ⟨bk12,1,none⟩ (.string (encS lf2.num))).setCell ⟨bk12,2,none⟩ (.string (encS lf2.den))).heap[bk14]? =_:=(row_else (row_else (row_else HX14_12.out (ne1 HL14_12) _) (ne1 HL14_12) _) (ne1 HL14_12) _);have HX14_12:=hD hx14_12;clear hx14_12;have hx15_18:(((w20.setCell ⟨bk12,0,none⟩ (.bool lf2.neg)).setCell ⟨bk12,1,none⟩ (.string (encS lf2.num))).setCell ⟨bk12,2,none⟩ (.string (encS lf2.den))).heap[bk15]? =_:=(row_else (row_else (row_else HX15_18.out (ne2 HL14_12 HL15_18) _) (ne2 HL14_12 HL15_18) _) (ne2 HL14_12 HL15_18) _)
    have HX15_18:=hD hx15_18;clear hx15_18;have hox:(((w20.setCell ⟨bk12,0,none⟩ (.bool lf2.neg)).setCell ⟨bk12,1,none⟩ (.string (encS lf2.num))).setCell ⟨bk12,2,none⟩ (.string (encS lf2.den))).ownsRow (bk12+1) 26 3 v24 (k+1) (cells3 ((lsf (fun i=>ofR (zZ c ws i)) k).map rawR)++[.bool fz.neg,.string (encS fz.num),.string (encS fz.den)]):=(own_cell (own_cell (own_cell HOx.out HRx_bk12.out) HRx_bk12.out) HRx_bk12.out);have HOx:=hD hox;clear hox;have hoo:(((w20.setCell ⟨bk12,0,none⟩ (.bool lf2.neg)).setCell ⟨bk12,1,none⟩ (.string (encS lf2.num))).setCell ⟨bk12,2,none⟩ (.string (encS lf2.den))).ownsRow (bk12+1) 26 3 v25 (k+1) (cells3 ((lsf (ovR c ws) k).map rawR)++[.bool o.neg,.string (encS o.num),.string (encS o.den)]):=(own_cell (own_cell (own_cell HOo.out HRo_bk12.out) HRo_bk12.out) HRo_bk12.out);have HOo:=hD hoo;clear hoo
    obtain ⟨W21,hW21⟩:∃W,(((w20.setCell ⟨bk12,0,none⟩ (.bool lf2.neg)).setCell ⟨bk12,1,none⟩ (.string (encS lf2.num))).setCell ⟨bk12,2,none⟩ (.string (encS lf2.den)))=W:=⟨_,rfl⟩;rw [hW21] at hN hB HX9_3 HX14_12 HX15_18 HOx HOo;have HX12_9:=hD hN;have HB:=hD hB;clear hN hB;have hwi:IntKind.i64.wrap ((k:Int)+1)=((k+1:Nat):Int):=by rw [IntWalk.i64_in _ (by have:=HLEN.out.2;have:=HKN.out;omega)];omega
    go_wp2_with fail;clear f26 f27 f28 k29a k29b k29c hW21 hwi
    go_roundw
    case rel=>exact ⟨k+1,by have:=HKN.out;omega,by first|rfl|go_num,HX9_3,hD (by rw [HL2.out];exact HX12_9.out),hD (own_succ HOx.out HFE.out),hD (own_succ HOo.out HOE.out),HAx_o,HB⟩
    case measure=>have:=HKN.out;simp [intOf];omega
   ·have hkn:n=k:=by omega
    subst hkn;clear hlt hk;obtain ⟨gx,cx,rx,hvx,hbx,hcx,hnx⟩:=own_block HOx.out (lsf_len _ _) (by have:=HLEN.out.1;omega);obtain ⟨go,co,ro,hvo,hbo,hco,hno⟩:=own_block HOo.out (lsf_len _ _) (by have:=HLEN.out.1;omega);have hne:gx≠go:=by
     have h:=HAx_o.out;rw [hvx,hvo] at h;rcases h with h|h
     ·cases h
     ·exact fun e=>h (by rw [e];rfl)
    subst hvx;subst hvo;rw [lsf_congr (g:=bQ c ws []) (fun i _=>by unfold bQ;simp)] at hcx;have hl:=HX12_9.out;rw [show lfZ c ws n=lefZ c ws from by rw [←HNN.out];rfl] at hl;have HNE:=hD hne;have HGgx:Hid (n0≤gx):=hD (by have:=HG12_9.out;omega);have HGgo:Hid (n0≤go):=hD (by have:=HG12_9.out;omega);have HN1:Hid (bk12≠gx):=hD (by omega);have HN2:Hid (bk12≠go):=hD (by omega);have HXgx:=hD hcx;have HXgo:=hD hco;have HX12_9:=hD hl;have hge:¬(n:Int)<(n:Int):=by omega
    have hl1:=(Array.getElem?_eq_some_iff.1 hcx).1;have hl2:=(Array.getElem?_eq_some_iff.1 hco).1;have hl3:=(Array.getElem?_eq_some_iff.1 hl).1;clear hne hbx hbo hcx hco hnx hno HOx HOo HAx_o hl;have hmk:=mk_bools n (by have:=HLEN.out.2;omega) wr;have hN:=heap_alloc_new wr (.cells ((boo (fun _=>false) n).toArray) 4);have hB:=HB.out.alloc HB.out.size (.cells ((boo (fun _=>false) n).toArray) 4);have HGt_30:Hid (n0≤wr.heap.size):=hD (by rw [HN0.out];exact HB.out.size);have HLt_30:=hD (Array.getElem?_eq_some_iff.1 HXgo.out).1;have HX12_9:=hD (hpU ((Below.refl _ wr).alloc (Nat.le_refl _) (.cells ((boo (fun _=>false) n).toArray) 4)) HX12_9.out);have HXgx:=hD (hpU ((Below.refl _ wr).alloc (Nat.le_refl _) (.cells ((boo (fun _=>false) n).toArray) 4)) HXgx.out);have HXgo:=hD (hpU ((Below.refl _ wr).alloc (Nat.le_refl _) (.cells ((boo (fun _=>false) n).toArray) 4)) HXgo.out)
    obtain ⟨W22,hW22⟩:∃W,wr.alloc (.cells ((boo (fun _=>false) n).toArray) 4)=W:=⟨_,rfl⟩;obtain ⟨bkt,hbkt⟩:∃b,wr.heap.size=b:=⟨_,rfl⟩;rw [hW22] at hN hB HX12_9 HXgx HXgo;rw [hbkt] at hN HGt_30 HLt_30;have HXt_30:=hD hN;have HB:=hD hB;clear hN hB;have HNt1:Hid (gx≠bkt):=hD (by omega);have HNt2:Hid (go≠bkt):=hD (by omega);have HNt3:Hid (bk12≠bkt):=hD (by omega);clear hl1 hl2 hl3;go_wp2_with fail;clear hW22 hbkt hmk hge
    go_loopw [17] (fun _ wr=>∃j:Nat,j≤(lefZ c ws).toNat∧Hid (wr.heap[bk12]? =some (.cells #[.bool (ofR (lefZ c ws-(j:Int))).neg,.string (encS (ofR (lefZ c ws-(j:Int))).num),.string (encS (ofR (lefZ c ws-(j:Int))).den)] 26 (0,0)))∧Hid (wr.heap[gx]? =some (.cells (cel (lsf (bQ c ws (s.take j)) n)++rx).toArray 26 (0,0)))∧Hid (wr.heap[go]? =some (.cells (cel (lsf (ovR c ws) n)++ro).toArray 26 (0,0)))∧Hid (wr.heap[bkt]? =some (.cells (boo (fun i=>decide (i ∈ s.take j)) n).toArray 4 (0,0)))∧Hid (Below wq.heap.size wq wr)) (fun _ wr=>numAt wr bk12)
    case atStart=>exact ⟨0,Nat.zero_le _,hD (by rw [show lefZ c ws-((0:Nat):Int)=lefZ c ws from by simp];exact HX12_9.out),HXgx,HXgo,hD (by rw [show (fun i=>decide (i ∈ s.take 0))=(fun _=>false) from by funext i;simp];exact HXt_30.out),HB⟩
    case round =>
     obtain ⟨j,hj,HX12_9,HXgx,HXgo,HXt_30,HB⟩:=hrel;have hl0:=HW.out.left_nn (c:=c);have hl1:=HW.out.left_le (c:=c);rw [HNN.out] at hl1;have HLF:=hD (And.intro hl0 hl1)
     by_cases hlt:j<(lefZ c ws).toNat
     ·have z_l:Rz (ofR (lefZ c ws-(j:Int))) 8:=of_sz (by have:=HLEN.out.2;omega);have m1:=fun w=>rRatSign_r (IsR.of (ofR_ok (lefZ c ws-(j:Int))) z_l) (by decide) w
      rw [sgn_of,if_neg (by omega),if_neg (by omega)] at m1;have m2:=fun w=>rRatOf_any 1 w (by decide) (by decide)
      have m3:=fun w=>rRatSub_r (IsR.of (ofR_ok (lefZ c ws-(j:Int))) z_l) (IsR.of (ofR_ok 1) (of_sz (n:=1) (by decide))) (by decide) (by decide) w
      rw [show subR (ofR (lefZ c ws-(j:Int))) (ofR 1)=ofR (lefZ c ws-((j+1:Nat):Int)) from by rw [sub_of];congr 1;omega] at m3;obtain ⟨lc,hlc⟩:∃x,ofR (lefZ c ws-(j:Int))=x:=⟨_,rfl⟩;rw [hlc] at m1 m3 HX12_9;obtain ⟨lc2,hlc2⟩:∃x,ofR (lefZ c ws-((j+1:Nat):Int))=x:=⟨_,rfl⟩;rw [hlc2] at m3;obtain ⟨o1,ho1⟩:∃x,ofR 1=x:=⟨_,rfl⟩;rw [ho1] at m2 m3;have HLC:=hD hlc;have HLC2:=hD hlc2;have HO1:=hD ho1;have HJ:=hD hlt;have HM0:=hD (numAt_row HX12_9.out);have C4:Hid (∀w,Gv 35 #[rtV lc] w (.int .i64 1)):=hD m1;have C5:Hid (∀w,Gv 17 #[.int .i64 1] w (.agg #[.bool o1.neg,.string (encS o1.num),.string (encS o1.den)])):=hD m2;have C6:Hid (∀w,Gv 27 #[rtV lc,rtV o1] w (.agg #[.bool lc2.neg,.string (encS lc2.num),.string (encS lc2.den)])):=hD m3;clear m1 m2 m3 hlc hlc2 ho1 z_l hl0 hl1 hj hlt;obtain ⟨k31a,k31b,k31c⟩:=c3 HX12_9;go_wp2_with fail;clear k31a k31b k31c;refine (C4.out _).mono ?_
      rintro e w23 ⟨rfl,hb⟩;have HX12_9:=uH hb HX12_9;have HXgx:=uH hb HXgx;have HXgo:=uH hb HXgo;have HXt_30:=uH hb HXt_30;have HB:=mH HB hb;clear hb;go_wp2_with fail
      go_loopw [17,18] (fun v17 v18 wr2=>∃(k:Nat) (o:Option Nat),k≤n∧v17=.int .i64 (besI o)∧v18=.int .i64 (k:Int)∧Hid (Best (ovQ c ws) (s.take j) k o)∧Hid (wr2.heap[bk12]? =some (.cells #[.bool (lc).neg,.string (encS (lc).num),.string (encS (lc).den)] 26 (0,0)))∧Hid (wr2.heap[gx]? =some (.cells (cel (lsf (bQ c ws (s.take j)) n)++rx).toArray 26 (0,0)))∧Hid (wr2.heap[go]? =some (.cells (cel (lsf (ovR c ws) n)++ro).toArray 26 (0,0)))∧Hid (wr2.heap[bkt]? =some (.cells (boo (fun i=>decide (i ∈ s.take j)) n).toArray 4 (0,0)))∧Hid (Below wq.heap.size wq wr2)) (fun _ v _=>n-(intOf v).toNat)
      case atStart=>exact ⟨0,none,by omega,rfl,rfl,hD (best_zero _ _),HX12_9,HXgx,HXgo,HXt_30,HB⟩
      case round =>
       obtain ⟨k,o,hk,rfl,rfl,HBE,HX12_9,HXgx,HXgo,HXt_30,HB⟩:=hrel
       by_cases hkn:k<n
       ·have hkn' :(k:Int)<(n:Int):=by omega
        have HKN:=hD hkn;clear hk hkn
        by_cases hkt:k ∈ s.take j
        ·have HTK:Hid (decide (k ∈ s.take j)=true):=hD (decide_eq_true hkt);have HKT:=hD hkt;clear hkt;go_wp2_with fail;clear hkn';refine wpVl (w:=wr) (by kernel_rfl) (fun ix v _=>v=ErSplit_c_24_1 n k bkt ix) (fun t=>(decide (77≤t)&&decide (t<98))) (by kernel_rfl) (by kernel_rfl) (by kernel_rfl) (fun _ _ _ _ _ h=>h) ?_ ?_
         ·intro i hi ov_ listed av_ w hR K hK;have ho:=hR.at_;have hi:i<21:=hi;have hii:i=0∨i=1∨i=2∨i=3∨i=4∨i=5∨i=6∨i=7∨i=8∨i=9∨i=10∨i=11∨i=12∨i=13∨i=14∨i=15∨i=16∨i=17∨i=18∨i=19∨i=20:=by omega
          rcases hii with rfl|rfl|rfl|rfl|rfl|rfl|rfl|rfl|rfl|rfl|rfl|rfl|rfl|rfl|rfl|rfl|rfl|rfl|rfl|rfl|rfl<;>(simp at ho;subst ho)
          ·have b16:av_.tmps.getD 16 undef=.slice (some ⟨bkt,0,none⟩) n n:=hR.b 16;refine pSq ?_;go_simp;exact hK _ _ rfl rB
          ·have b18:av_.tmps.getD 18 undef=.int .i64 (k:Int):=hR.b 18;refine pSq ?_;go_simp;exact hK _ _ rfl rB
          ·have e0:av_.tmps.getD 77 undef=.slice (some ⟨bkt,0,none⟩) n n:=hR.d 0;have e1:av_.tmps.getD 78 undef=.int .i64 (k:Int):=hR.d 1;have q1:(k:Int)<(n:Int):=by have:=HKN.out;omega
           refine pSq ?_;go_simp;exact hK _ _ rfl rB
          ·have e2:av_.tmps.getD 79 undef=.pointer (some ⟨bkt,k,none⟩):=hR.d 2;have cx:=boo_cell (hpU hR.below HXt_30.out) HKN.out;rw [HTK.out] at cx;refine pSq ?_;go_simp;exact hK _ _ rfl rB
          ·have e3:av_.tmps.getD 80 undef=.bool true:=hR.d 3;refine pSq ?_;go_simp;exact hK _ _ rfl rB
          ·have e4:av_.tmps.getD 81 undef=.bool false:=hR.d 4;refine pSq ?_;go_simp;exact hK _ _ rfl rB
          ·have e5:av_.tmps.getD 82 undef=.bool false:=hR.g 5;refine gSkp rfl rfl rfl (b:=true) e5 (by decide) ?_;exact hK _ _ rfl rB
          ·have e5:av_.tmps.getD 82 undef=.bool false:=hR.g 5;refine gSkp rfl rfl rfl (b:=true) e5 (by decide) ?_;exact hK _ _ rfl rB
          ·have e5:av_.tmps.getD 82 undef=.bool false:=hR.g 5;refine gSkp rfl rfl rfl (b:=true) e5 (by decide) ?_;exact hK _ _ rfl rB
          ·have e8:av_.tmps.getD 85 undef=undef:=hR.g 8;refine guard_skip_u rfl rfl rfl e8 ?_;exact hK _ _ rfl rB
          ·have e8:av_.tmps.getD 85 undef=undef:=hR.g 8;refine guard_skip_u rfl rfl rfl e8 ?_;exact hK _ _ rfl rB
          ·have e8:av_.tmps.getD 85 undef=undef:=hR.g 8;refine guard_skip_u rfl rfl rfl e8 ?_;exact hK _ _ rfl rB
          ·have e8:av_.tmps.getD 85 undef=undef:=hR.g 8;refine guard_skip_u rfl rfl rfl e8 ?_;exact hK _ _ rfl rB
          ·have e8:av_.tmps.getD 85 undef=undef:=hR.g 8;refine guard_skip_u rfl rfl rfl e8 ?_;exact hK _ _ rfl rB
          ·have e8:av_.tmps.getD 85 undef=undef:=hR.g 8;refine guard_skip_u rfl rfl rfl e8 ?_;exact hK _ _ rfl rB
          ·have e8:av_.tmps.getD 85 undef=undef:=hR.g 8;refine guard_skip_u rfl rfl rfl e8 ?_;exact hK _ _ rfl rB
          ·have e8:av_.tmps.getD 85 undef=undef:=hR.g 8;refine guard_skip_u rfl rfl rfl e8 ?_;exact hK _ _ rfl rB
          ·have e8:av_.tmps.getD 85 undef=undef:=hR.g 8;refine guard_skip_u rfl rfl rfl e8 ?_;exact hK _ _ rfl rB
          ·have e8:av_.tmps.getD 85 undef=undef:=hR.g 8;refine guard_skip_u rfl rfl rfl e8 ?_;exact hK _ _ rfl rB
          ·have e5:av_.tmps.getD 82 undef=.bool false:=hR.g 5;refine gSkp rfl rfl rfl (b:=true) e5 (by decide) ?_;exact hK _ _ rfl rB
          ·have e5:av_.tmps.getD 82 undef=.bool false:=hR.d 5;have e19:av_.tmps.getD 96 undef=undef:=hR.d 19;refine pSq ?_;go_simp;exact hK _ _ rfl rB
         ·intro sv_ w hS hb;have e20:sv_ 97=.bool false:=hS 20 (by decide);simp only [over,ovL,Nat.reduceAdd,Nat.reduceLeDiff,Nat.reduceLT];have HB:=mH HB hb;have HX12_9:=uH hb HX12_9;have HXgx:=uH hb HXgx;have HXgo:=uH hb HXgo;have HXt_30:=uH hb HXt_30;obtain ⟨w24,hw⟩:∃w8,w8=w:=⟨_,rfl⟩;subst hw;rw [e20];clear hS hb e20;have hwi:IntKind.i64.wrap ((k:Int)+1)=((k+1:Nat):Int):=by rw [IntWalk.i64_in _ (by have:=HLEN.out.2;have:=HKN.out;omega)];omega
          go_wp2_with fail;clear hwi
          go_roundw
          case rel=>exact ⟨k+1,o,by have:=HKN.out;omega,by first|rfl|go_num,by first|rfl|go_num,hD (best_taken HBE.out HKT.out),HX12_9,HXgx,HXgo,HXt_30,HB⟩
          case measure=>have:=HKN.out;simp [intOf];omega
        ·have HTK:Hid (decide (k ∈ s.take j)=false):=hD (decide_eq_false hkt);have HKT:=hD hkt;clear hkt;cases o with
         | none =>
          rw [show besI none= -1 from rfl];go_wp2_with fail;clear hkn';refine wpVl (w:=wr) (by kernel_rfl) (fun ix v _=>v=ErSplit_c_24_2 n k bkt ix) (fun t=>(decide (77≤t)&&decide (t<98))) (by kernel_rfl) (by kernel_rfl) (by kernel_rfl) (fun _ _ _ _ _ h=>h) ?_ ?_
          ·intro i hi ov_ listed av_ w hR K hK;have ho:=hR.at_;have hi:i<21:=hi;have hii:i=0∨i=1∨i=2∨i=3∨i=4∨i=5∨i=6∨i=7∨i=8∨i=9∨i=10∨i=11∨i=12∨i=13∨i=14∨i=15∨i=16∨i=17∨i=18∨i=19∨i=20:=by omega
           rcases hii with rfl|rfl|rfl|rfl|rfl|rfl|rfl|rfl|rfl|rfl|rfl|rfl|rfl|rfl|rfl|rfl|rfl|rfl|rfl|rfl|rfl<;>(simp at ho;subst ho)
           ·have b16:av_.tmps.getD 16 undef=.slice (some ⟨bkt,0,none⟩) n n:=hR.b 16;refine pSq ?_;go_simp;exact hK _ _ rfl rB
           ·have b18:av_.tmps.getD 18 undef=.int .i64 (k:Int):=hR.b 18;refine pSq ?_;go_simp;exact hK _ _ rfl rB
           ·have e0:av_.tmps.getD 77 undef=.slice (some ⟨bkt,0,none⟩) n n:=hR.d 0;have e1:av_.tmps.getD 78 undef=.int .i64 (k:Int):=hR.d 1;have q1:(k:Int)<(n:Int):=by have:=HKN.out;omega
            refine pSq ?_;go_simp;exact hK _ _ rfl rB
           ·have e2:av_.tmps.getD 79 undef=.pointer (some ⟨bkt,k,none⟩):=hR.d 2;have cx:=boo_cell (hpU hR.below HXt_30.out) HKN.out;rw [HTK.out] at cx;refine pSq ?_;go_simp;exact hK _ _ rfl rB
           ·have e3:av_.tmps.getD 80 undef=.bool false:=hR.d 3;refine pSq ?_;go_simp;exact hK _ _ rfl rB
           ·have e4:av_.tmps.getD 81 undef=.bool true:=hR.d 4;refine pSq ?_;go_simp;exact hK _ _ rfl rB
           ·have e5:av_.tmps.getD 82 undef=.bool true:=hR.g 5;have b17:av_.tmps.getD 17 undef=.int .i64 (-1):=hR.b 17;refine gSq (b:=true) e5 ?_;go_simp;exact hK _ _ rfl rB
           ·have e6:av_.tmps.getD 83 undef=.int .i64 (-1):=hR.d 6;have e5:av_.tmps.getD 82 undef=.bool true:=hR.g 5;refine gSq (b:=true) e5 ?_;go_simp;exact hK _ _ rfl rB
           ·have e7:av_.tmps.getD 84 undef=.bool true:=hR.d 7;have e5:av_.tmps.getD 82 undef=.bool true:=hR.g 5;refine gSq (b:=true) e5 ?_;go_simp;exact hK _ _ rfl rB
           ·have e8:av_.tmps.getD 85 undef=.bool true:=hR.g 8;refine gSkp rfl rfl rfl (b:=false) e8 (by decide) ?_;exact hK _ _ rfl rB
           ·have e8:av_.tmps.getD 85 undef=.bool true:=hR.g 8;refine gSkp rfl rfl rfl (b:=false) e8 (by decide) ?_;exact hK _ _ rfl rB
           ·have e8:av_.tmps.getD 85 undef=.bool true:=hR.g 8;refine gSkp rfl rfl rfl (b:=false) e8 (by decide) ?_;exact hK _ _ rfl rB
           ·have e8:av_.tmps.getD 85 undef=.bool true:=hR.g 8;refine gSkp rfl rfl rfl (b:=false) e8 (by decide) ?_;exact hK _ _ rfl rB
           ·have e8:av_.tmps.getD 85 undef=.bool true:=hR.g 8;refine gSkp rfl rfl rfl (b:=false) e8 (by decide) ?_;exact hK _ _ rfl rB
           ·have e8:av_.tmps.getD 85 undef=.bool true:=hR.g 8;refine gSkp rfl rfl rfl (b:=false) e8 (by decide) ?_;exact hK _ _ rfl rB
           ·have e8:av_.tmps.getD 85 undef=.bool true:=hR.g 8;refine gSkp rfl rfl rfl (b:=false) e8 (by decide) ?_;exact hK _ _ rfl rB
           ·have e8:av_.tmps.getD 85 undef=.bool true:=hR.g 8;refine gSkp rfl rfl rfl (b:=false) e8 (by decide) ?_;exact hK _ _ rfl rB
           ·have e8:av_.tmps.getD 85 undef=.bool true:=hR.g 8;refine gSkp rfl rfl rfl (b:=false) e8 (by decide) ?_;exact hK _ _ rfl rB
           ·have e8:av_.tmps.getD 85 undef=.bool true:=hR.g 8;refine gSkp rfl rfl rfl (b:=false) e8 (by decide) ?_;exact hK _ _ rfl rB
           ·have e8:av_.tmps.getD 85 undef=.bool true:=hR.d 8;have e18:av_.tmps.getD 95 undef=undef:=hR.d 18;have e5:av_.tmps.getD 82 undef=.bool true:=hR.g 5;refine gSq (b:=true) e5 ?_;go_simp;exact hK _ _ rfl rB
           ·have e5:av_.tmps.getD 82 undef=.bool true:=hR.d 5;have e19:av_.tmps.getD 96 undef=.bool true:=hR.d 19;refine pSq ?_;go_simp;exact hK _ _ rfl rB
          ·intro sv_ w hS hb;have e20:sv_ 97=.bool true:=hS 20 (by decide);simp only [over,ovL,Nat.reduceAdd,Nat.reduceLeDiff,Nat.reduceLT];have HB:=mH HB hb;have HX12_9:=uH hb HX12_9;have HXgx:=uH hb HXgx;have HXgo:=uH hb HXgo;have HXt_30:=uH hb HXt_30;obtain ⟨w25,hw⟩:∃w8,w8=w:=⟨_,rfl⟩;subst hw;rw [e20];clear hS hb e20;have hwi:IntKind.i64.wrap ((k:Int)+1)=((k+1:Nat):Int):=by rw [IntWalk.i64_in _ (by have:=HLEN.out.2;have:=HKN.out;omega)];omega
           go_wp2_with fail;clear hwi
           go_roundw
           case rel=>exact ⟨k+1,some k,by have:=HKN.out;omega,by first|rfl|go_num,by first|rfl|go_num,hD (best_first HBE.out HKT.out),HX12_9,HXgx,HXgo,HXt_30,HB⟩
           case measure=>have:=HKN.out;simp [intOf];omega
         | some bs =>
          rw [show besI (some bs)=(bs:Int) from rfl];have hbn:bs<n:=by have:=HBE.out.1;have:=HKN.out;omega
          have z1:=ovR_sz HW.out HZS.out (by rw [HNN.out];have:=HLEN.out.2;omega) HCN.out (show k<ws.length by rw [HNN.out];exact HKN.out);have z2:=ovR_sz HW.out HZS.out (by rw [HNN.out];have:=HLEN.out.2;omega) HCN.out (show bs<ws.length by rw [HNN.out];exact hbn);have m1:=fun w=>rRatCmp_r (IsR.of (HW.out.ovR_ok (c:=c) k) z1.2) (IsR.of (HW.out.ovR_ok (c:=c) bs) z2.2) (by decide) (by decide) w
          have hcq:0<cmpR (ovR c ws k) (ovR c ws bs)↔ovQ c ws bs<ovQ c ws k:=by rw [cmpR_q (HW.out.ovR_ok k) (HW.out.ovR_ok bs),sgQ_gt0,HW.out.q_ov,HW.out.q_ov];grind
          obtain ⟨ox,hox⟩:∃x,ovR c ws k=x:=⟨_,rfl⟩;obtain ⟨ob,hob⟩:∃x,ovR c ws bs=x:=⟨_,rfl⟩;have hl1:=lsf_at (ovR c ws) HKN.out;have hl2:=lsf_at (ovR c ws) hbn;rw [hox,hob] at m1 hcq;rw [hox] at hl1;rw [hob] at hl2;obtain ⟨cm,hcm⟩:∃x,cmpR ox ob=x:=⟨_,rfl⟩;rw [hcm] at m1 hcq;obtain ⟨P,hP⟩:∃x,decide (0<cm)=x:=⟨_,rfl⟩;have HP:=hD hP;have HL1:=hD hl1;have HL2:=hD hl2;have HBN:=hD hbn;have HCQ:=hD hcq;have C7:Hid (∀w,Gv 28 #[rtV ox,rtV ob] w (.int .i64 cm)):=hD m1;clear hP hl1 hl2 hbn hcq hcm hox hob m1 z1 z2;go_wp2_with fail;clear hkn';refine wpVl (w:=wr) (by kernel_rfl) (fun ix v _=>v=ErSplit_c_24_3 n k ox ob bs go bkt co P cm ix) (fun t=>(decide (77≤t)&&decide (t<98))) (by kernel_rfl) (by kernel_rfl) (by kernel_rfl) (fun _ _ _ _ _ h=>h) ?_ ?_
          ·intro i hi ov_ listed av_ w hR K hK;have ho:=hR.at_;have hi:i<21:=hi;have hii:i=0∨i=1∨i=2∨i=3∨i=4∨i=5∨i=6∨i=7∨i=8∨i=9∨i=10∨i=11∨i=12∨i=13∨i=14∨i=15∨i=16∨i=17∨i=18∨i=19∨i=20:=by omega
           rcases hii with rfl|rfl|rfl|rfl|rfl|rfl|rfl|rfl|rfl|rfl|rfl|rfl|rfl|rfl|rfl|rfl|rfl|rfl|rfl|rfl|rfl<;>(simp at ho;subst ho)
           ·have b16:av_.tmps.getD 16 undef=.slice (some ⟨bkt,0,none⟩) n n:=hR.b 16;refine pSq ?_;go_simp;exact hK _ _ rfl rB
           ·have b18:av_.tmps.getD 18 undef=.int .i64 (k:Int):=hR.b 18;refine pSq ?_;go_simp;exact hK _ _ rfl rB
           ·have e0:av_.tmps.getD 77 undef=.slice (some ⟨bkt,0,none⟩) n n:=hR.d 0;have e1:av_.tmps.getD 78 undef=.int .i64 (k:Int):=hR.d 1;have q1:(k:Int)<(n:Int):=by have:=HKN.out;omega
            refine pSq ?_;go_simp;exact hK _ _ rfl rB
           ·have e2:av_.tmps.getD 79 undef=.pointer (some ⟨bkt,k,none⟩):=hR.d 2;have cx:=boo_cell (hpU hR.below HXt_30.out) HKN.out;rw [HTK.out] at cx;refine pSq ?_;go_simp;exact hK _ _ rfl rB
           ·have e3:av_.tmps.getD 80 undef=.bool false:=hR.d 3;refine pSq ?_;go_simp;exact hK _ _ rfl rB
           ·have e4:av_.tmps.getD 81 undef=.bool true:=hR.d 4;refine pSq ?_;go_simp;exact hK _ _ rfl rB
           ·have e5:av_.tmps.getD 82 undef=.bool true:=hR.g 5;have b17:av_.tmps.getD 17 undef=.int .i64 (bs:Int):=hR.b 17;refine gSq (b:=true) e5 ?_;go_simp;exact hK _ _ rfl rB
           ·have e6:av_.tmps.getD 83 undef=.int .i64 (bs:Int):=hR.d 6;have e5:av_.tmps.getD 82 undef=.bool true:=hR.g 5;have q2:¬(bs:Int)<0:=by omega
            refine gSq (b:=true) e5 ?_;go_simp;exact hK _ _ rfl rB
           ·have e7:av_.tmps.getD 84 undef=.bool false:=hR.d 7;have e5:av_.tmps.getD 82 undef=.bool true:=hR.g 5;refine gSq (b:=true) e5 ?_;go_simp;exact hK _ _ rfl rB
           ·have e8:av_.tmps.getD 85 undef=.bool false:=hR.g 8;have b11:av_.tmps.getD 11 undef=.slice (some ⟨go,0,none⟩) n co:=hR.b 11;refine gSq (b:=false) e8 ?_;go_simp;exact hK _ _ rfl rB
           ·have e8:av_.tmps.getD 85 undef=.bool false:=hR.g 8;have b18:av_.tmps.getD 18 undef=.int .i64 (k:Int):=hR.b 18;refine gSq (b:=false) e8 ?_;go_simp;exact hK _ _ rfl rB
           ·have e9:av_.tmps.getD 86 undef=.slice (some ⟨go,0,none⟩) n co:=hR.d 9;have e10:av_.tmps.getD 87 undef=.int .i64 (k:Int):=hR.d 10;have e8:av_.tmps.getD 85 undef=.bool false:=hR.g 8;have q1:(k:Int)<(n:Int):=by have:=HKN.out;omega
            refine gSq (b:=false) e8 ?_;go_simp;exact hK _ _ rfl rB
           ·have e11:av_.tmps.getD 88 undef=.pointer (some ⟨go,k*3,none⟩):=hR.d 11;have e8:av_.tmps.getD 85 undef=.bool false:=hR.g 8;obtain ⟨d0,d1,d2⟩:=celx_cells (hpU hR.below HXgo.out) HL1.out;refine gSq (b:=false) e8 ?_;go_simp;exact hK _ _ rfl rB
           ·have e8:av_.tmps.getD 85 undef=.bool false:=hR.g 8;have b11:av_.tmps.getD 11 undef=.slice (some ⟨go,0,none⟩) n co:=hR.b 11;refine gSq (b:=false) e8 ?_;go_simp;exact hK _ _ rfl rB
           ·have e8:av_.tmps.getD 85 undef=.bool false:=hR.g 8;have b17:av_.tmps.getD 17 undef=.int .i64 (bs:Int):=hR.b 17;refine gSq (b:=false) e8 ?_;go_simp;exact hK _ _ rfl rB
           ·have e13:av_.tmps.getD 90 undef=.slice (some ⟨go,0,none⟩) n co:=hR.d 13;have e14:av_.tmps.getD 91 undef=.int .i64 (bs:Int):=hR.d 14;have e8:av_.tmps.getD 85 undef=.bool false:=hR.g 8;have q1:(bs:Int)<(n:Int):=by have:=HBN.out;omega
            refine gSq (b:=false) e8 ?_;go_simp;exact hK _ _ rfl rB
           ·have e15:av_.tmps.getD 92 undef=.pointer (some ⟨go,bs*3,none⟩):=hR.d 15;have e8:av_.tmps.getD 85 undef=.bool false:=hR.g 8;obtain ⟨d0,d1,d2⟩:=celx_cells (hpU hR.below HXgo.out) HL2.out;refine gSq (b:=false) e8 ?_;go_simp;exact hK _ _ rfl rB
           ·have e12:av_.tmps.getD 89 undef=.agg #[.bool ox.neg,.string (encS ox.num),.string (encS ox.den)]:=hR.d 12;have e16:av_.tmps.getD 93 undef=.agg #[.bool ob.neg,.string (encS ob.num),.string (encS ob.den)]:=hR.d 16;have e8:av_.tmps.getD 85 undef=.bool false:=hR.g 8;refine gSq (b:=false) e8 ?_;go_simp;refine (C7.out w).mono ?_;rintro e w' ⟨rfl,hb⟩;exact hK _ _ (rfl) hb
           ·have e17:av_.tmps.getD 94 undef=.int .i64 cm:=hR.d 17;have e8:av_.tmps.getD 85 undef=.bool false:=hR.g 8;have hp:=HP.out;refine gSq (b:=false) e8 ?_;go_simp;exact hK _ _ rfl rB
           ·have e8:av_.tmps.getD 85 undef=.bool false:=hR.d 8;have e18:av_.tmps.getD 95 undef=.bool P:=hR.d 18;have e5:av_.tmps.getD 82 undef=.bool true:=hR.g 5;refine gSq (b:=true) e5 ?_;go_simp;exact hK _ _ rfl rB
           ·have e5:av_.tmps.getD 82 undef=.bool true:=hR.d 5;have e19:av_.tmps.getD 96 undef=.bool P:=hR.d 19;refine pSq ?_;go_simp;exact hK _ _ rfl rB
          ·intro sv_ w hS hb;have e20:sv_ 97=.bool P:=hS 20 (by decide);simp only [over,ovL,Nat.reduceAdd,Nat.reduceLeDiff,Nat.reduceLT];have HB:=mH HB hb;have HX12_9:=uH hb HX12_9;have HXgx:=uH hb HXgx;have HXgo:=uH hb HXgo;have HXt_30:=uH hb HXt_30;obtain ⟨w26,hw⟩:∃w8,w8=w:=⟨_,rfl⟩;subst hw;rw [e20];clear hS hb e20;cases P
           case false =>
            have hwi:IntKind.i64.wrap ((k:Int)+1)=((k+1:Nat):Int):=by rw [IntWalk.i64_in _ (by have:=HLEN.out.2;have:=HKN.out;omega)];omega
            go_wp2_with fail;clear hwi
            go_roundw
            case rel=>exact ⟨k+1,some bs,by have:=HKN.out;omega,by first|rfl|go_num,by first|rfl|go_num,hD (best_less HBE.out (fun h=>of_decide_eq_false HP.out (HCQ.out.2 h))),HX12_9,HXgx,HXgo,HXt_30,HB⟩
            case measure=>have:=HKN.out;simp [intOf];omega
           case true =>
            have hwi:IntKind.i64.wrap ((k:Int)+1)=((k+1:Nat):Int):=by rw [IntWalk.i64_in _ (by have:=HLEN.out.2;have:=HKN.out;omega)];omega
            go_wp2_with fail;clear hwi
            go_roundw
            case rel=>exact ⟨k+1,some k,by have:=HKN.out;omega,by first|rfl|go_num,by first|rfl|go_num,hD (best_more HBE.out HKT.out (HCQ.out.1 (of_decide_eq_true HP.out))),HX12_9,HXgx,HXgo,HXt_30,HB⟩
            case measure=>have:=HKN.out;simp [intOf];omega
       ·have hkk:n=k:=by omega
        subst hkk;have hS:Ordd (ovQ c ws) n s:=by rw [←HNN.out];exact HSO.out
        have hjn:j<n:=by have:=HJ.out;have:=HLF.out.2;omega
        obtain ⟨bs,rfl,hbn,hjs,hsj⟩:=best_next hS hjn HBE.out;have hnt:bs ∉ s.take j:=HBE.out.2.1;have htk:s.take (j+1)=s.take j++[bs]:=by rw [take_next hjs,hsj]
        have hnx:=bQ_succ (c:=c) (ws:=ws) hnt;obtain ⟨px,hpx⟩:∃x,bQ c ws (s.take j) bs=x:=⟨_,rfl⟩;rw [hpx] at hnx;have okx:px.Ok:=by rw [←hpx];exact ofR_ok _
        have zx:Rz px 8:=by
         rw [←hpx];refine of_sz ?_;have h1:=HW.out.z_le (c:=c) (k:=bs) (by rw [HNN.out];exact hbn);have h2:=HW.out.z_nn (c:=c) bs;have h3:=HCR.out;rw [if_neg hnt];omega
        have m1:=fun w=>rRatAdd_r (IsR.of okx zx) (IsR.of (ofR_ok 1) (of_sz (n:=1) (by decide))) (by decide) (by decide) w
        obtain ⟨nx,hne⟩:∃x,addR px (ofR 1)=x:=⟨_,rfl⟩;rw [hne] at m1 hnx;rw [HO1.out] at m1;rw [←htk] at hnx;have hlx:=lsf_at (bQ c ws (s.take j)) hbn;rw [hpx] at hlx;have HNX:=hD hnx;have HPX:=hD hlx;have HBN:=hD hbn;have HTK:=hD htk;rw [show besI (some bs)=(bs:Int) from rfl];have hge:¬(n:Int)<(n:Int):=by omega
        have C7:Hid (∀w,Gv 32 #[rtV px,rtV o1] w (.agg #[.bool nx.neg,.string (encS nx.num),.string (encS nx.den)])):=hD m1;clear m1 hne hnx hlx hpx okx zx hnt hjs hsj hS hjn htk hk;have hbi:(bs:Int)<(n:Int):=by have:=HBN.out;omega
        have fz1:wr.frozen? ⟨bkt,bs,none⟩=false:=frz0 HXt_30.out bs;have kz1:=boo_cell HXt_30.out hbn;have hN:=boo_store (g:=fun i=>decide (i ∈ s.take (j+1))) HXt_30.out (k:=bs) (decide_eq_true (by rw [HTK.out];simp)) (fun i hi=>by rw [HTK.out];simp [hi]);have hB:=HB.out.setCell (p:=⟨bkt,bs,none⟩) (by rw [←HN0.out];exact HGt_30.out) (.bool true);have hx1:=row_else HX12_9.out (fun hc=>HNt3.out hc.symm) (k:=bs) (.bool true);have hx2:=row_else HXgx.out (fun hc=>HNt1.out hc.symm) (k:=bs) (.bool true);have hx3:=row_else HXgo.out (fun hc=>HNt2.out hc.symm) (k:=bs) (.bool true);obtain ⟨Wt,hWt⟩:∃W,wr.setCell ⟨bkt,bs,none⟩ (.bool true)=W:=⟨_,rfl⟩;rw [hWt] at hN hB hx1 hx2 hx3;have HXt_30:=hD hN;have HB:=hD hB;have HX12_9:=hD hx1;have HXgx:=hD hx2;have HXgo:=hD hx3;clear hN hB hx1 hx2 hx3 hbn;go_wp2_with fail;clear hge hbi fz1 kz1 hWt
        refine wpTl (w:=Wt) (by kernel_rfl) (fun ix v _=>v=ErSplit_c_27_4 n o1 px nx bs gx cx ix) 9 (fun t=>(decide (102≤t)&&decide (t<111))) (by decide) (by kernel_rfl) (by kernel_rfl) (by kernel_rfl) (by kernel_rfl) (by kernel_rfl) (fun _ _ _ _ _ h=>h) ?_ ?_
        ·intro i hi ov_ listed av_ w hR K hK;have ho:=hR.at_;have hi:i<9:=hi;have hii:i=0∨i=1∨i=2∨i=3∨i=4∨i=5∨i=6∨i=7∨i=8:=by omega
         rcases hii with rfl|rfl|rfl|rfl|rfl|rfl|rfl|rfl|rfl<;>(simp at ho;subst ho)
         ·have b10:av_.tmps.getD 10 undef=.slice (some ⟨gx,0,none⟩) n cx:=hR.b 10;refine pSq ?_;go_simp;exact hK _ _ rfl rB
         ·have b17:av_.tmps.getD 17 undef=.int .i64 (bs:Int):=hR.b 17;refine pSq ?_;go_simp;exact hK _ _ rfl rB
         ·have b10:av_.tmps.getD 10 undef=.slice (some ⟨gx,0,none⟩) n cx:=hR.b 10;refine pSq ?_;go_simp;exact hK _ _ rfl rB
         ·have b17:av_.tmps.getD 17 undef=.int .i64 (bs:Int):=hR.b 17;refine pSq ?_;go_simp;exact hK _ _ rfl rB
         ·have e2:av_.tmps.getD 104 undef=.slice (some ⟨gx,0,none⟩) n cx:=hR.t 2;have e3:av_.tmps.getD 105 undef=.int .i64 (bs:Int):=hR.t 3;have q1:(bs:Int)<(n:Int):=by have:=HBN.out;omega
          refine pSq ?_;go_simp;exact hK _ _ rfl rB
         ·have e4:av_.tmps.getD 106 undef=.pointer (some ⟨gx,bs*3,none⟩):=hR.t 4;obtain ⟨d0,d1,d2⟩:=celx_cells (hpU hR.below HXgx.out) HPX.out;refine pSq ?_;go_simp;exact hK _ _ rfl rB
         ·refine pSq ?_;go_simp;refine (C5.out w).mono ?_;rintro e w' ⟨rfl,hb⟩;exact hK _ _ (rfl) hb
         ·have e5:av_.tmps.getD 107 undef=.agg #[.bool px.neg,.string (encS px.num),.string (encS px.den)]:=hR.t 5;have e6:av_.tmps.getD 108 undef=.agg #[.bool o1.neg,.string (encS o1.num),.string (encS o1.den)]:=hR.t 6;refine pSq ?_;go_simp;refine (C7.out w).mono ?_;rintro e w' ⟨rfl,hb⟩;exact hK _ _ (rfl) hb
         ·have e0:av_.tmps.getD 102 undef=.slice (some ⟨gx,0,none⟩) n cx:=hR.t 0;have e1:av_.tmps.getD 103 undef=.int .i64 (bs:Int):=hR.t 1;have q1:(bs:Int)<(n:Int):=by have:=HBN.out;omega
          refine pSq ?_;go_simp;exact hK _ _ rfl rB
        ·intro sv_ w hS hb;have e7:sv_ 109=.agg #[.bool nx.neg,.string (encS nx.num),.string (encS nx.den)]:=hS 7 (by decide);have e8:sv_ 110=.pointer (some ⟨gx,bs*3,none⟩):=hS 8 (by decide);simp only [over,ovL,Nat.reduceAdd,Nat.reduceLeDiff,Nat.reduceLT];have HX12_9:=uH hb HX12_9;have HXgx:=uH hb HXgx;have HXgo:=uH hb HXgo;have HXt_30:=uH hb HXt_30;have HB:=mH HB hb;obtain ⟨w27,hw⟩:∃w8,w8=w:=⟨_,rfl⟩;subst hw;rw [e7,e8];clear hS hb e7 e8;have f32:w27.frozen? ⟨gx,bs*3,none⟩=false:=frz0 HXgx.out (bs*3);have f33:w27.frozen? ⟨gx,bs*3+1,none⟩=false:=frz0 HXgx.out (bs*3+1);have f34:w27.frozen? ⟨gx,bs*3+2,none⟩=false:=frz0 HXgx.out (bs*3+2);obtain ⟨k35a,k35b,k35c⟩:=celx_cells HXgx.out HPX.out
         have hB:=(((HB.out.setCell (p:=⟨gx,bs*3,none⟩) (by rw [←HN0.out];exact HGgx.out) (.bool nx.neg)).setCell (p:=⟨gx,bs*3+1,none⟩) (by rw [←HN0.out];exact HGgx.out) (.string (encS nx.num))).setCell (p:=⟨gx,bs*3+2,none⟩) (by rw [←HN0.out];exact HGgx.out) (.string (encS nx.den)));have hN:(((w27.setCell ⟨gx,bs*3,none⟩ (.bool nx.neg)).setCell ⟨gx,bs*3+1,none⟩ (.string (encS nx.num))).setCell ⟨gx,bs*3+2,none⟩ (.string (encS nx.den))).heap[gx]? =some (.cells ((cel (lsf (bQ c ws (s.take (j+1))) n)++rx).toArray) 26 (0,0)):=by have h:=celx_store HXgx.out (i:=bs) nx (by rw [lsf_len];exact HBN.out);rw [lsf_set _ _ HBN.out,HNX.out] at h;exact h
         have hx12_9:(((w27.setCell ⟨gx,bs*3,none⟩ (.bool nx.neg)).setCell ⟨gx,bs*3+1,none⟩ (.string (encS nx.num))).setCell ⟨gx,bs*3+2,none⟩ (.string (encS nx.den))).heap[bk12]? =_:=(row_else (row_else (row_else HX12_9.out (fun hc=>HN1.out hc.symm) _) (fun hc=>HN1.out hc.symm) _) (fun hc=>HN1.out hc.symm) _);have HX12_9:=hD hx12_9;clear hx12_9;have hxgo:(((w27.setCell ⟨gx,bs*3,none⟩ (.bool nx.neg)).setCell ⟨gx,bs*3+1,none⟩ (.string (encS nx.num))).setCell ⟨gx,bs*3+2,none⟩ (.string (encS nx.den))).heap[go]? =_:=(row_else (row_else (row_else HXgo.out HNE.out _) HNE.out _) HNE.out _);have HXgo:=hD hxgo;clear hxgo;have hxt_30:(((w27.setCell ⟨gx,bs*3,none⟩ (.bool nx.neg)).setCell ⟨gx,bs*3+1,none⟩ (.string (encS nx.num))).setCell ⟨gx,bs*3+2,none⟩ (.string (encS nx.den))).heap[bkt]? =_:=(row_else (row_else (row_else HXt_30.out HNt1.out _) HNt1.out _) HNt1.out _)
         have HXt_30:=hD hxt_30;clear hxt_30;obtain ⟨W28,hW28⟩:∃W,(((w27.setCell ⟨gx,bs*3,none⟩ (.bool nx.neg)).setCell ⟨gx,bs*3+1,none⟩ (.string (encS nx.num))).setCell ⟨gx,bs*3+2,none⟩ (.string (encS nx.den)))=W:=⟨_,rfl⟩;rw [hW28] at hN hB HX12_9 HXgo HXt_30;have HXgx:=hD hN;have HB:=hD hB;clear hN hB;refine tail_step (n:=0) rfl rfl ?_;go_simp
         try rw [hW28]
         clear f32 f33 f34 k35a k35b k35c hW28;simp only [wpTail];go_wp2_with fail;refine wpTl (w:=W28) (by kernel_rfl) (fun ix v _=>v=ErSplit_c_28_5 lc lc2 o1 ix) 3 (fun t=>(decide (111≤t)&&decide (t<114))) (by decide) (by kernel_rfl) (by kernel_rfl) (by kernel_rfl) (by kernel_rfl) (by kernel_rfl) (fun _ _ _ _ _ h=>h) ?_ ?_
         ·intro i hi ov_ listed av_ w hR K hK;have ho:=hR.at_;have hi:i<3:=hi;have hii:i=0∨i=1∨i=2:=by omega
          rcases hii with rfl|rfl|rfl<;>(simp at ho;subst ho)
          ·have b12:av_.tmps.getD 12 undef=.pointer (some ⟨bk12,0,none⟩):=hR.b 12;obtain ⟨cx0,cx1,cx2⟩:=c3 (uH hR.below HX12_9);refine pSq ?_;go_simp;exact hK _ _ rfl rB
          ·refine pSq ?_;go_simp;refine (C5.out w).mono ?_;rintro e w' ⟨rfl,hb⟩;exact hK _ _ (rfl) hb
          ·have e0:av_.tmps.getD 111 undef=.agg #[.bool lc.neg,.string (encS lc.num),.string (encS lc.den)]:=hR.t 0;have e1:av_.tmps.getD 112 undef=.agg #[.bool o1.neg,.string (encS o1.num),.string (encS o1.den)]:=hR.t 1;refine pSq ?_;go_simp;refine (C6.out w).mono ?_;rintro e w' ⟨rfl,hb⟩;exact hK _ _ (rfl) hb
         ·intro sv_ w hS hb;have e2:sv_ 113=.agg #[.bool lc2.neg,.string (encS lc2.num),.string (encS lc2.den)]:=hS 2 (by decide);simp only [over,ovL,Nat.reduceAdd,Nat.reduceLeDiff,Nat.reduceLT];have HX12_9:=uH hb HX12_9;have HXgx:=uH hb HXgx;have HXgo:=uH hb HXgo;have HXt_30:=uH hb HXt_30;have HB:=mH HB hb;obtain ⟨w29,hw⟩:∃w8,w8=w:=⟨_,rfl⟩;subst hw;rw [e2];clear hS hb e2;obtain ⟨W30,hW30,HX12_9,HB,ho,f36a,f36b,f36c,k36a,k36b,k36c⟩:=putR HX12_9 HB HN0 HG12_9 lc2;have HXgx:=ho _ _ HN1.out HXgx;have HXgo:=ho _ _ HN2.out HXgo;have HXt_30:=ho _ _ HNt3.out HXt_30;clear ho;refine tail_step (n:=0) rfl rfl ?_;go_simp
          try rw [hW30]
          clear f36a f36b f36c k36a k36b k36c hW30;simp only [wpTail];go_wp2_with fail
          go_roundw
          case rel=>exact ⟨j+1,by have:=HJ.out;omega,hD (by rw [HLC2.out];exact HX12_9.out),HXgx,HXgo,HXt_30,HB⟩
          case measure=>rw [numAt_row HX12_9.out,HM0.out, ←HLC.out, ←HLC2.out];show (lefZ c ws-((j+1:Nat):Int)).natAbs<(lefZ c ws-(j:Int)).natAbs;have:=HJ.out;omega
     ·have hje:j=(lefZ c ws).toNat:=by omega
      subst hje;clear hj hlt;have m1:=fun w=>rRatSign_r (IsR.of (ofR_ok (lefZ c ws-((lefZ c ws).toNat:Int))) (of_sz (n:=lefZ c ws-((lefZ c ws).toNat:Int)) (by omega))) (by decide) w
      rw [sgn_of,if_pos (by omega)] at m1;obtain ⟨lc,hlc⟩:∃x,ofR (lefZ c ws-((lefZ c ws).toNat:Int))=x:=⟨_,rfl⟩;rw [hlc] at m1 HX12_9;have hgx4:=HXgx.out;rw [f4_zero] at hgx4;have HXgx:=hD hgx4;have C4:Hid (∀w,Gv 35 #[rtV lc] w (.int .i64 0)):=hD m1;clear m1 hlc hl0 hl1 hgx4;obtain ⟨k37a,k37b,k37c⟩:=c3 HX12_9;go_wp2_with fail;clear k37a k37b k37c;refine (C4.out _).mono ?_;rintro e w31 ⟨rfl,hb⟩;have HX12_9:=uH hb HX12_9;have HXgx:=uH hb HXgx;have HXgo:=uH hb HXgo;have HXt_30:=uH hb HXt_30;have HB:=mH HB hb;clear hb;go_wp2_with fail
      go_loopw [19] (fun v wr=>∃k:Nat,k≤n∧v=.int .i64 (k:Int)∧Hid (wr.heap[gx]? =some (.cells (cel (lsf (f4 c ws s k) n)++rx).toArray 26 (0,0)))∧Hid (Below wq.heap.size wq wr)) (fun v _=>n-(intOf v).toNat)
      case atStart=>exact ⟨0,by omega,rfl,HXgx,HB⟩
      case round =>
       obtain ⟨k,hk,rfl,HXgx,HB⟩:=hrel
       by_cases hlt:k<n
       ·have hlt' :(k:Int)<(n:Int):=by omega
        have hkl:k<ws.length:=by rw [HNN.out];exact hlt
        have hxi:=HW.out.x_le HSO.out hkl;have hx0:=HW.out.x_nn (c:=c) (s:=s) k;have hcr:=HCR.out;have hlx:=lsf_at (f4 c ws s k) hlt;rw [f4_at] at hlx;have z_x:Rz (ofR (xZ c ws s k)) 8:=of_sz (by have:=HCN.out;omega);have m1:=fun w=>rRatNeg_r (IsR.of (ofR_ok (xZ c ws s k)) z_x) (by decide) w
        rw [neg_of] at m1;have z_n:Rz (ofR (sgZ c (xZ c ws s k))) 8:=of_sz (by unfold sgZ;have:=HCN.out;split<;>omega);have m2:=fun w=>cent_any w
        have m3:=fun w=>rRatMul_r (IsR.of (ofR_ok (sgZ c (xZ c ws s k))) z_n) (IsR.of centR_ok centR_sz) (by decide) (by decide) w
        rw [of_ref] at m3;have hup:=f4_succ c ws s k;obtain ⟨fin,hfin⟩:∃x,ofC (sgZ c (xZ c ws s k))=x:=⟨_,rfl⟩;rw [hfin] at m3 hup;obtain ⟨px,hpx⟩:∃x,ofR (xZ c ws s k)=x:=⟨_,rfl⟩;rw [hpx] at m1 hlx;obtain ⟨yk,hyk⟩:∃x,ofR (sgZ c (xZ c ws s k))=x:=⟨_,rfl⟩;rw [hyk] at m3;have hy0:sg=false→yk=px:=fun e=>by rw [←hyk, ←hpx,show sgZ c (xZ c ws s k)=xZ c ws s k from if_neg (of_decide_eq_false (HSG.out.trans e))]
        have hy1:sg=true→ofR (-(xZ c ws s k))=yk:=fun e=>by rw [←hyk,show sgZ c (xZ c ws s k)= -(xZ c ws s k) from if_pos (of_decide_eq_true (HSG.out.trans e))]
        have hse:upd (f4 c ws s k) k px=f4 c ws s k:=by funext i;by_cases h:i=k<;>simp [upd,h,f4_at,hpx]
        have HY0:=hD hy0;have HSE:=hD hse;obtain ⟨cen,hce⟩:∃x,centR=x:=⟨_,rfl⟩;rw [hce] at m2 m3;have HKN:=hD hlt;have HPX:=hD hlx;have HUP:=hD hup;have hsg:=HSG.out;have HM1:=hD m1;have HY1:=hD hy1;have C5:Hid (∀w,Gv 45 #[] w (.agg #[.bool cen.neg,.string (encS cen.num),.string (encS cen.den)])):=hD m2;have C6:Hid (∀w,Gv 16 #[rtV yk,rtV cen] w (.agg #[.bool fin.neg,.string (encS fin.num),.string (encS fin.den)])):=hD m3;clear m1 m2 m3 hup hlx hfin hpx hyk hy0 hy1 hse hce z_x z_n hxi hx0 hcr hkl hk hlt
        go_upto_if 121 with fail
        clear hlt' hsg
        go_cut [] from 114 to 138 (fun wx=>Hid (wx.heap[gx]? =some (.cells (cel (lsf (upd (f4 c ws s k) k yk) n)++rx).toArray 26 (0,0)))∧Hid (Below wq.heap.size wq wx))
        case first =>
         cases sg
         case false =>
          obtain rfl:=HY0.out rfl;go_wp2_with fail
          go_meet
          exact ⟨hD (by rw [HSE.out];exact HXgx.out),HB⟩
         case true =>
          have C7:Hid (∀w,Gv 44 #[rtV px] w (.agg #[.bool yk.neg,.string (encS yk.num),.string (encS yk.den)])):=hD fun w=>by
           have h:=HM1.out w;rw [HY1.out rfl] at h;exact h
          obtain ⟨d1,d2,d3⟩:=celx_cells HXgx.out HPX.out;have hlt' :(k:Int)<(n:Int):=by have:=HKN.out;omega
          go_wp2_with fail;clear d1 d2 d3 hlt';refine (C7.out _).mono ?_;rintro e w32 ⟨rfl,hb⟩;have HXgx:=uH hb HXgx;have HB:=mH HB hb;clear hb;have hlt' :(k:Int)<(n:Int):=by have:=HKN.out;omega
          have f38:w32.frozen? ⟨gx,k*3,none⟩=false:=frz0 HXgx.out (k*3);have f39:w32.frozen? ⟨gx,k*3+1,none⟩=false:=frz0 HXgx.out (k*3+1);have f40:w32.frozen? ⟨gx,k*3+2,none⟩=false:=frz0 HXgx.out (k*3+2);obtain ⟨k41a,k41b,k41c⟩:=celx_cells HXgx.out HPX.out;have hB:=(((HB.out.setCell (p:=⟨gx,k*3,none⟩) (by rw [←HN0.out];exact HGgx.out) (.bool yk.neg)).setCell (p:=⟨gx,k*3+1,none⟩) (by rw [←HN0.out];exact HGgx.out) (.string (encS yk.num))).setCell (p:=⟨gx,k*3+2,none⟩) (by rw [←HN0.out];exact HGgx.out) (.string (encS yk.den)));have hN:(((w32.setCell ⟨gx,k*3,none⟩ (.bool yk.neg)).setCell ⟨gx,k*3+1,none⟩ (.string (encS yk.num))).setCell ⟨gx,k*3+2,none⟩ (.string (encS yk.den))).heap[gx]? =some (.cells ((cel (lsf (upd (f4 c ws s k) k yk) n)++rx).toArray) 26 (0,0)):=by have h:=celx_store HXgx.out (i:=k) yk (by rw [lsf_len];exact HKN.out);rw [lsf_set _ _ HKN.out] at h;exact h
          obtain ⟨W33,hW33⟩:∃W,(((w32.setCell ⟨gx,k*3,none⟩ (.bool yk.neg)).setCell ⟨gx,k*3+1,none⟩ (.string (encS yk.num))).setCell ⟨gx,k*3+2,none⟩ (.string (encS yk.den)))=W:=⟨_,rfl⟩;rw [hW33] at hN hB;have HXgx:=hD hN;have HB:=hD hB;clear hN hB;go_wp2_with fail;clear f38 f39 f40 k41a k41b k41c hW33 hlt'
          go_meet
          exact ⟨HXgx,HB⟩
        case rest =>
         obtain ⟨HXgx,HB⟩:=hcut;have HPY:=hD ((lsf_at (upd (f4 c ws s k) k yk) HKN.out).trans (by rw [upd_same]));go_wp2_with fail;refine wpTl (w:=wc) (by kernel_rfl) (fun ix v _=>v=ErSplit_c_34_6 n k yk fin cen gx cx ix) 9 (fun t=>(decide (130≤t)&&decide (t<139))) (by decide) (by kernel_rfl) (by kernel_rfl) (by kernel_rfl) (by kernel_rfl) (by kernel_rfl) (fun _ _ _ _ _ h=>h) ?_ ?_
         ·intro i hi ov_ listed av_ w hR K hK;have ho:=hR.at_;have hi:i<9:=hi;have hii:i=0∨i=1∨i=2∨i=3∨i=4∨i=5∨i=6∨i=7∨i=8:=by omega
          rcases hii with rfl|rfl|rfl|rfl|rfl|rfl|rfl|rfl|rfl<;>(simp at ho;subst ho)
          ·have b10:av_.tmps.getD 10 undef=.slice (some ⟨gx,0,none⟩) n cx:=hR.b 10;refine pSq ?_;go_simp;exact hK _ _ rfl rB
          ·have b19:av_.tmps.getD 19 undef=.int .i64 (k:Int):=hR.b 19;refine pSq ?_;go_simp;exact hK _ _ rfl rB
          ·have b10:av_.tmps.getD 10 undef=.slice (some ⟨gx,0,none⟩) n cx:=hR.b 10;refine pSq ?_;go_simp;exact hK _ _ rfl rB
          ·have b19:av_.tmps.getD 19 undef=.int .i64 (k:Int):=hR.b 19;refine pSq ?_;go_simp;exact hK _ _ rfl rB
          ·have e2:av_.tmps.getD 132 undef=.slice (some ⟨gx,0,none⟩) n cx:=hR.t 2;have e3:av_.tmps.getD 133 undef=.int .i64 (k:Int):=hR.t 3;have q1:(k:Int)<(n:Int):=by have:=HKN.out;omega
           refine pSq ?_;go_simp;exact hK _ _ rfl rB
          ·have e4:av_.tmps.getD 134 undef=.pointer (some ⟨gx,k*3,none⟩):=hR.t 4;obtain ⟨d0,d1,d2⟩:=celx_cells (hpU hR.below HXgx.out) HPY.out;refine pSq ?_;go_simp;exact hK _ _ rfl rB
          ·refine pSq ?_;go_simp;refine (C5.out w).mono ?_;rintro e w' ⟨rfl,hb⟩;exact hK _ _ (rfl) hb
          ·have e5:av_.tmps.getD 135 undef=.agg #[.bool yk.neg,.string (encS yk.num),.string (encS yk.den)]:=hR.t 5;have e6:av_.tmps.getD 136 undef=.agg #[.bool cen.neg,.string (encS cen.num),.string (encS cen.den)]:=hR.t 6;refine pSq ?_;go_simp;refine (C6.out w).mono ?_;rintro e w' ⟨rfl,hb⟩;exact hK _ _ (rfl) hb
          ·have e0:av_.tmps.getD 130 undef=.slice (some ⟨gx,0,none⟩) n cx:=hR.t 0;have e1:av_.tmps.getD 131 undef=.int .i64 (k:Int):=hR.t 1;have q1:(k:Int)<(n:Int):=by have:=HKN.out;omega
           refine pSq ?_;go_simp;exact hK _ _ rfl rB
         ·intro sv_ w hS hb;have e7:sv_ 137=.agg #[.bool fin.neg,.string (encS fin.num),.string (encS fin.den)]:=hS 7 (by decide);have e8:sv_ 138=.pointer (some ⟨gx,k*3,none⟩):=hS 8 (by decide);simp only [over,ovL,Nat.reduceAdd,Nat.reduceLeDiff,Nat.reduceLT];have HXgx:=uH hb HXgx;have HB:=mH HB hb;obtain ⟨w34,hw⟩:∃w8,w8=w:=⟨_,rfl⟩;subst hw;rw [e7,e8];clear hS hb e7 e8;have f42:w34.frozen? ⟨gx,k*3,none⟩=false:=frz0 HXgx.out (k*3);have f43:w34.frozen? ⟨gx,k*3+1,none⟩=false:=frz0 HXgx.out (k*3+1);have f44:w34.frozen? ⟨gx,k*3+2,none⟩=false:=frz0 HXgx.out (k*3+2);obtain ⟨k45a,k45b,k45c⟩:=celx_cells HXgx.out HPY.out;have hB:=(((HB.out.setCell (p:=⟨gx,k*3,none⟩) (by rw [←HN0.out];exact HGgx.out) (.bool fin.neg)).setCell (p:=⟨gx,k*3+1,none⟩) (by rw [←HN0.out];exact HGgx.out) (.string (encS fin.num))).setCell (p:=⟨gx,k*3+2,none⟩) (by rw [←HN0.out];exact HGgx.out) (.string (encS fin.den)))
          have hN:(((w34.setCell ⟨gx,k*3,none⟩ (.bool fin.neg)).setCell ⟨gx,k*3+1,none⟩ (.string (encS fin.num))).setCell ⟨gx,k*3+2,none⟩ (.string (encS fin.den))).heap[gx]? =some (.cells ((cel (lsf (f4 c ws s (k+1)) n)++rx).toArray) 26 (0,0)):=by have h:=celx_store HXgx.out (i:=k) fin (by rw [lsf_len];exact HKN.out);rw [lsf_set _ _ HKN.out,upd_twice,HUP.out] at h;exact h
          obtain ⟨W35,hW35⟩:∃W,(((w34.setCell ⟨gx,k*3,none⟩ (.bool fin.neg)).setCell ⟨gx,k*3+1,none⟩ (.string (encS fin.num))).setCell ⟨gx,k*3+2,none⟩ (.string (encS fin.den)))=W:=⟨_,rfl⟩;rw [hW35] at hN hB;have HXgx:=hD hN;have HB:=hD hB;clear hN hB;refine tail_step (n:=0) rfl rfl ?_;go_simp
          try rw [hW35]
          clear f42 f43 f44 k45a k45b k45c hW35;simp only [wpTail];have hwi:IntKind.i64.wrap ((k:Int)+1)=((k+1:Nat):Int):=by rw [IntWalk.i64_in _ (by have:=HLEN.out.2;have:=HKN.out;omega)];omega
          go_wp2_with fail;clear hwi
          go_roundw
          case rel=>exact ⟨k+1,by have:=HKN.out;omega,by first|rfl|go_num,HXgx,HB⟩
          case measure=>have:=HKN.out;simp [intOf];omega
       ·have hkk:n=k:=by omega
        subst hkk;have hge:¬(n:Int)<(n:Int):=by omega
        have hlst:LstR wr (.slice (some ⟨gx,0,none⟩) n cx) ((partsT c ws s).map rawR):=by
         have h:=lst_block (cap:=cx) HXgx.out (by rw [lsf_len];have:=HLEN.out.2;omega);rw [lsf_len] at h;have e:lsf (f4 c ws s n) n=partsT c ws s:=by have h:=f4_end c ws s;rw [HNN.out] at h;exact h
         rw [e] at h;exact h
        have HLST:=hD hlst;clear hlst hk hlt;go_wp2_with fail;clear hge;go_ret2;exact ⟨_,rfl,HLST.out,by rw [HN0.out];exact HB.out⟩
end Go.Proofs.YtabfjecegpaoaaaGreatDoor
