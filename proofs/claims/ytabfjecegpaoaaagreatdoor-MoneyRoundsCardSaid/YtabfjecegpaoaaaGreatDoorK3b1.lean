/- MoneyRounds: for every input the law returns true, and each argument reads afterwards as it read before; the listed tables read as the program lays them (the tied card). -/
import Derived.WalkKit
import Derived.Deep.LoopGhost
import Derived.Deep.QuietTactic
import Derived.BigQuiet
import Derived.Test.YtabfjecegpaoaaaGreatDoorProg
import Derived.WalkSpells
import Derived.WalkLawsBesides
import Derived.IntWalk
import Derived.Lib.Hide
import Derived.Laws.BitsAllLaws
import Derived.StillTailTactics
import Derived.Deep.OwnRows
import Derived.Lib.ConvBytes
import Derived.Below
import Derived.RangeFuncNested
import Derived.RangeFuncCalls
import Derived.RangeFuncLeaves
import Derived.Shelf.Abstract
import Derived.Lib.LaidIn
import Derived.RegionTactic
import Derived.KernelRfl
import Derived.OrdersIn
import Derived.Shelf.Strings.Builder1
import Derived.Shelf.Strings.Builder2
import Derived.Shelf.Strings.Trim
import Derived.Shelf.Small.Utf8
import Derived.Shelf.Small.Bits
import Derived.Shelf.Small.Strs
import Derived.Shelf.Strings.BuilderF
import Derived.Shelf.Strings.BuilderK
import Derived.Shelf.Strings.Builder2Cap
import Derived.Shelf.Strconv.Atoi
import Derived.Shelf.Strconv.Itoa0
import Derived.Shelf.Strconv.Itoa1
import Derived.Shelf.LaysM
import Derived.Shelf.Strconv.Itoa2
import Derived.Shelf.Strconv.Itoa3
import Derived.Shelf.Strconv.AtoiErrFast
import Derived.Shelf.Strconv.ParseIntEmpty
import Derived.Shelf.Strconv.AtoiFail
import Derived.Shelf.Strconv.Clone
import Derived.Shelf.Strconv.SyntaxError
import Derived.Shelf.LaysC
import Derived.Shelf.Strconv.ToError
import Derived.Shelf.Strconv.Lower
import Derived.Shelf.Strconv.ParseUint10
import Derived.Shelf.Strconv.ParseUint10Empty
import Derived.Shelf.Strconv.ParseUint10Any
import Derived.Shelf.Strconv.ParseInt10
import Derived.Shelf.Strconv.AtoiLong
import Derived.Shelf.Strconv.AtoiInnerAll
import Derived.Shelf.Strconv.RangeError
import Derived.Shelf.Strconv.ToErrorRange
import Derived.Shelf.Strconv.AtoiAll
import Derived.Shelf.Strconv.ErrVarAll
import Derived.Shelf.Strconv.ParseUintEmpty
import Derived.Shelf.Strconv.ParseUint10b64
import Derived.Shelf.Strconv.ParseUint10b32
import Derived.Shelf.Strconv.ParseUint10b16
import Derived.Shelf.Strconv.ParseUint10b8
import Derived.Shelf.Strconv.ParseUint10At
import Derived.Shelf.Strconv.ParseInt10At64
import Derived.Shelf.Strconv.ParseInt10At32
import Derived.Shelf.Strconv.ParseInt10At16
import Derived.Shelf.Strconv.ParseInt10At8
import Derived.Shelf.Strconv.ParseInt10All
import Derived.Shelf.Strings.Search1
import Derived.Shelf.GgClosure.StringsIndexFunc
import Derived.Ground.GgwProg
import Derived.Shelf.GgClosure.StringsIndexFuncTop
import Derived.Shelf.GgClosure.StringsRunes
import Derived.Shelf.Strings.Prefix
import Derived.Shelf.Strings.Runes
import Derived.Shelf.Strings.AsciiSet
import Derived.Shelf.Bits.Mul64
import Derived.Shelf.Strings.Repeat
import Derived.Shelf.Unicode.DecodeSlow
import Derived.Shelf.Unicode.DecodeAny
import Derived.Shelf.Strings.FuncGrows
import Derived.Shelf.Strings.BuilderCap
import Derived.Lib.IndexMore
import Derived.Test.YtabfjecegpaoaaaGreatDoorZc7
import Derived.Test.YtabfjecegpaoaaaGreatDoorZc6
import Derived.Test.YtabfjecegpaoaaaGreatDoorK3a8
import Derived.Test.YtabfjecegpaoaaaGreatDoorK3a9
import Derived.Test.YtabfjecegpaoaaaGreatDoorZb2
import Derived.Test.YtabfjecegpaoaaaGreatDoorZb1
import Derived.Test.YtabfjecegpaoaaaGreatDoorZa6
import Derived.Test.YtabfjecegpaoaaaGreatDoorZa5
import Derived.Test.YtabfjecegpaoaaaGreatDoorZa4
import Derived.Test.YtabfjecegpaoaaaGreatDoorZa3
import Derived.Test.YtabfjecegpaoaaaGreatDoorZa0
import Derived.Test.YtabfjecegpaoaaaGreatDoorZa1
import Derived.Test.YtabfjecegpaoaaaGreatDoorZa2
import Derived.Test.YtabfjecegpaoaaaGreatDoorK3a3
import Derived.Test.YtabfjecegpaoaaaGreatDoorZb5
import Derived.Test.YtabfjecegpaoaaaGreatDoorK3a2
import Derived.Test.YtabfjecegpaoaaaGreatDoorZc4
import Derived.Test.YtabfjecegpaoaaaGreatDoorK3a6
import Derived.Test.YtabfjecegpaoaaaGreatDoorZc5
import Derived.Test.YtabfjecegpaoaaaGreatDoorZb0
import Derived.Test.YtabfjecegpaoaaaGreatDoorZb6
import Derived.Test.YtabfjecegpaoaaaGreatDoorZb8
import Derived.Test.YtabfjecegpaoaaaGreatDoorK3b0
set_option maxHeartbeats 16000000
set_option linter.unusedVariables false
namespace Go.Proofs.YtabfjecegpaoaaaGreatDoor.moneyRounds
open Go.RowKit Go.Shelf
open Dgt
def Ewalk_2_1 (x0:Int) (x1:Int) (x2:Int) (s0:Int) (s1:Int) (s2:Int) (ws:Nat):Nat→Value
 | 0=>.agg #[.int .i64 x0,.int .i64 x1,.int .i64 x2]
 | 2=>.agg #[.int .i64 s0,.int .i64 s1,.int .i64 s2]
 | _=>undef
def Swalk_2_1 (x0:Int) (x1:Int) (x2:Int) (s0:Int) (s1:Int) (s2:Int) (ws:Nat) (ix:Nat) (v:Value) (w:World):Prop :=
 match ix with
 | 1=>∃m:Rt,v=.agg #[.bool m.neg,.string (encS m.num),.string (encS m.den)]∧m.Ok∧Rz m 32
 | 3=>∃m:Rt,v=.agg #[.bool m.neg,.string (encS m.num),.string (encS m.den)]∧m.Ok∧Rz m 32∧m.neg=false∧m.num≠0
 | 4=>∃g,v=.pointer (some ⟨g,0,none⟩)∧ws≤g∧w.heap[g]? =some (.cells #[.bool false,.string ⟨#[]⟩,.string ⟨#[]⟩] 26 (0,0))
 | 5=>∃g,v=.pointer (some ⟨g,0,none⟩)∧ws≤g∧w.heap[g]? =some (.cells #[.bool false,.string ⟨#[]⟩,.string ⟨#[]⟩] 26 (0,0))
 | ix=>v=Ewalk_2_1 x0 x1 x2 s0 s1 s2 ws ix
theorem Swalk_2_1_up (x0:Int) (x1:Int) (x2:Int) (s0:Int) (s1:Int) (s2:Int) (ws:Nat) (ix:Nat) (v:Value) (w w' :World) (hb:Below w.heap.size w w') (h:Swalk_2_1 x0 x1 x2 s0 s1 s2 ws ix v w):Swalk_2_1 x0 x1 x2 s0 s1 s2 ws ix v w' :=by
 unfold Swalk_2_1 at h ⊢
 split at h
 ·exact h
 ·exact h
 ·exact by obtain ⟨g,e1,e2,e3⟩:=h;exact ⟨g,e1,e2,hpU hb e3⟩
 ·exact by obtain ⟨g,e1,e2,e3⟩:=h;exact ⟨g,e1,e2,hpU hb e3⟩
 ·exact h
def Ewalk_5_2 (u:Int) (st:Rt) (c:Rt) (wh:Rt) (mw:Rt):Nat→Value
 | 0=>.bool true
 | 1=>.bool true
 | 2=>.agg #[.bool c.neg,.string (encS c.num),.string (encS c.den)]
 | 3=>.agg #[.bool st.neg,.string (encS st.num),.string (encS st.den)]
 | 4=>.bool true
 | 5=>.bool true
 | 6=>.bool true
 | 7=>.agg #[.bool st.neg,.string (encS st.num),.string (encS st.den)]
 | 8=>.agg #[.bool c.neg,.string (encS c.num),.string (encS c.den)]
 | 9=>.bool true
 | 10=>.bool true
 | 11=>.bool true
 | 12=>.agg #[.bool st.neg,.string (encS st.num),.string (encS st.den)]
 | 13=>.int .u8 u
 | 14=>.int .i64 u
 | 15=>.agg #[.bool wh.neg,.string (encS wh.num),.string (encS wh.den)]
 | 16=>.agg #[.bool mw.neg,.string (encS mw.num),.string (encS mw.den)]
 | 17=>.agg #[.bool st.neg,.string (encS st.num),.string (encS st.den)]
 | 18=>.bool true
 | 19=>.bool true
 | 20=>.bool true
 | _=>undef
def Ewalk_5_3 (u:Int) (a:Rt) (st:Rt) (wh:Rt) (mw:Rt):Nat→Value
 | 0=>.bool true
 | 1=>.bool true
 | 2=>.agg #[.bool a.neg,.string (encS a.num),.string (encS a.den)]
 | 3=>.agg #[.bool st.neg,.string (encS st.num),.string (encS st.den)]
 | 4=>.bool true
 | 5=>.bool true
 | 6=>.bool true
 | 7=>.agg #[.bool st.neg,.string (encS st.num),.string (encS st.den)]
 | 8=>.agg #[.bool a.neg,.string (encS a.num),.string (encS a.den)]
 | 9=>.bool true
 | 10=>.bool true
 | 11=>.bool true
 | 12=>.agg #[.bool st.neg,.string (encS st.num),.string (encS st.den)]
 | 13=>.int .u8 u
 | 14=>.int .i64 u
 | 15=>.agg #[.bool wh.neg,.string (encS wh.num),.string (encS wh.den)]
 | 16=>.agg #[.bool mw.neg,.string (encS mw.num),.string (encS mw.den)]
 | 17=>.agg #[.bool st.neg,.string (encS st.num),.string (encS st.den)]
 | 18=>.bool true
 | 19=>.bool true
 | 20=>.bool true
 | _=>undef
set_option maxRecDepth 100000 in
theorem walk (x0 x1 x2 s0 s1 s2 u:Int) (rx0:inJ x0) (rx1:inJ x1) (rx2:inJ x2) (rs0:inJ s0) (rs1:inJ s1) (rs2:inJ s2) (ru:0≤u∧u≤255) (wq:World) (htab:Lib.TabIs Tryz.prog wq "internal/strconv.uint64pow10" .u64 Lib.pow10Tab) :
  Gv 3 #[.agg #[.int .i64 x0,.int .i64 x1,.int .i64 x2],.agg #[.int .i64 s0,.int .i64 s1,.int .i64 s2],.int .u8 u] wq (.bool true):=by
 unfold Gv;have HT:=hD (Lib.tabBelow_of_tabIs htab);clear htab;have C1:Hid (∀w,Below wq.heap.size wq w→Gv 11 #[] w (.bool true)):=hD fun w hp0=>sanity_any w (HT.out.on hp0).here
 have C2:Hid (∀w,Calls Tryz.prog 12 #[.agg #[.int .i64 x0,.int .i64 x1,.int .i64 x2]] w fun e w' =>∃m:Rt,e=.returned (.agg #[.bool m.neg,.string (encS m.num),.string (encS m.den)])∧m.Ok∧Rz m 32∧Below w.heap.size w w'):=hD fun w=>Made_r x0 x1 x2 w rx0 rx1 rx2
 have C3:Hid (∀w,Calls Tryz.prog 13 #[.agg #[.int .i64 s0,.int .i64 s1,.int .i64 s2]] w fun e w' =>∃m:Rt,e=.returned (.agg #[.bool m.neg,.string (encS m.num),.string (encS m.den)])∧m.Ok∧Rz m 32∧m.neg=false∧m.num≠0∧Below w.heap.size w w'):=hD fun w=>Step_r s0 s1 s2 rs0 rs1 rs2 w
 have c1:=fun w=>rOfC_any x0 rx0.1 rx0.2 w
 have o_c:=ofC_ok x0;have z_c:=ofC_sz rx0.1 rx0.2;obtain ⟨c,hcc⟩:∃c,ofC x0=c:=⟨_,rfl⟩;rw [hcc] at c1 o_c z_c;have HOC:=hD (And.intro o_c z_c);have c2:=fun w=>rRatOf_any u w (by omega) (by omega)
 have o_w:=ofR_ok u;have z_w:Rz (ofR u) 8:=ofR_sz (by omega) (by omega);obtain ⟨wh,hwh⟩:∃c,ofR u=c:=⟨_,rfl⟩;rw [hwh] at c2 o_w z_w;have HOW:=hD (And.intro o_w z_w);have HU:=hD (show IntKind.i64.wrap u=u from IntWalk.i64_in _ (by omega));have C4:Hid (∀w,Gv 14 #[.int .i64 x0] w (.agg #[.bool c.neg,.string (encS c.num),.string (encS c.den)])):=hD c1;have C5:Hid (∀w,Gv 17 #[.int .i64 u] w (.agg #[.bool wh.neg,.string (encS wh.num),.string (encS wh.den)])):=hD c2;have HRU:=hD ru;clear c1 c2 hcc hwh o_c z_c o_w z_w ru rx0 rx1 rx2 rs0 rs1 rs2;have HB:=hD (Below.refl wq.heap.size wq);obtain ⟨n0,hn0⟩:∃n,n=wq.heap.size:=⟨_,rfl⟩;rw [←hn0];have HN0:=hD hn0;clear hn0;go_enter Tryz.func3,Tryz.ntmps3;obtain ⟨W1,bk3,hW1,hbk3,HX3_1,HB,HG3_1,hup⟩:=boxn HB HN0 (.cells #[.int .i64 x0,.int .i64 x1,.int .i64 x2] 22);clear hup
 obtain ⟨W2,bk4,hW2,hbk4,HX4_2,HB,HG4_2,hup⟩:=boxn HB HN0 (.cells #[.int .i64 s0,.int .i64 s1,.int .i64 s2] 22);have HL4_2:=(hup _ _ HX3_1).2;have HX3_1:=(hup _ _ HX3_1).1;clear hup;go_wp2_with fail;clear hW1 hbk3 hW2 hbk4;refine (C1.out _ HB.out).mono ?_;rintro e w3 ⟨rfl,hb⟩;have HX3_1:=uH hb HX3_1;have HX4_2:=uH hb HX4_2;have HB:=mH HB hb;clear hb;go_wp2_with fail;refine wp_region_tailW (w:=w3) (by kernel_rfl) (Swalk_2_1 x0 x1 x2 s0 s1 s2 w3.heap.size) (fun i=>i==4||i==5) 6 (fun t=>(decide (8≤t)&&decide (t<10))||(decide (11≤t)&&decide (t<15))) (by decide) (by kernel_rfl) (by kernel_rfl) (by kernel_rfl) (by kernel_rfl) (by kernel_rfl) (Swalk_2_1_up x0 x1 x2 s0 s1 s2 w3.heap.size) ?_ ?_
 ·intro i hi ov_ listed av_ w hR K hK;have ho:=hR.at_;have hi:i<6:=hi;have hii:i=0∨i=1∨i=2∨i=3∨i=4∨i=5:=by omega
  rcases hii with rfl|rfl|rfl|rfl|rfl|rfl<;>(simp at ho;subst ho)
  ·have b3:av_.tmps.getD 3 undef=.pointer (some ⟨bk3,0,none⟩):=hR.b 3;obtain ⟨cx0,cx1,cx2⟩:=c3 (uH hR.below HX3_1);refine pSq ?_;go_simp;exact hK _ _ rfl rB (fun h=>absurd h (by decide))
  ·have e0:av_.tmps.getD 11 undef=.agg #[.int .i64 x0,.int .i64 x1,.int .i64 x2]:=hR.t 0;refine pSq ?_;go_simp;refine (C2.out w).mono ?_;rintro e w' ⟨m,rfl,h0,h1,hb⟩;exact hK _ _ (⟨m,rfl,h0,h1⟩) hb (fun h=>absurd h (by decide))
  ·have b4:av_.tmps.getD 4 undef=.pointer (some ⟨bk4,0,none⟩):=hR.b 4;obtain ⟨cx0,cx1,cx2⟩:=c3 (uH hR.below HX4_2);refine pSq ?_;go_simp;exact hK _ _ rfl rB (fun h=>absurd h (by decide))
  ·have e2:av_.tmps.getD 13 undef=.agg #[.int .i64 s0,.int .i64 s1,.int .i64 s2]:=hR.t 2;refine pSq ?_;go_simp;refine (C3.out w).mono ?_;rintro e w' ⟨m,rfl,h0,h1,h2,h3,hb⟩;exact hK _ _ (⟨m,rfl,h0,h1,h2,h3⟩) hb (fun h=>absurd h (by decide))
  ·refine pSq ?_;go_simp;exact hK _ _ (⟨_,rfl,hR.below.size,heap_alloc_new _ _⟩) (rB.alloc (Nat.le_refl _) _) (fun _=>⟨_,rfl,Nat.le_refl _,alloc_lt _ _⟩)
  ·refine pSq ?_;go_simp;exact hK _ _ (⟨_,rfl,hR.below.size,heap_alloc_new _ _⟩) (rB.alloc (Nat.le_refl _) _) (fun _=>⟨_,rfl,Nat.le_refl _,alloc_lt _ _⟩)
 ·intro sv_ w hS hb hne;have e1:=hS 1 (by decide);have e3:=hS 3 (by decide);have e4:=hS 4 (by decide);have e5:=hS 5 (by decide);simp only [over,ovL,Nat.reduceAdd,Nat.reduceLeDiff,Nat.reduceLT];obtain ⟨a,e1b,o_a,z_a⟩:∃m:Rt,sv_ 12=.agg #[.bool m.neg,.string (encS m.num),.string (encS m.den)]∧m.Ok∧Rz m 32:=e1
  try clear e1
  have e1:=e1b;clear e1b;have HHo_a:=hD o_a;clear o_a;have HHz_a:=hD z_a;clear z_a;obtain ⟨st,e3b,o_st,z_st,g_st,u_st⟩:∃m:Rt,sv_ 14=.agg #[.bool m.neg,.string (encS m.num),.string (encS m.den)]∧m.Ok∧Rz m 32∧m.neg=false∧m.num≠0:=e3
  try clear e3
  have e3:=e3b;clear e3b;have HHo_st:=hD o_st;clear o_st;have HHz_st:=hD z_st;clear z_st;have HHg_st:=hD g_st;clear g_st;have HHu_st:=hD u_st;clear u_st;obtain ⟨bk8,e4b,hg,hN⟩:∃g,sv_ 8=.pointer (some ⟨g,0,none⟩)∧w3.heap.size≤g∧w.heap[g]? =some (.cells #[.bool false,.string ⟨#[]⟩,.string ⟨#[]⟩] 26 (0,0)):=e4;have HG8_3:Hid (n0≤bk8):=hD (by rw [HN0.out];exact Nat.le_trans HB.out.size hg);have HL8_3:=hD (Nat.lt_of_lt_of_le (Array.getElem?_eq_some_iff.1 HX4_2.out).1 hg);have HS8_3:=hD hg;have HX8_3:=hD hN;clear hN hg
  try clear e4
  have e4:=e4b;clear e4b;obtain ⟨bk9,e5b,hg,hN⟩:∃g,sv_ 9=.pointer (some ⟨g,0,none⟩)∧w3.heap.size≤g∧w.heap[g]? =some (.cells #[.bool false,.string ⟨#[]⟩,.string ⟨#[]⟩] 26 (0,0)):=e5;have HG9_4:Hid (n0≤bk9):=hD (by rw [HN0.out];exact Nat.le_trans HB.out.size hg);have HL9_4:=hD (Nat.lt_of_lt_of_le (Array.getElem?_eq_some_iff.1 HX4_2.out).1 hg);have HS9_4:=hD hg;have HX9_4:=hD hN;clear hN hg
  try clear e5
  have e5:=e5b;clear e5b;have HM8_3_bk3:Hid (bk3≠bk8):=hD (by have:=(Array.getElem?_eq_some_iff.1 HX3_1.out).1;have:=HS8_3.out;omega);have HM8_3_bk4:Hid (bk4≠bk8):=hD (by have:=(Array.getElem?_eq_some_iff.1 HX4_2.out).1;have:=HS8_3.out;omega);have hq:=hne 4 5 rfl rfl (by decide) (by decide) (by decide);have hq:sv_ 8≠sv_ 9:=hq;rw [e4,e5] at hq;have HQ8_3_9_4:Hid (bk8≠bk9):=hD (fun h=>hq (by rw [h]));clear hq;clear hne;have HX3_1:=uH hb HX3_1;have HX4_2:=uH hb HX4_2;have HB:=mH HB hb;obtain ⟨w4,hw⟩:∃w8,w8=w:=⟨_,rfl⟩;subst hw;rw [e1,e3,e4,e5];clear hS hb e1 e3 e4 e5;obtain ⟨W5,hW5,HX8_3,HB,ho,f5a,f5b,f5c,k5a,k5b,k5c⟩:=putR HX8_3 HB HN0 HG8_3 a;have HX3_1:=ho _ _ (fun hc=>HM8_3_bk3.out hc.symm) HX3_1;have HX4_2:=ho _ _ (fun hc=>HM8_3_bk4.out hc.symm) HX4_2;have HX9_4:=ho _ _ HQ8_3_9_4.out HX9_4;clear ho;refine tail_step (n:=1) rfl rfl ?_;go_simp
  try rw [hW5]
  clear f5a f5b f5c k5a k5b k5c hW5;obtain ⟨W6,hW6,HX9_4,HB,ho,f6a,f6b,f6c,k6a,k6b,k6c⟩:=putR HX9_4 HB HN0 HG9_4 st;have HX3_1:=ho _ _ (en2 HL4_2 HL9_4) HX3_1;have HX4_2:=ho _ _ (en1 HL9_4) HX4_2;have HX8_3:=ho _ _ (fun hc=>HQ8_3_9_4.out hc.symm) HX8_3;clear ho;refine tail_step (n:=0) rfl rfl ?_;go_simp
  try rw [hW6]
  clear f6a f6b f6c k6a k6b k6c hW6;simp only [wpTail];have o_a:=HHo_a.out;clear HHo_a;have z_a:=HHz_a.out;clear HHz_a;have o_st:=HHo_st.out;clear HHo_st;have z_st:=HHz_st.out;clear HHz_st;have g_st:=HHg_st.out;clear HHg_st;have u_st:=HHu_st.out;clear HHu_st;have HOA:=hD (And.intro o_a z_a);have HOS:=hD (And.intro o_st z_st);have c3:=fun w=>rRatMul_r (IsR.of o_st z_st) (IsR.of HOW.out.1 (HOW.out.2.mono (show 8≤32 by decide))) (by decide) (by decide) w
  have o_m:(mulR st wh).Ok:=mulR_ok o_st HOW.out.1;have z_m:=mulR_sz z_st HOW.out.2;obtain ⟨mw,hmw⟩:∃c,mulR st wh=c:=⟨_,rfl⟩;rw [hmw] at c3 o_m z_m;have HOM:=hD (And.intro o_m z_m);have C6:Hid (∀w,Gv 16 #[rtV st,rtV wh] w (.agg #[.bool mw.neg,.string (encS mw.num),.string (encS mw.den)])):=hD c3;clear c3 hmw o_a z_a o_st z_st g_st u_st o_m z_m;have ru:=HRU.out;have hm:IntKind.u8.wrap (u.tmod 3)=u.tmod 3:=by have e:=Int.tmod_eq_emod_of_nonneg (b:=3) ru.1;rw [e];exact IntWalk.u8_in _ (by omega)
  obtain ⟨t,ht⟩:∃t,u.tmod 3=t:=⟨_,rfl⟩;rw [ht] at hm
  by_cases h0:t=0
  ·subst h0;have k7:W6.cell? ⟨bk3,0,none⟩=some (.int .i64 x0):=by rw [Lib.cell_of_heap HX3_1.out];rfl
   go_wp2_with fail;clear ru hm ht k7;refine (C4.out _).mono ?_;rintro e w7 ⟨rfl,hb⟩;have HX3_1:=uH hb HX3_1;have HX4_2:=uH hb HX4_2;have HX8_3:=uH hb HX8_3;have HX9_4:=uH hb HX9_4;have HB:=mH HB hb;clear hb;obtain ⟨W8,hW8,HX8_3,HB,ho,f8a,f8b,f8c,k8a,k8b,k8c⟩:=putR HX8_3 HB HN0 HG8_3 c;have HX3_1:=ho _ _ (fun hc=>HM8_3_bk3.out hc.symm) HX3_1;have HX4_2:=ho _ _ (fun hc=>HM8_3_bk4.out hc.symm) HX4_2;have HX9_4:=ho _ _ HQ8_3_9_4.out HX9_4;clear ho;have C7:Hid (∀w,Below wq.heap.size wq w→Gv 15 #[rtV c,rtV st] w (.bool true)):=hD fun w hp0=>rounds_any _ _ _ _ _ _ (Nat.le_trans (encS_size_lt HOC.out.2.1) (by decide)) (Nat.le_trans (encS_size_lt HOC.out.2.2) (by decide)) (Nat.le_trans (encS_size_lt HOS.out.2.1) (by decide)) (Nat.le_trans (encS_size_lt HOS.out.2.2) (by decide)) w (HT.out.on hp0).here
   have C8:Hid (∀w,Below wq.heap.size wq w→Gv 15 #[rtV st,rtV c] w (.bool true)):=hD fun w hp0=>rounds_any _ _ _ _ _ _ (Nat.le_trans (encS_size_lt HOS.out.2.1) (by decide)) (Nat.le_trans (encS_size_lt HOS.out.2.2) (by decide)) (Nat.le_trans (encS_size_lt HOC.out.2.1) (by decide)) (Nat.le_trans (encS_size_lt HOC.out.2.2) (by decide)) w (HT.out.on hp0).here
   have C9:Hid (∀w,Below wq.heap.size wq w→Gv 15 #[rtV mw,rtV st] w (.bool true)):=hD fun w hp0=>rounds_any _ _ _ _ _ _ (Nat.le_trans (encS_size_lt HOM.out.2.1) (by decide)) (Nat.le_trans (encS_size_lt HOM.out.2.2) (by decide)) (Nat.le_trans (encS_size_lt HOS.out.2.1) (by decide)) (Nat.le_trans (encS_size_lt HOS.out.2.2) (by decide)) w (HT.out.on hp0).here
   go_wp2_with fail;clear f8a f8b f8c k8a k8b k8c hW8;refine wpVl (w:=W8) (by kernel_rfl) (fun ix v _=>v=Ewalk_5_2 u st c wh mw ix) (fun t=>(decide (6≤t)&&decide (t<7))||(decide (21≤t)&&decide (t<41))) (by kernel_rfl) (by kernel_rfl) (by kernel_rfl) (fun _ _ _ _ _ h=>h) ?_ ?_
   ·intro i hi ov_ listed av_ w hR K hK;have ho:=hR.at_;have hi:i<21:=hi;have hii:i=0∨i=1∨i=2∨i=3∨i=4∨i=5∨i=6∨i=7∨i=8∨i=9∨i=10∨i=11∨i=12∨i=13∨i=14∨i=15∨i=16∨i=17∨i=18∨i=19∨i=20:=by omega
    rcases hii with rfl|rfl|rfl|rfl|rfl|rfl|rfl|rfl|rfl|rfl|rfl|rfl|rfl|rfl|rfl|rfl|rfl|rfl|rfl|rfl|rfl<;>(simp at ho;subst ho)
    ·have b7:av_.tmps.getD 7 undef=.bool true:=hR.b 7;refine pSq ?_;go_simp;exact hK _ _ rfl rB
    ·have e0:av_.tmps.getD 21 undef=.bool true:=hR.d 0;refine pSq ?_;go_simp;exact hK _ _ rfl rB
    ·have e1:av_.tmps.getD 22 undef=.bool true:=hR.g 1;have b8:av_.tmps.getD 8 undef=.pointer (some ⟨bk8,0,none⟩):=hR.b 8;obtain ⟨cx0,cx1,cx2⟩:=c3 (uH hR.below HX8_3);refine gSq (b:=true) e1 ?_;go_simp;exact hK _ _ rfl rB
    ·have e1:av_.tmps.getD 22 undef=.bool true:=hR.g 1;have b9:av_.tmps.getD 9 undef=.pointer (some ⟨bk9,0,none⟩):=hR.b 9;obtain ⟨cx0,cx1,cx2⟩:=c3 (uH hR.below HX9_4);refine gSq (b:=true) e1 ?_;go_simp;exact hK _ _ rfl rB
    ·have e2:av_.tmps.getD 23 undef=.agg #[.bool c.neg,.string (encS c.num),.string (encS c.den)]:=hR.d 2;have e3:av_.tmps.getD 24 undef=.agg #[.bool st.neg,.string (encS st.num),.string (encS st.den)]:=hR.d 3;have e1:av_.tmps.getD 22 undef=.bool true:=hR.g 1;refine gSq (b:=true) e1 ?_;go_simp;refine (C7.out w (HB.out.trans (hR.below.mono HB.out.size))).mono ?_;rintro e w' ⟨rfl,hb⟩;exact hK _ _ (rfl) hb
    ·have e1:av_.tmps.getD 22 undef=.bool true:=hR.d 1;have e4:av_.tmps.getD 25 undef=.bool true:=hR.d 4;refine pSq ?_;go_simp;exact hK _ _ rfl rB
    ·have e5:av_.tmps.getD 26 undef=.bool true:=hR.d 5;refine pSq ?_;go_simp;exact hK _ _ rfl rB
    ·have e6:av_.tmps.getD 27 undef=.bool true:=hR.g 6;have b9:av_.tmps.getD 9 undef=.pointer (some ⟨bk9,0,none⟩):=hR.b 9;obtain ⟨cx0,cx1,cx2⟩:=c3 (uH hR.below HX9_4);refine gSq (b:=true) e6 ?_;go_simp;exact hK _ _ rfl rB
    ·have e6:av_.tmps.getD 27 undef=.bool true:=hR.g 6;have b8:av_.tmps.getD 8 undef=.pointer (some ⟨bk8,0,none⟩):=hR.b 8;obtain ⟨cx0,cx1,cx2⟩:=c3 (uH hR.below HX8_3);refine gSq (b:=true) e6 ?_;go_simp;exact hK _ _ rfl rB
    ·have e7:av_.tmps.getD 28 undef=.agg #[.bool st.neg,.string (encS st.num),.string (encS st.den)]:=hR.d 7;have e8:av_.tmps.getD 29 undef=.agg #[.bool c.neg,.string (encS c.num),.string (encS c.den)]:=hR.d 8;have e6:av_.tmps.getD 27 undef=.bool true:=hR.g 6;refine gSq (b:=true) e6 ?_;go_simp;refine (C8.out w (HB.out.trans (hR.below.mono HB.out.size))).mono ?_;rintro e w' ⟨rfl,hb⟩;exact hK _ _ (rfl) hb
    ·have e6:av_.tmps.getD 27 undef=.bool true:=hR.d 6;have e9:av_.tmps.getD 30 undef=.bool true:=hR.d 9;refine pSq ?_;go_simp;exact hK _ _ rfl rB
    ·have e10:av_.tmps.getD 31 undef=.bool true:=hR.d 10;refine pSq ?_;go_simp;exact hK _ _ rfl rB
    ·have e11:av_.tmps.getD 32 undef=.bool true:=hR.g 11;have b9:av_.tmps.getD 9 undef=.pointer (some ⟨bk9,0,none⟩):=hR.b 9;obtain ⟨cx0,cx1,cx2⟩:=c3 (uH hR.below HX9_4);refine gSq (b:=true) e11 ?_;go_simp;exact hK _ _ rfl rB
    ·have e11:av_.tmps.getD 32 undef=.bool true:=hR.g 11;have b2:av_.tmps.getD 2 undef=.int .u8 u:=hR.b 2;refine gSq (b:=true) e11 ?_;go_simp;exact hK _ _ rfl rB
    ·have e13:av_.tmps.getD 34 undef=.int .u8 u:=hR.d 13;have e11:av_.tmps.getD 32 undef=.bool true:=hR.g 11;have hu:=HU.out;refine gSq (b:=true) e11 ?_;go_simp;exact hK _ _ rfl rB
    ·have e14:av_.tmps.getD 35 undef=.int .i64 u:=hR.d 14;have e11:av_.tmps.getD 32 undef=.bool true:=hR.g 11;refine gSq (b:=true) e11 ?_;go_simp;refine (C5.out w).mono ?_;rintro e w' ⟨rfl,hb⟩;exact hK _ _ (rfl) hb
    ·have e12:av_.tmps.getD 33 undef=.agg #[.bool st.neg,.string (encS st.num),.string (encS st.den)]:=hR.d 12;have e15:av_.tmps.getD 36 undef=.agg #[.bool wh.neg,.string (encS wh.num),.string (encS wh.den)]:=hR.d 15;have e11:av_.tmps.getD 32 undef=.bool true:=hR.g 11;refine gSq (b:=true) e11 ?_;go_simp;refine (C6.out w).mono ?_;rintro e w' ⟨rfl,hb⟩;exact hK _ _ (rfl) hb
    ·have e11:av_.tmps.getD 32 undef=.bool true:=hR.g 11;have b9:av_.tmps.getD 9 undef=.pointer (some ⟨bk9,0,none⟩):=hR.b 9;obtain ⟨cx0,cx1,cx2⟩:=c3 (uH hR.below HX9_4);refine gSq (b:=true) e11 ?_;go_simp;exact hK _ _ rfl rB
    ·have e16:av_.tmps.getD 37 undef=.agg #[.bool mw.neg,.string (encS mw.num),.string (encS mw.den)]:=hR.d 16;have e17:av_.tmps.getD 38 undef=.agg #[.bool st.neg,.string (encS st.num),.string (encS st.den)]:=hR.d 17;have e11:av_.tmps.getD 32 undef=.bool true:=hR.g 11;refine gSq (b:=true) e11 ?_;go_simp;refine (C9.out w (HB.out.trans (hR.below.mono HB.out.size))).mono ?_;rintro e w' ⟨rfl,hb⟩;exact hK _ _ (rfl) hb
    ·have e11:av_.tmps.getD 32 undef=.bool true:=hR.d 11;have e18:av_.tmps.getD 39 undef=.bool true:=hR.d 18;refine pSq ?_;go_simp;exact hK _ _ rfl rB
    ·have e19:av_.tmps.getD 40 undef=.bool true:=hR.d 19;refine pSq ?_;go_simp;exact hK _ _ rfl rB
   ·intro sv_ w hS hb;have e20:sv_ 6=.bool true:=hS 20 (by decide);simp only [over,ovL,Nat.reduceAdd,Nat.reduceLeDiff,Nat.reduceLT];have HB:=mH HB hb;have HX3_1:=uH hb HX3_1;have HX4_2:=uH hb HX4_2;have HX8_3:=uH hb HX8_3;have HX9_4:=uH hb HX9_4;obtain ⟨w9,hw⟩:∃w8,w8=w:=⟨_,rfl⟩;subst hw;rw [e20];clear hS hb e20;go_wp2_with fail;go_ret;exact ⟨rfl,by rw [HN0.out];exact HB.out⟩
  ·have C7:Hid (∀w,Below wq.heap.size wq w→Gv 15 #[rtV a,rtV st] w (.bool true)):=hD fun w hp0=>by
    exact rounds_any _ _ _ _ _ _ (Nat.le_trans (encS_size_lt HOA.out.2.1) (by decide)) (Nat.le_trans (encS_size_lt HOA.out.2.2) (by decide)) (Nat.le_trans (encS_size_lt HOS.out.2.1) (by decide)) (Nat.le_trans (encS_size_lt HOS.out.2.2) (by decide)) w (HT.out.on hp0).here
   have C8:Hid (∀w,Below wq.heap.size wq w→Gv 15 #[rtV st,rtV a] w (.bool true)):=hD fun w hp0=>rounds_any _ _ _ _ _ _ (Nat.le_trans (encS_size_lt HOS.out.2.1) (by decide)) (Nat.le_trans (encS_size_lt HOS.out.2.2) (by decide)) (Nat.le_trans (encS_size_lt HOA.out.2.1) (by decide)) (Nat.le_trans (encS_size_lt HOA.out.2.2) (by decide)) w (HT.out.on hp0).here
   have C9:Hid (∀w,Below wq.heap.size wq w→Gv 15 #[rtV mw,rtV st] w (.bool true)):=hD fun w hp0=>rounds_any _ _ _ _ _ _ (Nat.le_trans (encS_size_lt HOM.out.2.1) (by decide)) (Nat.le_trans (encS_size_lt HOM.out.2.2) (by decide)) (Nat.le_trans (encS_size_lt HOS.out.2.1) (by decide)) (Nat.le_trans (encS_size_lt HOS.out.2.2) (by decide)) w (HT.out.on hp0).here
   go_wp2_with fail;clear ru hm ht h0;refine wpVl (w:=W6) (by kernel_rfl) (fun ix v _=>v=Ewalk_5_3 u a st wh mw ix) (fun t=>(decide (6≤t)&&decide (t<7))||(decide (21≤t)&&decide (t<41))) (by kernel_rfl) (by kernel_rfl) (by kernel_rfl) (fun _ _ _ _ _ h=>h) ?_ ?_
   ·intro i hi ov_ listed av_ w hR K hK;have ho:=hR.at_;have hi:i<21:=hi;have hii:i=0∨i=1∨i=2∨i=3∨i=4∨i=5∨i=6∨i=7∨i=8∨i=9∨i=10∨i=11∨i=12∨i=13∨i=14∨i=15∨i=16∨i=17∨i=18∨i=19∨i=20:=by omega
    rcases hii with rfl|rfl|rfl|rfl|rfl|rfl|rfl|rfl|rfl|rfl|rfl|rfl|rfl|rfl|rfl|rfl|rfl|rfl|rfl|rfl|rfl<;>(simp at ho;subst ho)
    ·have b7:av_.tmps.getD 7 undef=.bool true:=hR.b 7;refine pSq ?_;go_simp;exact hK _ _ rfl rB
    ·have e0:av_.tmps.getD 21 undef=.bool true:=hR.d 0;refine pSq ?_;go_simp;exact hK _ _ rfl rB
    ·have e1:av_.tmps.getD 22 undef=.bool true:=hR.g 1;have b8:av_.tmps.getD 8 undef=.pointer (some ⟨bk8,0,none⟩):=hR.b 8;obtain ⟨cx0,cx1,cx2⟩:=c3 (uH hR.below HX8_3);refine gSq (b:=true) e1 ?_;go_simp;exact hK _ _ rfl rB
    ·have e1:av_.tmps.getD 22 undef=.bool true:=hR.g 1;have b9:av_.tmps.getD 9 undef=.pointer (some ⟨bk9,0,none⟩):=hR.b 9;obtain ⟨cx0,cx1,cx2⟩:=c3 (uH hR.below HX9_4);refine gSq (b:=true) e1 ?_;go_simp;exact hK _ _ rfl rB
    ·have e2:av_.tmps.getD 23 undef=.agg #[.bool a.neg,.string (encS a.num),.string (encS a.den)]:=hR.d 2;have e3:av_.tmps.getD 24 undef=.agg #[.bool st.neg,.string (encS st.num),.string (encS st.den)]:=hR.d 3;have e1:av_.tmps.getD 22 undef=.bool true:=hR.g 1;refine gSq (b:=true) e1 ?_;go_simp;refine (C7.out w (HB.out.trans (hR.below.mono HB.out.size))).mono ?_;rintro e w' ⟨rfl,hb⟩;exact hK _ _ (rfl) hb
    ·have e1:av_.tmps.getD 22 undef=.bool true:=hR.d 1;have e4:av_.tmps.getD 25 undef=.bool true:=hR.d 4;refine pSq ?_;go_simp;exact hK _ _ rfl rB
    ·have e5:av_.tmps.getD 26 undef=.bool true:=hR.d 5;refine pSq ?_;go_simp;exact hK _ _ rfl rB
    ·have e6:av_.tmps.getD 27 undef=.bool true:=hR.g 6;have b9:av_.tmps.getD 9 undef=.pointer (some ⟨bk9,0,none⟩):=hR.b 9;obtain ⟨cx0,cx1,cx2⟩:=c3 (uH hR.below HX9_4);refine gSq (b:=true) e6 ?_;go_simp;exact hK _ _ rfl rB
    ·have e6:av_.tmps.getD 27 undef=.bool true:=hR.g 6;have b8:av_.tmps.getD 8 undef=.pointer (some ⟨bk8,0,none⟩):=hR.b 8;obtain ⟨cx0,cx1,cx2⟩:=c3 (uH hR.below HX8_3);refine gSq (b:=true) e6 ?_;go_simp;exact hK _ _ rfl rB
    ·have e7:av_.tmps.getD 28 undef=.agg #[.bool st.neg,.string (encS st.num),.string (encS st.den)]:=hR.d 7;have e8:av_.tmps.getD 29 undef=.agg #[.bool a.neg,.string (encS a.num),.string (encS a.den)]:=hR.d 8;have e6:av_.tmps.getD 27 undef=.bool true:=hR.g 6;refine gSq (b:=true) e6 ?_;go_simp;refine (C8.out w (HB.out.trans (hR.below.mono HB.out.size))).mono ?_;rintro e w' ⟨rfl,hb⟩;exact hK _ _ (rfl) hb
    ·have e6:av_.tmps.getD 27 undef=.bool true:=hR.d 6;have e9:av_.tmps.getD 30 undef=.bool true:=hR.d 9;refine pSq ?_;go_simp;exact hK _ _ rfl rB
    ·have e10:av_.tmps.getD 31 undef=.bool true:=hR.d 10;refine pSq ?_;go_simp;exact hK _ _ rfl rB
    ·have e11:av_.tmps.getD 32 undef=.bool true:=hR.g 11;have b9:av_.tmps.getD 9 undef=.pointer (some ⟨bk9,0,none⟩):=hR.b 9;obtain ⟨cx0,cx1,cx2⟩:=c3 (uH hR.below HX9_4);refine gSq (b:=true) e11 ?_;go_simp;exact hK _ _ rfl rB
    ·have e11:av_.tmps.getD 32 undef=.bool true:=hR.g 11;have b2:av_.tmps.getD 2 undef=.int .u8 u:=hR.b 2;refine gSq (b:=true) e11 ?_;go_simp;exact hK _ _ rfl rB
    ·have e13:av_.tmps.getD 34 undef=.int .u8 u:=hR.d 13;have e11:av_.tmps.getD 32 undef=.bool true:=hR.g 11;have hu:=HU.out;refine gSq (b:=true) e11 ?_;go_simp;exact hK _ _ rfl rB
    ·have e14:av_.tmps.getD 35 undef=.int .i64 u:=hR.d 14;have e11:av_.tmps.getD 32 undef=.bool true:=hR.g 11;refine gSq (b:=true) e11 ?_;go_simp;refine (C5.out w).mono ?_;rintro e w' ⟨rfl,hb⟩;exact hK _ _ (rfl) hb
    ·have e12:av_.tmps.getD 33 undef=.agg #[.bool st.neg,.string (encS st.num),.string (encS st.den)]:=hR.d 12;have e15:av_.tmps.getD 36 undef=.agg #[.bool wh.neg,.string (encS wh.num),.string (encS wh.den)]:=hR.d 15;have e11:av_.tmps.getD 32 undef=.bool true:=hR.g 11;refine gSq (b:=true) e11 ?_;go_simp;refine (C6.out w).mono ?_;rintro e w' ⟨rfl,hb⟩;exact hK _ _ (rfl) hb
    ·have e11:av_.tmps.getD 32 undef=.bool true:=hR.g 11;have b9:av_.tmps.getD 9 undef=.pointer (some ⟨bk9,0,none⟩):=hR.b 9;obtain ⟨cx0,cx1,cx2⟩:=c3 (uH hR.below HX9_4);refine gSq (b:=true) e11 ?_;go_simp;exact hK _ _ rfl rB
    ·have e16:av_.tmps.getD 37 undef=.agg #[.bool mw.neg,.string (encS mw.num),.string (encS mw.den)]:=hR.d 16;have e17:av_.tmps.getD 38 undef=.agg #[.bool st.neg,.string (encS st.num),.string (encS st.den)]:=hR.d 17;have e11:av_.tmps.getD 32 undef=.bool true:=hR.g 11;refine gSq (b:=true) e11 ?_;go_simp;refine (C9.out w (HB.out.trans (hR.below.mono HB.out.size))).mono ?_;rintro e w' ⟨rfl,hb⟩;exact hK _ _ (rfl) hb
    ·have e11:av_.tmps.getD 32 undef=.bool true:=hR.d 11;have e18:av_.tmps.getD 39 undef=.bool true:=hR.d 18;refine pSq ?_;go_simp;exact hK _ _ rfl rB
    ·have e19:av_.tmps.getD 40 undef=.bool true:=hR.d 19;refine pSq ?_;go_simp;exact hK _ _ rfl rB
   ·intro sv_ w hS hb;have e20:sv_ 6=.bool true:=hS 20 (by decide);simp only [over,ovL,Nat.reduceAdd,Nat.reduceLeDiff,Nat.reduceLT];have HB:=mH HB hb;have HX3_1:=uH hb HX3_1;have HX4_2:=uH hb HX4_2;have HX8_3:=uH hb HX8_3;have HX9_4:=uH hb HX9_4;obtain ⟨w10,hw⟩:∃w8,w8=w:=⟨_,rfl⟩;subst hw;rw [e20];clear hS hb e20;go_wp2_with fail;go_ret;exact ⟨rfl,by rw [HN0.out];exact HB.out⟩
end Go.Proofs.YtabfjecegpaoaaaGreatDoor.moneyRounds
