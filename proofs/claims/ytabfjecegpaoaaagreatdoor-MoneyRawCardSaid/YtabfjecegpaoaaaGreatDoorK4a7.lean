/- MoneyRaw: for every input the law returns true, and each argument reads afterwards as it read before; the listed tables read as the program lays them (the tied card). -/
import Derived.RangeFuncNested
import Derived.RangeFuncCalls
import Derived.RangeFuncLeaves
import Derived.Shelf.Abstract
import Derived.Below
import Derived.Lib.LaidIn
import Derived.RegionTactic
import Derived.KernelRfl
import Derived.Lib.Hide
import Derived.OrdersIn
import Derived.Deep.LoopGhost
import Derived.Deep.QuietTactic
import Derived.BigQuiet
import Derived.Test.YtabfjecegpaoaaaGreatDoorProg
import Derived.WalkKit
import Derived.WalkSpells
import Derived.WalkLawsBesides
import Derived.IntWalk
import Derived.Laws.BitsAllLaws
import Derived.StillTailTactics
import Derived.Deep.OwnRows
import Derived.Lib.ConvBytes
import Derived.Shelf.Strings.Builder1
import Derived.Shelf.Strings.Builder2
import Derived.Shelf.Strings.Trim
import Derived.Shelf.Small.Utf8
import Derived.Shelf.Small.Bits
import Derived.Shelf.Small.Strs
import Derived.Shelf.Strings.BuilderF
import Derived.Shelf.Strings.BuilderK
import Derived.Shelf.Strings.Builder2Cap
import Derived.Shelf.Strconv.Atoi
import Derived.Shelf.Strconv.Itoa0
import Derived.Shelf.Strconv.Itoa1
import Derived.Shelf.LaysM
import Derived.Shelf.Strconv.Itoa2
import Derived.Shelf.Strconv.Itoa3
import Derived.Shelf.Strconv.AtoiErrFast
import Derived.Shelf.Strconv.ParseIntEmpty
import Derived.Shelf.Strconv.AtoiFail
import Derived.Shelf.Strconv.Clone
import Derived.Shelf.Strconv.SyntaxError
import Derived.Shelf.LaysC
import Derived.Shelf.Strconv.ToError
import Derived.Shelf.Strconv.Lower
import Derived.Shelf.Strconv.ParseUint10
import Derived.Shelf.Strconv.ParseUint10Empty
import Derived.Shelf.Strconv.ParseUint10Any
import Derived.Shelf.Strconv.ParseInt10
import Derived.Shelf.Strconv.AtoiLong
import Derived.Shelf.Strconv.AtoiInnerAll
import Derived.Shelf.Strconv.RangeError
import Derived.Shelf.Strconv.ToErrorRange
import Derived.Shelf.Strconv.AtoiAll
import Derived.Shelf.Strconv.ErrVarAll
import Derived.Shelf.Strconv.ParseUintEmpty
import Derived.Shelf.Strconv.ParseUint10b64
import Derived.Shelf.Strconv.ParseUint10b32
import Derived.Shelf.Strconv.ParseUint10b16
import Derived.Shelf.Strconv.ParseUint10b8
import Derived.Shelf.Strconv.ParseUint10At
import Derived.Shelf.Strconv.ParseInt10At64
import Derived.Shelf.Strconv.ParseInt10At32
import Derived.Shelf.Strconv.ParseInt10At16
import Derived.Shelf.Strconv.ParseInt10At8
import Derived.Shelf.Strconv.ParseInt10All
import Derived.Shelf.Strings.Search1
import Derived.Shelf.GgClosure.StringsIndexFunc
import Derived.Ground.GgwProg
import Derived.Shelf.GgClosure.StringsIndexFuncTop
import Derived.Shelf.GgClosure.StringsRunes
import Derived.Shelf.Strings.Prefix
import Derived.Shelf.Unicode.Decode
import Derived.Shelf.Strings.Runes
import Derived.Shelf.Strings.AsciiSet
import Derived.Shelf.Bits.Mul64
import Derived.Shelf.Strings.Repeat
import Derived.Shelf.Unicode.DecodeSlow
import Derived.Shelf.Unicode.DecodeAny
import Derived.Shelf.Strings.FuncGrows
import Derived.Shelf.Strings.BuilderCap
import Derived.OwnWalkIn
import Derived.TacticsInMore
import Derived.LoopNIn
import Derived.LoopIn
import Derived.RangeFuncKeeps
import Derived.Lib.IndexMore
import Derived.Laws.AppendOwn
import Derived.Deep.DeepAppendWide
import Derived.Test.YtabfjecegpaoaaaGreatDoorZb1
import Derived.Test.YtabfjecegpaoaaaGreatDoorK4a2
import Derived.Test.YtabfjecegpaoaaaGreatDoorZb5
import Derived.Test.YtabfjecegpaoaaaGreatDoorK4a1
import Derived.Test.YtabfjecegpaoaaaGreatDoorZb8
import Derived.Test.YtabfjecegpaoaaaGreatDoorZa1
import Derived.Test.YtabfjecegpaoaaaGreatDoorZc2
import Derived.Test.YtabfjecegpaoaaaGreatDoorZb6
import Derived.Test.YtabfjecegpaoaaaGreatDoorZb2
import Derived.Test.YtabfjecegpaoaaaGreatDoorZb4
import Derived.Test.YtabfjecegpaoaaaGreatDoorZb3
import Derived.Test.YtabfjecegpaoaaaGreatDoorZa6
import Derived.Test.YtabfjecegpaoaaaGreatDoorZa5
import Derived.Test.YtabfjecegpaoaaaGreatDoorZa4
import Derived.Test.YtabfjecegpaoaaaGreatDoorZa3
import Derived.Test.YtabfjecegpaoaaaGreatDoorZa0
import Derived.Test.YtabfjecegpaoaaaGreatDoorZa2
import Derived.Test.YtabfjecegpaoaaaGreatDoorZb7
import Derived.Test.YtabfjecegpaoaaaGreatDoorZc1
import Derived.Test.YtabfjecegpaoaaaGreatDoorZc3
import Derived.Test.YtabfjecegpaoaaaGreatDoorZc4
import Derived.Test.YtabfjecegpaoaaaGreatDoorK4a4
import Derived.Test.YtabfjecegpaoaaaGreatDoorK4a6
import Derived.Test.YtabfjecegpaoaaaGreatDoorZc5
import Derived.Test.YtabfjecegpaoaaaGreatDoorK4a5
import Derived.Test.YtabfjecegpaoaaaGreatDoorZb0
import Derived.Test.YtabfjecegpaoaaaGreatDoorK4a3
import Derived.Test.YtabfjecegpaoaaaGreatDoorZc6
set_option maxHeartbeats 16000000
set_option linter.unusedVariables false
namespace Go.Proofs.YtabfjecegpaoaaaGreatDoor
open Go.RowKit Go.Shelf
open Dgt
def EQuota_r_1_1 (a:Rt) (S:Rt) (x:Rt) (m:Rt) (q:Rt) (n:Nat) (k:Nat) (g:Nat) (off:Nat) (ca:Nat):Nat→Value
 | 0=>.agg #[.bool a.neg,.string (encS a.num),.string (encS a.den)]
 | 1=>.slice (some ⟨g,off,none⟩) n ca
 | 2=>.int .i64 (k:Int)
 | 3=>.pointer (some ⟨g,off+k*3,none⟩)
 | 4=>.agg #[.bool x.neg,.string (encS x.num),.string (encS x.den)]
 | 5=>.agg #[.bool m.neg,.string (encS m.num),.string (encS m.den)]
 | 6=>.slice (some ⟨g,off,none⟩) n ca
 | 7=>.agg #[.bool S.neg,.string (encS S.num),.string (encS S.den)]
 | 8=>.tuple #[.agg #[.bool q.neg,.string (encS q.num),.string (encS q.den)],.bool true]
 | 9=>.tuple #[.agg #[.bool q.neg,.string (encS q.num),.string (encS q.den)],.bool true]
 | 10=>.agg #[.bool q.neg,.string (encS q.num),.string (encS q.den)]
 | 11=>.bool true
 | 12=>undef
 | 13=>undef
 | 14=>.bool true
 | _=>undef
set_option maxRecDepth 100000 in
theorem Quota_r {a:Rt} {ws:List Rt} (ha:a.Ok) (za:Rz a 90000) (ho:∀x ∈ ws,x.Ok) (hz:∀x ∈ ws,Rz x 1000) (hn:ws.length≤20) (hnum:(sumT ws).num≠0) (k:Nat) (hk:k<ws.length) (v:Value) (wq:World) (hl:LstR wq v (ws.map rawR)) :
  Gv 37 #[.agg #[.bool a.neg,.string (encS a.num),.string (encS a.den)],v,.int .i64 (k:Int)] wq (rtV (quoR (mulR a (ws.getD k zeroR)) (sumT ws))):=by
 unfold Gv;obtain ⟨p,ca,rfl,-,hcells⟩:=hl.open;rw [List.length_map] at hl ⊢;have hh:=hcells k (by rw [List.length_map];exact hk);simp only [List.getElem_map] at hh;obtain ⟨g,off,rfl,hg,hd⟩:=hh;rw [getD_at' hk];have hS:(sumT ws).Ok:=sumT_ok ho;have zS:Rz (sumT ws) 30000:=sumT_sz ho hz hn;have hx:=ho _ (List.getElem_mem hk);have zx:=hz _ (List.getElem_mem hk);have c1:=fun w=>rRatMul_r (IsR.of ha za) (IsR.of hx (zx.mono (show 1000≤90000 by decide))) (by decide) (by decide) w
 have c2:∀w,Below wq.heap.size wq w→_:=fun w h=>rSum_any (ws.map rawR) (.slice (some ⟨g,off,none⟩) ws.length ca) w (hl.up h) (by rw [List.length_map];exact hn) (szl_raw hz)
 rw [sumT_raw ho] at c2;have c3:=fun w=>rRatQuo_r (IsR.of (mulR_ok ha hx) (mulR_sz za zx)) (IsR.of hS (zS.mono (show 30000≤91000 by decide))) (by decide) (by decide) w
 unfold quoV at c3;rw [if_neg hnum] at c3;have HD:Hid (wq.cell? ⟨g,off+k*3,none⟩=some (.bool ws[k].neg)∧wq.cell? ⟨g,off+k*3+1,none⟩=some (.string (encS ws[k].num))∧wq.cell? ⟨g,off+k*3+2,none⟩=some (.string (encS ws[k].den))):=hD hd;have HGG:=hD hg;have HKN:=hD hk;obtain ⟨n,hnn⟩:∃n,ws.length=n:=⟨_,rfl⟩;rw [hnn] at c2 HKN;rw [hnn];obtain ⟨x,h1⟩:∃x,ws[k]=x:=⟨_,rfl⟩;rw [h1] at c1 c3 HD ⊢;obtain ⟨S,h2⟩:∃x,sumT ws=x:=⟨_,rfl⟩;rw [h2] at c2 c3 ⊢;obtain ⟨m,h3⟩:∃x,mulR a ws[k]=x:=⟨_,rfl⟩;rw [h1] at h3;rw [h3] at c1 c3 ⊢;obtain ⟨q,h4⟩:∃x,quoR m S=x:=⟨_,rfl⟩;rw [h4] at c3 ⊢;have C1:Hid (∀w,Gv 16 #[rtV a,rtV x] w (.agg #[.bool m.neg,.string (encS m.num),.string (encS m.den)])):=hD c1;have C2:Hid (∀w,Below wq.heap.size wq w→Gv 36 #[.slice (some ⟨g,off,none⟩) n ca] w (.agg #[.bool S.neg,.string (encS S.num),.string (encS S.den)])):=hD c2
 have C3:Hid (∀w,Gv 26 #[rtV m,rtV S] w (.tuple #[.agg #[.bool q.neg,.string (encS q.num),.string (encS q.den)],.bool true])):=hD c3;clear c1 c2 c3 hcells hl ha za ho hz hn hnum hk hg hd hS zS hx zx hnn h1 h2 h3 h4;have HB:=hD (Below.refl wq.heap.size wq);obtain ⟨n0,hn0⟩:∃n,n=wq.heap.size:=⟨_,rfl⟩;rw [←hn0];have HN0:=hD hn0;clear hn0;go_enter Tryz.func37,Tryz.ntmps37;obtain ⟨W1,bk3,hW1,hbk3,HX3_1,HB,HG3_1,hup⟩:=boxR HB HN0 a;clear hup;obtain ⟨W2,bk6,hW2,hbk6,HX6_2,HB,HG6_2,hup⟩:=boxZ HB HN0;have HL6_2:=(hup _ _ HX3_1).2;have HX3_1:=(hup _ _ HX3_1).1;clear hup;go_wp2_with fail;clear hW1 hbk3 hW2 hbk6
 refine wp_region_box (w0:=W2) (by kernel_rfl) (fun ix v _=>v=EQuota_r_1_1 a S x m q n k g off ca ix) 12 13 (.cells #[.bool false,.string ⟨#[]⟩,.string ⟨#[]⟩] 26 (0,0)) (.cells #[.bool q.neg,.string (encS q.num),.string (encS q.den)] 26 (0,0)) (fun t=>(decide (7≤t)&&decide (t<21))) (by kernel_rfl) (by kernel_rfl) (by kernel_rfl) (by decide) (by decide) (by kernel_rfl) rfl (fun _ _ _ _ _ h=>h) ?_ ?_ ?_ ?_
 ·intro i hi hia his ov_ listed av_ w hR K hK;have ho:=hR.at_;have hi:i<15:=hi;have hii:i=0∨i=1∨i=2∨i=3∨i=4∨i=5∨i=6∨i=7∨i=8∨i=9∨i=10∨i=11∨i=14:=by omega
  rcases hii with rfl|rfl|rfl|rfl|rfl|rfl|rfl|rfl|rfl|rfl|rfl|rfl|rfl
  ·simp at ho;subst ho;have b3:av_.tmps.getD 3 undef=.pointer (some ⟨bk3,0,none⟩):=hR.b 3;obtain ⟨cx0,cx1,cx2⟩:=c3 (uH hR.below HX3_1);refine pSq ?_;go_simp;exact hK _ _ rfl rB
  ·simp at ho;subst ho;have b1:av_.tmps.getD 1 undef=.slice (some ⟨g,off,none⟩) n ca:=hR.b 1;refine pSq ?_;go_simp;exact hK _ _ rfl rB
  ·simp at ho;subst ho;have b2:av_.tmps.getD 2 undef=.int .i64 (k:Int):=hR.b 2;refine pSq ?_;go_simp;exact hK _ _ rfl rB
  ·simp at ho;subst ho;have e1:av_.tmps.getD 11 undef=.slice (some ⟨g,off,none⟩) n ca:=hR.dep ⟨1,.data⟩ (by simp) rfl (by decide) (by decide);have e2:av_.tmps.getD 12 undef=.int .i64 (k:Int):=hR.dep ⟨2,.data⟩ (by simp) rfl (by decide) (by decide);have q1:(k:Int)<(n:Int):=by have:=HKN.out;omega
   refine pSq ?_;go_simp;exact hK _ _ rfl rB
  ·simp at ho;subst ho;have e3:av_.tmps.getD 13 undef=.pointer (some ⟨g,off+k*3,none⟩):=hR.dep ⟨3,.data⟩ (by simp) rfl (by decide) (by decide);have d0:w.cell? ⟨g,off+k*3,none⟩=some (.bool x.neg):=by rw [clU (HB.out.trans (hR.below.mono HB.out.size)) HGG.out];exact HD.out.1
   have d1:w.cell? ⟨g,off+k*3+1,none⟩=some (.string (encS x.num)):=by rw [clU (HB.out.trans (hR.below.mono HB.out.size)) HGG.out];exact HD.out.2.1
   have d2:w.cell? ⟨g,off+k*3+2,none⟩=some (.string (encS x.den)):=by rw [clU (HB.out.trans (hR.below.mono HB.out.size)) HGG.out];exact HD.out.2.2
   refine pSq ?_;go_simp;exact hK _ _ rfl rB
  ·simp at ho;subst ho;have e0:av_.tmps.getD 10 undef=.agg #[.bool a.neg,.string (encS a.num),.string (encS a.den)]:=hR.dep ⟨0,.data⟩ (by simp) rfl (by decide) (by decide);have e4:av_.tmps.getD 14 undef=.agg #[.bool x.neg,.string (encS x.num),.string (encS x.den)]:=hR.dep ⟨4,.data⟩ (by simp) rfl (by decide) (by decide);refine pSq ?_;go_simp;refine (C1.out w).mono ?_;rintro e w' ⟨rfl,hb⟩;exact hK _ _ (rfl) hb
  ·simp at ho;subst ho;have b1:av_.tmps.getD 1 undef=.slice (some ⟨g,off,none⟩) n ca:=hR.b 1;refine pSq ?_;go_simp;exact hK _ _ rfl rB
  ·simp at ho;subst ho;have e6:av_.tmps.getD 16 undef=.slice (some ⟨g,off,none⟩) n ca:=hR.dep ⟨6,.data⟩ (by simp) rfl (by decide) (by decide);refine pSq ?_;go_simp;refine (C2.out w (HB.out.trans (hR.below.mono HB.out.size))).mono ?_;rintro e w' ⟨rfl,hb⟩;exact hK _ _ (rfl) hb
  ·simp at ho;subst ho;have e5:av_.tmps.getD 15 undef=.agg #[.bool m.neg,.string (encS m.num),.string (encS m.den)]:=hR.dep ⟨5,.data⟩ (by simp) rfl (by decide) (by decide);have e7:av_.tmps.getD 17 undef=.agg #[.bool S.neg,.string (encS S.num),.string (encS S.den)]:=hR.dep ⟨7,.data⟩ (by simp) rfl (by decide) (by decide);refine pSq ?_;go_simp;refine (C3.out w).mono ?_;rintro e w' ⟨rfl,hb⟩;exact hK _ _ (rfl) hb
  ·simp at ho;subst ho;have e8:av_.tmps.getD 18 undef=.tuple #[.agg #[.bool q.neg,.string (encS q.num),.string (encS q.den)],.bool true]:=hR.dep ⟨8,.data⟩ (by simp) rfl (by decide) (by decide);refine pSq ?_;go_simp;exact hK _ _ rfl rB
  ·simp at ho;subst ho;have e9:av_.tmps.getD 9 undef=.tuple #[.agg #[.bool q.neg,.string (encS q.num),.string (encS q.den)],.bool true]:=hR.dep ⟨9,.data⟩ (by simp) rfl (by decide) (by decide);refine pSq ?_;go_simp;exact hK _ _ rfl rB
  ·simp at ho;subst ho;have e9:av_.tmps.getD 9 undef=.tuple #[.agg #[.bool q.neg,.string (encS q.num),.string (encS q.den)],.bool true]:=hR.dep ⟨9,.data⟩ (by simp) rfl (by decide) (by decide);refine pSq ?_;go_simp;exact hK _ _ rfl rB
  ·simp at ho;subst ho;have e11:av_.tmps.getD 20 undef=.bool true:=hR.dep ⟨11,.data⟩ (by simp) rfl (by decide) (by decide);refine pSq ?_;go_simp;exact hK _ _ rfl rB
 ·intro ov_ av_ w ho K hK;simp at ho;subst ho;refine pSq ?_;go_simp;exact hK _ _ _ rfl (Nat.le_refl _) (heap_alloc_new _ _) (rB.alloc (Nat.le_refl _) _)
 ·intro ov_ listed av_ w g hR hv hg hz K hK;have ho:=hR.at_;simp at ho;subst ho;have e12:av_.tmps.getD 7 undef=.pointer (some ⟨g,0,none⟩):=hv;have e10:av_.tmps.getD 19 undef=.agg #[.bool q.neg,.string (encS q.num),.string (encS q.den)]:=hR.dep ⟨10,.data⟩ (by simp) rfl (by decide) (by decide);have cz0:w.cell? ⟨g,0,none⟩=some (.bool false):=by rw [Lib.cell_of_heap hz];rfl
  have fz0:w.frozen? ⟨g,0,none⟩=false:=frz0 hz 0;have cz1:w.cell? ⟨g,1,none⟩=some (.string ⟨#[]⟩):=by rw [Lib.cell_of_heap hz];rfl
  have fz1:w.frozen? ⟨g,1,none⟩=false:=frz0 hz 1;have cz2:w.cell? ⟨g,2,none⟩=some (.string ⟨#[]⟩):=by rw [Lib.cell_of_heap hz];rfl
  have fz2:w.frozen? ⟨g,2,none⟩=false:=frz0 hz 2;refine pSq ?_;go_simp;exact hK _ (by simp [World.setCell,Array.getElem?_modify,hz]) (((rB.setCell (p:=⟨g,0,none⟩) hg (.bool q.neg)).setCell (p:=⟨g,1,none⟩) hg (.string (encS q.num))).setCell (p:=⟨g,2,none⟩) hg (.string (encS q.den)))
 ·intro sv_ w g hS hg0 hge hN hb;have e12:sv_ 7=.pointer (some ⟨g,0,none⟩):=hg0;simp only [over,ovL,Nat.reduceAdd,Nat.reduceLeDiff,Nat.reduceLT];obtain ⟨bk7,hg1⟩:∃b,g=b:=⟨_,rfl⟩;rw [hg1] at e12 hge hN;clear hg1;have HG7_3:Hid (n0≤bk7):=hD (by rw [HN0.out];exact Nat.le_trans HB.out.size hge);have HL7_3:=hD (Nat.lt_of_lt_of_le (Array.getElem?_eq_some_iff.1 HX6_2.out).1 hge);have HX7_3:=hD hN;clear hN hge hg0;have HX3_1:=uH hb HX3_1;have HX6_2:=uH hb HX6_2;have HB:=mH HB hb;obtain ⟨w3,hw⟩:∃w8,w8=w:=⟨_,rfl⟩;subst hw;rw [e12];clear hS hb e12;obtain ⟨k4a,k4b,k4c⟩:=c3 HX7_3;obtain ⟨W4,hW4,HX6_2,HB,ho,f5a,f5b,f5c,k5a,k5b,k5c⟩:=putR HX6_2 HB HN0 HG6_2 q;have HX3_1:=ho _ _ (en1 HL6_2) HX3_1;have HX7_3:=ho _ _ (ne1 HL7_3) HX7_3;clear ho;go_wp2_with fail;clear k4a k4b k4c f5a f5b f5c k5a k5b k5c hW4;refine bodyPost_ret (rC1 HX6_2.out) rfl ?_;exact ⟨rfl,by rw [HN0.out];exact HB.out⟩
section
variable (na:Bool) (sa da:ByteArray) (nb:Bool) (sb db:ByteArray)
theorem steps_cases (za:sa.size≤9000) (zda:da.size≤9000) (zb:sb.size≤9000) (zdb:db.size≤9000) (h:stepsB na sa da nb sb db=true) :
  ∃a s:Rt,a.Ok∧s.Ok∧Rz a 9000∧Rz s 9000∧0<sgnR s∧na=a.neg∧sa=encS a.num∧da=encS a.den∧nb=s.neg∧sb=encS s.num∧db=encS s.den:=by
 unfold stepsB at h;simp only [Bool.and_eq_true,decide_eq_true_eq] at h;obtain ⟨⟨h1,h2⟩,h3⟩:=h;obtain ⟨a,oa,ka,ea1,ea2,ea3,-⟩:=right_row h1 za zda;obtain ⟨s,os,ks,es1,es2,es3,e4⟩:=right_row h2 zb zdb;rw [←e4] at h3;exact ⟨a,s,oa,os,ka,ks,h3,ea1,ea2,ea3,es1,es2,es3⟩
end
theorem Down_both (na:Bool) (sa da:ByteArray) (nb:Bool) (sb db:ByteArray) (za:sa.size≤9000) (zda:da.size≤9000) (zb:sb.size≤9000) (zdb:db.size≤9000):∃n s d b,∀w,Gv 23 #[.agg #[.bool na,.string sa,.string da],.agg #[.bool nb,.string sb,.string db]] w (.tuple #[.agg #[.bool n,.string s,.string d],.bool b])∧Gv 46 #[.agg #[.bool na,.string sa,.string da],.agg #[.bool nb,.string sb,.string db]] w (.tuple #[.agg #[.bool n,.string s,.string d],.bool b]):=by
 by_cases h:stepsB na sa da nb sb db=true
 ·obtain ⟨a,s,oa,os,ka,ks,hp,rfl,rfl,rfl,rfl,rfl,rfl⟩:=steps_cases na sa da nb sb db za zda zb zdb h;exact ⟨_,_,_,true,fun w=>⟨MoDown_r oa os ka ks hp w,rDown_r oa os (ka.mono (by decide)) (ks.mono (by decide)) hp w⟩⟩
 ·have h:stepsB na sa da nb sb db=false:=by simpa using h
  exact ⟨_,_,_,false,fun w=>⟨MoDown_no na sa da nb sb db (by omega) (by omega) (by omega) (by omega) h w,rDown_no na sa da nb sb db (by omega) (by omega) (by omega) (by omega) h w⟩⟩
theorem Up_both (na:Bool) (sa da:ByteArray) (nb:Bool) (sb db:ByteArray) (za:sa.size≤9000) (zda:da.size≤9000) (zb:sb.size≤9000) (zdb:db.size≤9000):∃n s d b,∀w,Gv 24 #[.agg #[.bool na,.string sa,.string da],.agg #[.bool nb,.string sb,.string db]] w (.tuple #[.agg #[.bool n,.string s,.string d],.bool b])∧Gv 47 #[.agg #[.bool na,.string sa,.string da],.agg #[.bool nb,.string sb,.string db]] w (.tuple #[.agg #[.bool n,.string s,.string d],.bool b]):=by
 by_cases h:stepsB na sa da nb sb db=true
 ·obtain ⟨a,s,oa,os,ka,ks,hp,rfl,rfl,rfl,rfl,rfl,rfl⟩:=steps_cases na sa da nb sb db za zda zb zdb h;exact ⟨_,_,_,true,fun w=>⟨MoUp_r oa os ka ks hp w,rUp_r oa os (ka.mono (by decide)) (ks.mono (by decide)) hp w⟩⟩
 ·have h:stepsB na sa da nb sb db=false:=by simpa using h
  exact ⟨_,_,_,false,fun w=>⟨MoUp_no na sa da nb sb db (by omega) (by omega) (by omega) (by omega) h w,rUp_no na sa da nb sb db (by omega) (by omega) (by omega) (by omega) h w⟩⟩
theorem Near_both (na:Bool) (sa da:ByteArray) (nb:Bool) (sb db:ByteArray) (za:sa.size≤9000) (zda:da.size≤9000) (zb:sb.size≤9000) (zdb:db.size≤9000):∃n s d b,∀w,Gv 25 #[.agg #[.bool na,.string sa,.string da],.agg #[.bool nb,.string sb,.string db]] w (.tuple #[.agg #[.bool n,.string s,.string d],.bool b])∧Gv 48 #[.agg #[.bool na,.string sa,.string da],.agg #[.bool nb,.string sb,.string db]] w (.tuple #[.agg #[.bool n,.string s,.string d],.bool b]):=by
 by_cases h:stepsB na sa da nb sb db=true
 ·obtain ⟨a,s,oa,os,ka,ks,hp,rfl,rfl,rfl,rfl,rfl,rfl⟩:=steps_cases na sa da nb sb db za zda zb zdb h;exact ⟨_,_,_,true,fun w=>⟨MoNear_r oa os ka ks hp w,rNear_r oa os (ka.mono (by decide)) (ks.mono (by decide)) hp w⟩⟩
 ·have h:stepsB na sa da nb sb db=false:=by simpa using h
  exact ⟨_,_,_,false,fun w=>⟨MoNear_no na sa da nb sb db (by omega) (by omega) (by omega) (by omega) h w,rNear_no na sa da nb sb db (by omega) (by omega) (by omega) (by omega) h w⟩⟩
theorem Cents_both (na:Bool) (sa da:ByteArray) (za:sa.size≤90000) (zda:da.size≤90000):∃c b,∀w,Gv 29 #[.agg #[.bool na,.string sa,.string da]] w (.tuple #[.int .i64 c,.bool b])∧Gv 49 #[.agg #[.bool na,.string sa,.string da]] w (.tuple #[.int .i64 c,.bool b]):=by
 by_cases h:rightR na sa da=true
 ·obtain ⟨a,oa,ka,rfl,rfl,rfl,-⟩:=right_row h za zda;exact ⟨_,_,fun w=>⟨MoCents_r oa ka w,rCents_r oa ka w⟩⟩
 ·have h:rightR na sa da=false:=by simpa using h
  exact ⟨_,_,fun w=>⟨MoCents_no na sa da (by omega) (by omega) h w,rCents_no na sa da (by omega) (by omega) h w⟩⟩
theorem Text_both (na:Bool) (sa da:ByteArray) (za:sa.size≤90000) (zda:da.size≤90000):∃t b,∀w,(Lib.TabIs Tryz.prog w "internal/strconv.uint64pow10" .u64 Lib.pow10Tab→Gv 30 #[.agg #[.bool na,.string sa,.string da]] w (.tuple #[.string t,.bool b]))∧Gv 50 #[.agg #[.bool na,.string sa,.string da]] w (.tuple #[.string t,.bool b]):=by
 by_cases h:rightR na sa da=true
 ·obtain ⟨a,oa,ka,rfl,rfl,rfl,-⟩:=right_row h za zda;have h1:=fun w ht=>MoText_r oa ka w ht;have h2:=fun w=>rText_r oa ka w
  unfold textV at h1 h2
  split at h1
  ·next hc=>rw [if_pos hc] at h2;exact ⟨_,_,fun w=>⟨h1 w,h2 w⟩⟩
  ·next hc=>rw [if_neg hc] at h2;exact ⟨_,_,fun w=>⟨h1 w,h2 w⟩⟩
 ·have h:rightR na sa da=false:=by simpa using h
  exact ⟨_,_,fun w=>⟨fun _=>MoText_no na sa da (by omega) (by omega) h w,rText_no na sa da (by omega) (by omega) h w⟩⟩
end Go.Proofs.YtabfjecegpaoaaaGreatDoor
namespace Go.Proofs.YtabfjecegpaoaaaGreatDoor
open Go.RowKit Go.Shelf Go
open Dgt
theorem ofC_sz {c:Int} (h1: -9223372036854775808≤c) (h2:c≤9223372036854775807):Rz (ofC c) 16:=quoR_sz (ofR_sz h1 h2) (ofR_sz (n:=100) (by decide) (by decide))
theorem wts_of {ws:List Rt} (ho:∀a ∈ ws,a.Ok) (hn:∀a ∈ ws,a.neg=false) (h:0<sgnR (sumT ws)):Wts ws∧1≤ws.length:=by
 refine ⟨⟨ho,hn,?_⟩,?_⟩
 ·have h2:=q_sgn (sumT_ok ho);rcases sgn_cases (sumT ws) with h3|h3|h3
  ·omega
  ·exact h2.2.1.1 h3
  ·omega
 ·cases ws with
  | nil=>exact absurd h (by decide)
  | cons a l=>simp
section
variable {c:Int} {ws:List Rt} {s:List Nat}
theorem cel_cells3 (l:List Rt):cel l=cells3 (l.map rawR):=by
 unfold cel cells3;rw [List.flatMap_map];rfl
end
end Go.Proofs.YtabfjecegpaoaaaGreatDoor
namespace Go.Proofs.YtabfjecegpaoaaaGreatDoor
open Go.RowKit Go.Shelf
open Dgt
def sharesB (l:List Rw):Bool:=decide (1≤l.length)&&(!(l.any Rw.bad)&&decide (0<sgnR (sumL l zeroR)))
set_option maxRecDepth 100000 in
theorem shares_any (l:List Rw) (v:Value) (wq:World) (hl:LstR wq v l) (hn:l.length≤20) (hs:SzL l 1000) :
  Gv 67 #[v] wq (.bool (sharesB l)):=by
 unfold Gv;have HUP:=hD (fun w (h:Below wq.heap.size wq w)=>rSum_any l v w (hl.up h) hn hs);obtain ⟨p,ca,rfl,hla,hca⟩:=hl.open;have HC:=hD hca;have HF:Hid (∀k (h:k<l.length) w,Gv 89 #[.agg #[.bool l[k].neg,.string l[k].n,.string l[k].d]] w (.bool l[k].right)):=hD fun k h w=>by
  have:=hs _ (List.getElem_mem h);exact rRatRight_any l[k].neg l[k].n l[k].d w (by omega) (by omega)
 have hSok:(sumL l zeroR).Ok:=sumL_ok l zeroR zeroR_ok;have hSz:Rz (sumL l zeroR) 30000:=(sumL_sz l zeroR 1 hs zeroR_sz).mono (by omega);have HSG:=hD (fun w=>rRatSign_r (IsR.of hSok hSz) (by decide) w);obtain ⟨AB,hAB⟩:∃b,l.any Rw.bad=b:=⟨_,rfl⟩;obtain ⟨S,hS⟩:∃s,sumL l zeroR=s:=⟨_,rfl⟩;obtain ⟨z,hz⟩:∃z,sgnR S=z:=⟨_,rfl⟩;obtain ⟨n,hnn⟩:∃n,l.length=n:=⟨_,rfl⟩;unfold sharesB;rw [hS] at HUP HSG;rw [hz] at HSG;rw [hAB,hS,hz,hnn];rw [hnn] at HUP hn;have HAB:=hD hAB;have HNN:=hD hnn;have HLN:=hD hn;clear hAB hca hl hs hla hS hz hSok hSz hnn hn
 by_cases h0:n=0
 ·subst h0;clear HLN HF HC HAB HNN;go_enter Tryz.func67,Tryz.ntmps67;go_wp2_with fail;go_ret;exact ⟨rfl,Below.refl _ _⟩
 ·have h1:¬(n:Int)<1:=by omega
  have h2:¬(n:Int)>100:=by have:=HLN.out;omega
  have h3:¬(100:Int)<(n:Int):=by have:=HLN.out;omega
  have H0:=hD h0;clear h0;go_enter Tryz.func67,Tryz.ntmps67;go_wp2_with fail;clear h1 h2 h3
  go_loopw [3] (fun i wr=>∃k:Nat,k≤n∧i=.int .i64 (k:Int)∧Hid ((l.take k).any Rw.bad=false)∧Hid (Below wq.heap.size wq wr)) (fun i _=>n-(intOf i).toNat)
  case atStart=>exact ⟨0,by omega,rfl,hD rfl,hD rB⟩
  case round =>
   obtain ⟨k,hk,rfl,HA,HB⟩:=hrel
   by_cases hlt:k<n
   ·have hlt' :(k:Int)<(n:Int):=by omega
    have hkl:k<l.length:=by rw [HNN.out];exact hlt
    obtain ⟨g,off,rfl,hg,c1,c2,c3⟩:=HC.out k hkl;have d1:wr.cell? ⟨g,off+k*3,none⟩=some (.bool l[k].neg):=by rw [clU HB.out hg];exact c1
    have d2:wr.cell? ⟨g,off+k*3+1,none⟩=some (.string l[k].n):=by rw [clU HB.out hg];exact c2
    have d3:wr.cell? ⟨g,off+k*3+2,none⟩=some (.string l[k].d):=by rw [clU HB.out hg];exact c3
    have hwi:IntKind.i64.wrap ((k:Int)+1)=((k+1:Nat):Int):=by rw [IntWalk.i64_in _ (by have:=HLN.out;omega)];omega
    have HK:=hD (HF.out k hkl);have HT:Hid ((l.take (k+1)).any Rw.bad=l[k].bad):=hD (by rw [List.take_succ_eq_append_getElem hkl,List.any_append,HA.out];simp);have HM:Hid (l[k].bad=true→AB=true):=hD fun h=>HAB.out ▸ List.any_eq_true.2 ⟨_,List.getElem_mem hkl,h⟩
    have HBD:Hid (l[k].bad= !(l[k].right&& !l[k].neg)):=hD rfl;have HGR:=hD hg;obtain ⟨r,hr⟩:∃r,l[k]=r:=⟨_,rfl⟩;rw [hr] at d1 d2 d3 HK HT HM HBD;obtain ⟨ng,hng⟩:∃b,r.neg=b:=⟨_,rfl⟩;obtain ⟨rg,hrg⟩:∃b,r.right=b:=⟨_,rfl⟩;obtain ⟨rn,hrn⟩:∃b,r.n=b:=⟨_,rfl⟩;obtain ⟨rd,hrd⟩:∃b,r.d=b:=⟨_,rfl⟩;rw [hng] at d1 HK HBD;rw [hrg] at HK HBD;rw [hrn] at d2 HK;rw [hrd] at d3 HK;have HLT:=hD hlt;clear c1 c2 c3 hr hlt hk hkl hg hng hrg hrn hrd;go_wp2_with fail;refine (HK.out _).mono ?_;rintro e w1 ⟨rfl,hb⟩;have e1:w1.cell? ⟨g,off+k*3,none⟩=some (.bool ng):=by rw [clU hb (Nat.lt_of_lt_of_le HGR.out HB.out.size)];exact d1
    have HB:=mH HB hb;clear hb d1 d2 d3;cases rg
    ·have HAT:Hid (AB=true):=hD (HM.out (by rw [HBD.out];rfl));clear hwi e1;go_wp2_with fail;go_ret;exact ⟨by rw [HAT.out];simp,HB.out⟩
    ·cases ng
     ·have HT2:Hid ((l.take (k+1)).any Rw.bad=false):=hD (by rw [HT.out,HBD.out];rfl);go_wp2_with fail
      go_roundw
      case rel=>exact ⟨k+1,by have:=HLT.out;omega,by first|rfl|go_num,HT2,HB⟩
      case measure=>have:=HLT.out;simp [intOf];omega
     ·have HAT:Hid (AB=true):=hD (HM.out (by rw [HBD.out];rfl));clear hwi;go_wp2_with fail;go_ret;exact ⟨by rw [HAT.out];simp,HB.out⟩
   ·have hge:¬(k:Int)<(n:Int):=by omega
    have HAF:Hid (AB=false):=hD (by have:=HA.out;rw [List.take_of_length_le (by have:=HNN.out;omega)] at this;rw [←HAB.out];exact this);clear hlt hk;go_wp2_with fail;refine (HUP.out _ HB.out).mono ?_;rintro e w1 ⟨rfl,hb⟩;unfold rtV;have HB:=mH HB hb;clear hb hge;go_wp2_with fail;refine (HSG.out _).mono ?_;rintro e w2 ⟨rfl,hb⟩;have HB:=mH HB hb;clear hb;go_wp2_with fail;go_ret;exact ⟨by rw [HAF.out];simp;have:=H0.out;omega,HB.out⟩
end Go.Proofs.YtabfjecegpaoaaaGreatDoor
namespace Go.Proofs.YtabfjecegpaoaaaGreatDoor
open Go Go.RowKit
def Moved (w:World) (v v' :Value):Prop:=v'.ownBlock=v.ownBlock∨v'.ownBlock=some w.heap.size
theorem append_moved {P:Program} (w:World) (base:Nat) (t ty e:TypeId) (i:TypeInfo) (z:Value) (ht:P.underlying t=some (.slice e)) (hi:P.info? e=some i) (hz:i.zero=some z)
  (v:Value) (n:Nat) (xs:List Value) (hown:w.ownsRow base e i.size v n xs)
  (a:Addr) (m c:Nat) (news:List Value) (hl:news.length=m*i.size) (hnews:∀j u,news[j]? =some u→w.cell? (a.add j)=some u) (h1:∀u ∈ news,u.oneCell' =true)
  (hm:0<m) (h63:n+m≤maxLen) (hbytes:(n+m)*i.bytes≤140737488355328) {v' :Value} {w' :World}
  (hr:(Builtin.append_ #[t,t] ty #[v,.slice (some a) m c]).run P w=.ok v' w'):Moved w v v' :=by
 have hsmall:n+m≤9223372036854775807:=by simp only [maxLen] at h63;omega
 rcases hown.2 with ⟨rfl,rfl⟩|⟨g,cap,cur,rfl,hbg,hg,hnc,hcm,hcs,htake⟩
 ·have h:=run_append_nil (P:=P) w t ty e i z ht hi hz a m c news hl hnews hm (by omega) (by simp only [Nat.zero_add] at hbytes;omega)
  rw [h] at hr
  cases hr
  exact .inr rfl
 ·by_cases hroom:n+m≤cap
  ·have hfit:n*i.size+news.length≤cur.size:=by rw [hl,hcs, ←Nat.add_mul];exact Nat.mul_le_mul_right _ hroom
   have h:=run_append_room (P:=P) w t ty e i ht hi g n cap cur hg a m c news hl hnews h1 hroom hfit
   rw [h] at hr
   cases hr
   exact .inl rfl
  ·have holds:∀j u,xs[j]? =some u→w.cell? ((⟨g,0,none⟩:Addr).add j)=some u:=hown.cells (g:=g) rfl
   have h:=run_append_grow (P:=P) w t ty e i z ht hi hz ⟨g,0,none⟩ n cap xs hown.1 holds a m c news hl hnews (by omega) (by omega) (growslice_fits (by omega) hbytes)
   rw [h] at hr
   cases hr
   exact .inr rfl
theorem wp_append_moved {P:Program} {w:World} {o:Oper} {a:Act} {K:Act→World→Prop} {Q:Exit→Act→World→Prop} (s x:Operand) (t:TypeId)
  (ho:o.op=.call { callee:=.builtin .append,args:=#[s,x],argTypes:=#[t,t] })
  (base:Nat) (e:TypeId) (i:TypeInfo) (z:Value) (size bytes:Nat) (ht:P.underlying t=some (.slice e)) (hi:P.info? e=some i) (hz:i.zero=some z)
  (hsize:i.size=size) (hby:i.bytes=bytes) (hzs:z.cells.size=size) (hsz:0<size)
  (v:Value) (n:Nat) (xs:List Value) (hs:a.eval s=v) (hown:w.ownsRow base e size v n xs)
  (ad:Addr) (m c:Nat) (news:List Value) (hx:a.eval x=.slice (some ad) m c) (hl:news.length=m*size) (hnews:∀j u,news[j]? =some u→w.cell? (ad.add j)=some u) (h1:∀u ∈ news,u.oneCell' =true)
  (hm:0<m) (h63:n+m≤maxLen) (hbytes:(n+m)*bytes≤140737488355328) (hbase:base≤w.heap.size)
  (h:∀v' w',w'.ownsRow base e size v' (n+m) (xs++news)→w.grownBy w' v.ownBlock→Moved w v v' →K (a.put o.dst v') w'):o.wp P a w K Q:=by
 obtain ⟨v',w',hr,h2,h3,h4⟩:=run_append_own (P:=P) w base t o.type e i z size bytes ht hi hz hsize hby hzs hsz v n xs hown ad m c news hl hnews h1 h63 hbytes hbase
 have hmv:Moved w v v' :=by subst hsize;subst hby;exact append_moved w base t o.type e i z ht hi hz v n xs hown ad m c news hl hnews h1 hm h63 hbytes hr
 unfold Oper.wp execOp
 simp only [ho,resolve,invoke,builtin,Sem.run_bind,Sem.run_pure,Result.andThen_ok,List.map_toArray,List.map_cons,List.map_nil,hs,hx,hr]
 exact h v' w' h2 h3 hmv
theorem wpList_append_moved {P:Program} {w:World} {ops:Array Oper} {rest:List Oper} {o:Oper} {a:Act} {Q:Exit→Act→World→Prop} (hgd:o.guard=none) (s x:Operand) (t:TypeId)
  (ho:o.op=.call { callee:=.builtin .append,args:=#[s,x],argTypes:=#[t,t] })
  (base:Nat) (e:TypeId) (i:TypeInfo) (z:Value) (size bytes:Nat) (ht:P.underlying t=some (.slice e)) (hi:P.info? e=some i) (hz:i.zero=some z)
  (hsize:i.size=size) (hby:i.bytes=bytes) (hzs:z.cells.size=size) (hsz:0<size)
  (v:Value) (n:Nat) (xs:List Value) (hs:a.eval s=v) (hown:w.ownsRow base e size v n xs)
  (ad:Addr) (m c:Nat) (news:List Value) (hx:a.eval x=.slice (some ad) m c) (hl:news.length=m*size) (hnews:∀j u,news[j]? =some u→w.cell? (ad.add j)=some u) (h1:∀u ∈ news,u.oneCell' =true)
  (hm:0<m) (h63:n+m≤maxLen) (hbytes:(n+m)*bytes≤140737488355328) (hbase:base≤w.heap.size)
  (h:∀v' w',w'.ownsRow base e size v' (n+m) (xs++news)→w.grownBy w' v.ownBlock→Moved w v v' →wpList P ops Q rest (a.put o.dst v') w'):wpList P ops Q (o::rest) a w :=
 wpList_plain hgd fun _ hK=>wp_append_moved s x t ho base e i z size bytes ht hi hz hsize hby hzs hsz v n xs hs hown ad m c news hx hl hnews h1 hm h63 hbytes hbase fun v' w' h2 h3 h4=>hK _ _ (h v' w' h2 h3 h4)
def Apart (v u:Value):Prop:=u.ownBlock=none∨u.ownBlock≠v.ownBlock
theorem Apart.moved {w:World} {base size n:Nat} {e:TypeId} {xs:List Value} {v v' u:Value} (h:Apart v u) (hm:Moved w v v') (hu:w.ownsRow base e size u n xs):Apart v' u:=by
 rcases hm with hm|hm
 ·unfold Apart;rw [hm];exact h
 ·unfold Apart
  cases hb:u.ownBlock with
  | none=>exact .inl rfl
  | some g =>
   right
   rw [hm]
   intro e
   have:=(hu.lt g hb).2
   injection e with e
   omega
theorem Apart.symm {v u:Value} (h:Apart v u):Apart u v:=by
 unfold Apart at *
 rcases h with h|h
 ·cases hv:v.ownBlock with
  | none=>exact .inl rfl
  | some g=>right;rw [h];simp
 ·cases hv:v.ownBlock with
  | none=>exact .inl rfl
  | some g=>right;rw [←hv];exact fun e=>h e.symm
theorem own_cell {w:World} {B size b k n:Nat} {e:TypeId} {v u:Value} {xs:List Value} (h:w.ownsRow B e size v n xs) (hne:∀g,v.ownBlock=some g→b≠g):(w.setCell ⟨b,k,none⟩ u).ownsRow B e size v n xs:=by
 refine ⟨h.1,?_⟩
 rcases h.2 with h0|⟨g,cap,cur,rfl,h1,h2,h3⟩
 ·exact .inl h0
 ·have hn:b≠g:=hne g rfl
  exact .inr ⟨g,cap,cur,rfl,h1,by simp [World.setCell,Array.getElem?_modify,h2,hn],h3⟩
theorem own_new {w:World} {B size n:Nat} {e:TypeId} {v:Value} {xs:List Value} (h:w.ownsRow B e size v n xs):∀g,v.ownBlock=some g→w.heap.size≠g:=fun g hg=>by
 have:=(h.lt g hg).2;omega
theorem own_old {w:World} {B size n b:Nat} {e:TypeId} {v:Value} {xs:List Value} (h:w.ownsRow B e size v n xs) (hb:b<B):∀g,v.ownBlock=some g→b≠g:=fun g hg=>by
 have:=(h.lt g hg).1;omega
theorem grown_keep {w w' :World} {v:Value} {b:Nat} {o:Obj} (hg:w.grownBy w' v.ownBlock) (hb:w.heap[b]? =some o) (hne:∀g,v.ownBlock=some g→b≠g):w'.heap[b]? =some o:=by
 rw [hg.block b (Array.getElem?_eq_some_iff.1 hb).1 (fun e=>hne b e.symm rfl)]
 exact hb
theorem own_base {w:World} {B B' size n:Nat} {e:TypeId} {v:Value} {xs:List Value} (h:w.ownsRow B e size v n xs) (hb:B' ≤B):w.ownsRow B' e size v n xs:=by
 refine ⟨h.1,?_⟩
 rcases h.2 with h0|⟨g,cap,cur,e1,h1,h2⟩
 ·exact .inl h0
 ·exact .inr ⟨g,cap,cur,e1,Nat.le_trans hb h1,h2⟩
theorem moved_apart {w:World} {v v' :Value} {b:Nat} (hm:Moved w v v') (hne:∀g,v.ownBlock=some g→b≠g) (hb:b<w.heap.size):∀g,v'.ownBlock=some g→b≠g:=by
 intro g hg
 rcases hm with hm|hm
 ·exact hne g (hm ▸ hg)
 ·rw [hm] at hg
  cases hg
  omega
end Go.Proofs.YtabfjecegpaoaaaGreatDoor
namespace Go.Proofs.YtabfjecegpaoaaaGreatDoor
open Go Go.RowKit Go.Shelf
open Dgt
theorem cel_raw (l:List Rt):cel l=cells3 (l.map rawR):=by
 unfold cel cells3;rw [List.flatMap_map];rfl
theorem own_block {w:World} {B n:Nat} {e:TypeId} {v:Value} {l:List Rt} (h:w.ownsRow B e 3 v n (cells3 (l.map rawR))) (hl:l.length=n) (hn:0<n) :
  ∃g cap rest,v=.slice (some ⟨g,0,none⟩) n cap∧B≤g∧w.heap[g]? =some (.cells (cel l++rest).toArray e (0,0))∧n≤cap:=by
 rcases h.2 with ⟨-,h0⟩|⟨g,cap,cur,rfl,h1,h2,h3,h4,h5,h6⟩
 ·omega
 ·refine ⟨g,cap,cur.toList.drop (n*3),rfl,h1,?_,h3⟩;rw [h2]
  congr 1
  congr 1
  rw [cel_raw, ←h6,List.take_append_drop]
theorem celx_cells {W:World} {b:Nat} {t:TypeId} {l:List Rt} {r:List Value} (h:W.heap[b]? =some (.cells (cel l++r).toArray t (0,0))) {i:Nat} {a:Rt} (ha:l[i]? =some a) :
  W.cell? ⟨b,i*3,none⟩=some (.bool a.neg)∧W.cell? ⟨b,i*3+1,none⟩=some (.string (encS a.num))∧W.cell? ⟨b,i*3+2,none⟩=some (.string (encS a.den)):=by
 obtain ⟨h1,h2,h3⟩:=cel_at l ha;have hi:i<l.length:=(List.getElem?_eq_some_iff.1 ha).1;have hc:=cel_len l;refine ⟨?_,?_,?_⟩<;>(rw [Lib.cell_of_heap h];rw [List.getElem?_toArray,List.getElem?_append_left (by omega)];assumption)
theorem celx_store {W:World} {b:Nat} {t:TypeId} {l:List Rt} {r:List Value} (h:W.heap[b]? =some (.cells (cel l++r).toArray t (0,0))) {i:Nat} (a:Rt) (hi:i<l.length) :
  (((W.setCell ⟨b,i*3,none⟩ (.bool a.neg)).setCell ⟨b,i*3+1,none⟩ (.string (encS a.num))).setCell ⟨b,i*3+2,none⟩ (.string (encS a.den))).heap[b]? =some (.cells (cel (l.set i a)++r).toArray t (0,0)):=by
 have hc:=cel_len l;rw [←cel_set l a hi];have e:∀(x:List Value) (j:Nat) (v:Value),j<x.length→x.set j v++r=(x++r).set j v:=fun x j v hj=>by rw [List.set_append_left _ _ hj]
 rw [e _ _ _ (by simp;omega),e _ _ _ (by simp;omega),e _ _ _ (by omega)];simp [World.setCell,Array.getElem?_modify,h]
theorem own_succ {w:World} {B k:Nat} {e:TypeId} {v:Value} {F:Nat→Rt} {a:Rt} (h:w.ownsRow B e 3 v (k+1) (cells3 ((lsf F k).map rawR)++[.bool a.neg,.string (encS a.num),.string (encS a.den)])) (ha:F k=a) :
  w.ownsRow B e 3 v (k+1) (cells3 ((lsf F (k+1)).map rawR)):=by
 have e:lsf F (k+1)=lsf F k++[a]:=by unfold lsf;rw [List.range_succ,List.map_append, ←ha];rfl
 rw [e,List.map_append,cells3_append];exact h
def boo (f:Nat→Bool) (n:Nat):List Value:=(List.range n).map fun i=>.bool (f i)
theorem boo_cell {W:World} {b:Nat} {t:TypeId} {f:Nat→Bool} {n i:Nat} (h:W.heap[b]? =some (.cells (boo f n).toArray t (0,0))) (hi:i<n):W.cell? ⟨b,i,none⟩=some (.bool (f i)):=by
 rw [Lib.cell_of_heap h,List.getElem?_toArray];simp [boo,hi]
theorem boo_store {W:World} {b:Nat} {t:TypeId} {f g:Nat→Bool} {n k:Nat} (h:W.heap[b]? =some (.cells (boo f n).toArray t (0,0))) (hk:g k=true) (hg:∀i,i≠k→g i=f i) :
  (W.setCell ⟨b,k,none⟩ (.bool true)).heap[b]? =some (.cells (boo g n).toArray t (0,0)):=by
 have e:(boo f n).set k (.bool true)=boo g n:=by
  refine List.ext_getElem? fun j=> ?_
  rw [List.getElem?_set]
  by_cases hj:k=j
  ·subst hj
   by_cases hn:k<n
   ·simp [boo,hn,hk]
   ·simp [boo,hn]
  ·rw [if_neg hj]
   by_cases hn:j<n
   ·simp [boo,hn,hg j (Ne.symm hj)]
   ·simp [boo,hn]
 rw [←e];simp [World.setCell,Array.getElem?_modify,h]
theorem boo_false (n:Nat):boo (fun _=>false) n=List.replicate n (.bool false):=by simp [boo,List.map_const']
theorem infoBool:(Tryz.prog.info? 4).map (fun i=>(i.zero,i.size,i.bytes))=some (some (.bool false),1,1):=by kernel_rfl
theorem made_bools (n:Nat):madeCells #[.bool false] (n*1)=(boo (fun _=>false) n).toArray:=by
 rw [boo_false];have h:=made_rep [.bool false] (by decide) n;have e:∀m:Nat,(List.replicate m [Value.bool false]).flatten=List.replicate m (.bool false):=fun m=>by
  induction m with
  | zero=>rfl
  | succ m ih=>rw [List.replicate_succ,List.flatten_cons,ih,List.replicate_succ];rfl
 rw [e] at h;exact h
theorem mk_bools (n:Nat) (hn:n≤20) (W:World):(Instr.makeSlice 74 (.int .i64 (n:Int)) (.int .i64 (n:Int))).run Tryz.prog W =
  .ok (.slice (some ⟨W.heap.size,0,none⟩) n n) (W.alloc (.cells (boo (fun _=>false) n).toArray 4)):=by
 obtain ⟨i,hi,hzz⟩:=Option.map_eq_some_iff.1 infoBool;simp only [Prod.mk.injEq] at hzz;obtain ⟨hz,hs,hb⟩:=hzz;have hr:=run_make (P:=Tryz.prog) W 74 4 i _ Tryz.underlying74 hi hz .i64 .i64 n n (by omega) (Int.le_refl _) (by rw [hb];omega) (by omega);simp only [Int.toNat_natCast,hs] at hr;rw [hr, ←made_bools n];rfl
def Best (ov:Nat→Rat) (pre:List Nat) (k:Nat):Option Nat→Prop
 | none=>∀i,i<k→i ∈ pre
 | some b=>b<k∧b ∉ pre∧∀i,i<k→i ∉ pre→¬ahead ov i b
theorem best_zero (ov:Nat→Rat) (pre:List Nat):Best ov pre 0 none:=fun i hi=>absurd hi (by omega)
theorem best_taken {ov:Nat→Rat} {pre:List Nat} {k:Nat} {o:Option Nat} (h:Best ov pre k o) (hk:k ∈ pre):Best ov pre (k+1) o:=by
 cases o with
 | none=>exact fun i hi=>by rcases Nat.lt_succ_iff_lt_or_eq.1 hi with h1|rfl;exact h i h1;exact hk
 | some b =>
  refine ⟨Nat.lt_succ_of_lt h.1,h.2.1,fun i hi hn=> ?_⟩;rcases Nat.lt_succ_iff_lt_or_eq.1 hi with h1|rfl
  ·exact h.2.2 i h1 hn
  ·exact absurd hk hn
theorem best_first {ov:Nat→Rat} {pre:List Nat} {k:Nat} (h:Best ov pre k none) (hk:k ∉ pre):Best ov pre (k+1) (some k):=by
 refine ⟨Nat.lt_succ_self k,hk,fun i hi hn=> ?_⟩;rcases Nat.lt_succ_iff_lt_or_eq.1 hi with h1|rfl
 ·exact absurd (h i h1) hn
 ·exact fun ha=>by rcases ha with ha|ha;exact absurd ha Rat.lt_irrefl;omega
theorem best_more {ov:Nat→Rat} {pre:List Nat} {k b:Nat} (h:Best ov pre k (some b)) (hk:k ∉ pre) (hc:ov b<ov k):Best ov pre (k+1) (some k):=by
 refine ⟨Nat.lt_succ_self k,hk,fun i hi hn=> ?_⟩;rcases Nat.lt_succ_iff_lt_or_eq.1 hi with h1|rfl
 ·have h2:=h.2.2 i h1 hn;intro ha;have h3:¬ov b<ov i:=fun e=>h2 (.inl e)
  rcases ha with ha|ha
  ·grind
  ·grind
 ·exact fun ha=>by rcases ha with ha|ha;exact absurd ha Rat.lt_irrefl;omega
theorem best_less {ov:Nat→Rat} {pre:List Nat} {k b:Nat} (h:Best ov pre k (some b)) (hc:¬ov b<ov k):Best ov pre (k+1) (some b):=by
 refine ⟨Nat.lt_succ_of_lt h.1,h.2.1,fun i hi hn=> ?_⟩;rcases Nat.lt_succ_iff_lt_or_eq.1 hi with h1|rfl
 ·exact h.2.2 i h1 hn
 ·intro ha;rcases ha with ha|ha
  ·exact hc ha
  ·have:=h.1;omega
theorem best_next {ov:Nat→Rat} {n j:Nat} {s:List Nat} (h:Ordd ov n s) (hj:j<n) {o:Option Nat} (hb:Best ov (s.take j) n o):∃b,o=some b∧b<n∧∃h2:j<s.length,s[j]=b:=by
 have hl:=h.len;cases o with
 | none =>
  have h1:=h.not_take (j:=j) (by omega);have h2:s[j]'(by omega)<n:=h.mem.1 (List.getElem_mem _);exact absurd (hb _ h2) h1
 | some b=>exact ⟨b,rfl,hb.1,by omega,h.best (by omega) hb.1 hb.2.1 hb.2.2⟩
def numAt (w:World) (b:Nat):Nat:=match w.cell? ⟨b,1,none⟩ with
 | some (.string s)=>numS s
 | _=>0
theorem numAt_row {w:World} {b:Nat} {a:Rt} {t:TypeId} (h:w.heap[b]? =some (.cells #[.bool a.neg,.string (encS a.num),.string (encS a.den)] t (0,0))):numAt w b=a.num:=by
 unfold numAt;rw [show w.cell? ⟨b,1,none⟩=some (.string (encS a.num)) from by rw [Lib.cell_of_heap h];rfl];exact numS_encS _
def besI:Option Nat→Int
 | none=> -1
 | some b=>(b:Int)
def f4 (c:Int) (ws:List Rt) (s:List Nat) (k i:Nat):Rt:=if i<k then ofC (sgZ c (xZ c ws s i)) else ofR (xZ c ws s i)
theorem f4_at (c:Int) (ws:List Rt) (s:List Nat) (k:Nat):f4 c ws s k k=ofR (xZ c ws s k):=by unfold f4;rw [if_neg (Nat.lt_irrefl k)]
theorem f4_succ (c:Int) (ws:List Rt) (s:List Nat) (k:Nat):upd (f4 c ws s k) k (ofC (sgZ c (xZ c ws s k)))=f4 c ws s (k+1):=by
 funext i
 unfold upd f4
 by_cases h:i=k
 ·subst h;rw [if_pos rfl,if_pos (Nat.lt_succ_self i)]
 ·rw [if_neg h]
  by_cases h2:i<k
  ·rw [if_pos h2,if_pos (by omega)]
  ·rw [if_neg h2,if_neg (by omega)]
theorem f4_zero (c:Int) (ws:List Rt) (s:List Nat) (n:Nat):lsf (bQ c ws (s.take (lefZ c ws).toNat)) n=lsf (f4 c ws s 0) n:=lsf_congr fun i _=>by unfold f4;rw [if_neg (by omega)];rfl
theorem f4_end (c:Int) (ws:List Rt) (s:List Nat):lsf (f4 c ws s ws.length) ws.length=partsT c ws s:=by
 unfold partsT lsf;refine List.map_congr_left fun k hk=> ?_
 unfold f4;rw [if_pos (List.mem_range.1 hk)]
theorem lst_block {W:World} {g cap:Nat} {l:List Rt} {r:List Value} {t:TypeId} (h:W.heap[g]? =some (.cells (cel l++r).toArray t (0,0))) (hl:l.length≤1000):LstR W (.slice (some ⟨g,0,none⟩) l.length cap) (l.map rawR):=by
 refine .inr ⟨g,0,cap,by rw [List.length_map],(Array.getElem?_eq_some_iff.1 h).1,by rw [List.length_map];exact hl,fun i hi=> ?_⟩;rw [List.length_map] at hi;have hc:=celx_cells h (List.getElem?_eq_getElem hi);rw [List.getElem_map,Nat.zero_add];exact hc
theorem guard_skip_u {P:Program} {ops:Array Oper} {Q:Exit→Act→World→Prop} {i:Nat} {o:Oper} {K:Act→World→Prop} {a:Act} {w:World} {g d:Nat} {b:Bool} (ho:ops[i]? =some o) (hg:o.guard=some (g,b)) (hd:dstOf ops g=some d)
  (ht:a.tmps.getD d undef=undef) (h:K (a.put o.dst undef) w):wpOp P ops Q i K a w:=by
 unfold wpOp;rw [ho];have hw:¬Region.wanted o (yielded ops a.tmps)=true:=by
  have hd' :((ops[g]?).bind (·.dst))=some d:=hd;have hy:yielded ops a.tmps g=none:=by
   unfold yielded;rw [hd'];rw [Array.getD_eq_getD_getElem?] at ht;cases e:a.tmps[d]? with
   | none=>simp [e]
   | some v =>
    rw [e] at ht;simp at ht;subst ht;simp [e,undef]
  simp [Region.wanted,hg,hy]
 show if Region.wanted o (yielded ops a.tmps)=true then _ else _
 rw [if_neg hw];exact h
theorem take_next {s:List Nat} {j:Nat} (hj:j<s.length):s.take (j+1)=s.take j++[s[j]]:=List.take_succ_eq_append_getElem hj
end Go.Proofs.YtabfjecegpaoaaaGreatDoor
