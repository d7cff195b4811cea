/- Contracts that the proofs of this seat share. Each theorem names its conditions. -/

import Derived.Test.YtblgfmjlajhipaaGreatDoorZd1
import Derived.Test.YtblgfmjlajhipaaGreatDoorZb5
import Derived.Test.YtblgfmjlajhipaaGreatDoorZb4
import Derived.Test.YtblgfmjlajhipaaGreatDoorZb7
set_option maxHeartbeats 16000000
set_option linter.unusedVariables false
namespace Go.Proofs.YtblgfmjlajhipaaGreatDoor
open Go.RowKit Go.Shelf
open Dgt
theorem own_slice {w:World} {B size n:Nat} {e:TypeId} {v:Value} {xs:List Value} (h:w.ownsRow B e size v n xs):∃p c,v=.slice p n c:=by
 rcases h.2 with ⟨rfl,rfl⟩|⟨g,cap,cur,rfl,-⟩
 ·exact ⟨_,_,rfl⟩
 ·exact ⟨_,_,rfl⟩
def sclK (fs:List Int) (rs:List Rt) (k:Nat):List BT:=(List.range k).map fun j=>(fracT (fs.getD j 0) 1,rs.getD j zeroR)
theorem sclK_s (fs:List Int) (rs:List Rt) (k:Nat):sclK fs rs (k+1)=sclK fs rs k++[(fracT (fs.getD k 0) 1,rs.getD k zeroR)]:=by unfold sclK;rw [List.range_succ,List.map_append];rfl
def Escale_own_5_1 (gf:Nat) (gr:Nat) (k:Nat) (q:Int) (x:Rt) (y:Rt) (p0:Option Addr) (c0:Nat) (fs:List Int) (bk5:Nat) (ws:Nat):Nat→Value
 | 0=>.pointer (some ⟨bk5,3,none⟩)
 | 1=>.slice p0 k c0
 | 2=>.slice (some ⟨gf,0,none⟩) fs.length fs.length
 | 3=>.int .i64 (k:Int)
 | 4=>.pointer (some ⟨gf,k,none⟩)
 | 5=>.int .i64 q
 | 6=>.agg #[.bool y.neg,.string (encS y.num),.string (encS y.den)]
 | 7=>.slice (some ⟨gr,0,none⟩) fs.length fs.length
 | 8=>.int .i64 (k:Int)
 | 9=>.pointer (some ⟨gr,k*3,none⟩)
 | 10=>.agg #[.bool x.neg,.string (encS x.num),.string (encS x.den)]
 | 11=>.agg #[.bool y.neg,.string (encS y.num),.string (encS y.den),.bool x.neg,.string (encS x.num),.string (encS x.den)]
 | _=>undef
def Sscale_own_5_1 (gf:Nat) (gr:Nat) (k:Nat) (q:Int) (x:Rt) (y:Rt) (p0:Option Addr) (c0:Nat) (fs:List Int) (bk5:Nat) (ws:Nat) (ix:Nat) (v:Value) (w:World):Prop :=
 match ix with
 | 12=>∃g,v=.slice (some ⟨g,0,none⟩) 1 1∧ws≤g∧w.heap[g]? =some (.cells #[.bool y.neg,.string (encS y.num),.string (encS y.den),.bool x.neg,.string (encS x.num),.string (encS x.den)] 42 (0,0))
 | ix=>v=Escale_own_5_1 gf gr k q x y p0 c0 fs bk5 ws ix
theorem Sscale_own_5_1_up (gf:Nat) (gr:Nat) (k:Nat) (q:Int) (x:Rt) (y:Rt) (p0:Option Addr) (c0:Nat) (fs:List Int) (bk5:Nat) (ws:Nat) (ix:Nat) (v:Value) (w w' :World) (hb:Below w.heap.size w w') (h:Sscale_own_5_1 gf gr k q x y p0 c0 fs bk5 ws ix v w):Sscale_own_5_1 gf gr k q x y p0 c0 fs bk5 ws ix v w' :=by
 unfold Sscale_own_5_1 at h ⊢
 split at h
 ·exact by obtain ⟨g,e1,e2,e3⟩:=h;exact ⟨g,e1,e2,hpU hb e3⟩
 ·exact h
set_option maxRecDepth 100000 in
theorem scale_own (gf gr:Nat) (fs:List Int) (rs:List Rt) (hn:fs.length≤100) (he:rs.length=fs.length) (hr:∀f ∈ fs,-1000≤f∧f≤1000) (wq:World) (hf:∀k (h:k<fs.length) W,Below wq.heap.size wq W→W.cell? ⟨gf,k,none⟩=some (.int .i64 fs[k])) (hg:∀k (h:k<rs.length) W,Below wq.heap.size wq W→W.cell? ⟨gr,k*3,none⟩=some (.bool rs[k].neg)∧W.cell? ⟨gr,k*3+1,none⟩=some (.string (encS rs[k].num))∧W.cell? ⟨gr,k*3+2,none⟩=some (.string (encS rs[k].den))) :
  Calls Tryz.prog 40 #[.slice (some ⟨gf,0,none⟩) fs.length fs.length,.slice (some ⟨gr,0,none⟩) fs.length fs.length] wq fun e w' =>∃v',e=.returned (.agg #[.string ⟨#[]⟩,.int .i64 0,.int .i64 0,v'])∧w'.ownsRow wq.heap.size 42 6 v' fs.length (cells6 ((sclK fs rs fs.length).map rawB))∧Below wq.heap.size wq w' :=by
 have HF:=hD hf;have HG:=hD hg;have HN:=hD (And.intro hn he);have HR:=hD hr;clear hf hg hn he hr;have HB:=hD (Below.refl wq.heap.size wq);obtain ⟨n0,hn0⟩:∃n,n=wq.heap.size:=⟨_,rfl⟩;rw [←hn0];have HN0:=hD hn0;clear hn0;go_enter Tryz.func40,Tryz.ntmps40;obtain ⟨W1,bk4,hW1,hbk4,HX4_1,HB,HG4_1,hup⟩:=boxn HB HN0 (.cells #[.string ⟨#[]⟩,.int .i64 0,.int .i64 0,.slice none 0 0] 26);clear hup;obtain ⟨W2,bk5,hW2,hbk5,HX5_2,HB,HG5_2,hup⟩:=boxn HB HN0 (.cells #[.string ⟨#[]⟩,.int .i64 0,.int .i64 0,.slice none 0 0] 26);have HL5_2:=(hup _ _ HX4_1).2;have HX4_1:=(hup _ _ HX4_1).1;clear hup;have HLB5:Hid (bk5<bk5+1):=hD (Nat.lt_succ_self _);have HLB4:Hid (bk4<bk5+1):=hD (by have:=HL5_2.out;omega);have HO:Hid (W2.ownsRow (bk5+1) 42 6 (.slice none 0 0) 0 (cells6 ((sclK fs rs 0).map rawB))):=hD own_new_row;go_wp2_with fail;clear hW1 hbk4 hW2 hbk5
 go_loopw [6] (fun u6 wr=>∃(k:Nat) (vv:Value),k≤fs.length∧u6=.int .i64 (k:Int)∧Hid (wr.ownsRow (bk5+1) 42 6 vv k (cells6 ((sclK fs rs k).map rawB)))∧Hid (wr.heap[bk4]? =some (.cells #[.string ⟨#[]⟩,.int .i64 0,.int .i64 0,.slice none 0 0] 26 (0,0)))∧Hid (wr.heap[bk5]? =some (.cells #[.string ⟨#[]⟩,.int .i64 0,.int .i64 0,vv] 26 (0,0)))∧Hid (Below wq.heap.size wq wr)) (fun u6 _=>fs.length-(intOf u6).toNat)
 case atStart=>exact ⟨0,(.slice none 0 0),by omega,by first|rfl|go_num,HO,HX4_1,HX5_2,HB⟩
 case round =>
  obtain ⟨k,vv,hk,rfl,HO3,HX4_1,HX5_2,HB⟩:=hrel
  by_cases hlt:k<fs.length
  ·have hlt' :(k:Int)<(fs.length:Int):=by omega
   obtain ⟨p0,c0,rfl⟩:=own_slice HO3.out;have hkr:k<rs.length:=by have:=HN.out.2;omega
   have hq:=HF.out k hlt;have hx:=HG.out k hkr;have hrg:=HR.out _ (List.getElem_mem hlt);have HSK:=hD (sclK_s fs rs k);rw [List.getD_eq_getElem?_getD,List.getElem?_eq_getElem hlt,List.getD_eq_getElem?_getD,List.getElem?_eq_getElem hkr] at HSK;simp only [Option.getD_some] at HSK;obtain ⟨q,hq1⟩:∃q,fs[k]'hlt=q:=⟨_,rfl⟩;rw [hq1] at hrg HSK;simp only [hq1] at hq;obtain ⟨x,hx1⟩:∃x,rs[k]'hkr=x:=⟨_,rfl⟩;rw [hx1] at HSK;simp only [hx1] at hx;have c1:=fun w=>rat_any q 1 (by omega) (by decide) (by decide) w
   obtain ⟨y,hy⟩:∃y,fracT q 1=y:=⟨_,rfl⟩;rw [hy] at c1 HSK;have HQ:=hD hq;have HX:=hD hx;have HLT:=hD hlt;obtain ⟨n,hnn⟩:∃n,fs.length=n:=⟨_,rfl⟩;have HWI:Hid (IntKind.i64.wrap ((k:Int)+1)=((k+1:Nat):Int)):=hD (by rw [IntWalk.i64_in _ (by have:=HLT.out;have:=HN.out;omega)];omega);clear hnn;have C1:Hid (∀w,Gv 20 #[.int .i64 q,.int .i64 1] w (.agg #[.bool y.neg,.string (encS y.num),.string (encS y.den)])):=hD c1;clear c1 hy hx1 hq1 hrg hq hx hkr hlt hk;have HO5:=HO3;clear HO3;have HR5_bk4:=hD (own_old HO5.out HLB4.out);have HR5_4_1:=HR5_bk4;have HR5_bk5:=hD (own_old HO5.out HLB5.out);have HR5_5_2:=HR5_bk5;go_wp2_with fail;clear hlt'
   refine wpTl (w:=wr) (by kernel_rfl) (Sscale_own_5_1 gf gr k q x y p0 c0 fs bk5 wr.heap.size) 13 (fun t=>(decide (13≤t)&&decide (t<26))) (by decide) (by kernel_rfl) (by kernel_rfl) (by kernel_rfl) (by kernel_rfl) (by kernel_rfl) (Sscale_own_5_1_up gf gr k q x y p0 c0 fs bk5 wr.heap.size) ?_ ?_
   ·intro i hi ov_ listed av_ w hR K hK;have ho:=hR.at_;have hi:i<13:=hi;have hii:i=0∨i=1∨i=2∨i=3∨i=4∨i=5∨i=6∨i=7∨i=8∨i=9∨i=10∨i=11∨i=12:=by omega
    rcases hii with rfl|rfl|rfl|rfl|rfl|rfl|rfl|rfl|rfl|rfl|rfl|rfl|rfl<;>(simp at ho;subst ho)
    ·have b5:av_.tmps.getD 5 undef=.pointer (some ⟨bk5,0,none⟩):=hR.b 5;refine pSq ?_;go_simp;exact hK _ _ rfl rB
    ·have e0:av_.tmps.getD 13 undef=.pointer (some ⟨bk5,3,none⟩):=hR.t 0;have cx0:w.cell? ⟨bk5,3,none⟩=some (.slice p0 k c0):=by rw [Lib.cell_of_heap (hpU hR.below HX5_2.out)];rfl
     refine pSq ?_;go_simp;exact hK _ _ rfl rB
    ·have b0:av_.tmps.getD 0 undef=.slice (some ⟨gf,0,none⟩) fs.length fs.length:=hR.b 0;refine pSq ?_;go_simp;exact hK _ _ rfl rB
    ·have b6:av_.tmps.getD 6 undef=.int .i64 (k:Int):=hR.b 6;refine pSq ?_;go_simp;exact hK _ _ rfl rB
    ·have e2:av_.tmps.getD 15 undef=.slice (some ⟨gf,0,none⟩) fs.length fs.length:=hR.t 2;have e3:av_.tmps.getD 16 undef=.int .i64 (k:Int):=hR.t 3;have hk3:(k:Int)<(fs.length:Int):=by have:=HLT.out;omega
     refine pSq ?_;go_simp;exact hK _ _ rfl rB
    ·have e4:av_.tmps.getD 17 undef=.pointer (some ⟨gf,k,none⟩):=hR.t 4;have cx0:=HQ.out _ (HB.out.trans (hR.below.mono HB.out.size));refine pSq ?_;go_simp;exact hK _ _ rfl rB
    ·have e5:av_.tmps.getD 18 undef=.int .i64 q:=hR.t 5;refine pSq ?_;go_simp;refine (C1.out w).mono ?_;rintro e w' ⟨rfl,hb⟩;exact hK _ _ (rfl) hb
    ·have b1:av_.tmps.getD 1 undef=.slice (some ⟨gr,0,none⟩) fs.length fs.length:=hR.b 1;refine pSq ?_;go_simp;exact hK _ _ rfl rB
    ·have b6:av_.tmps.getD 6 undef=.int .i64 (k:Int):=hR.b 6;refine pSq ?_;go_simp;exact hK _ _ rfl rB
    ·have e7:av_.tmps.getD 20 undef=.slice (some ⟨gr,0,none⟩) fs.length fs.length:=hR.t 7;have e8:av_.tmps.getD 21 undef=.int .i64 (k:Int):=hR.t 8;have hk3:(k:Int)<(fs.length:Int):=by have:=HLT.out;omega
     refine pSq ?_;go_simp;exact hK _ _ rfl rB
    ·have e9:av_.tmps.getD 22 undef=.pointer (some ⟨gr,k*3,none⟩):=hR.t 9;obtain ⟨cx0,cx1,cx2⟩:=HX.out _ (HB.out.trans (hR.below.mono HB.out.size));refine pSq ?_;go_simp;exact hK _ _ rfl rB
    ·have e6:av_.tmps.getD 19 undef=.agg #[.bool y.neg,.string (encS y.num),.string (encS y.den)]:=hR.t 6;have e10:av_.tmps.getD 23 undef=.agg #[.bool x.neg,.string (encS x.num),.string (encS x.den)]:=hR.t 10;have g6:=e6;rw [Array.getD_eq_getD_getElem?] at g6;have g10:=e10;rw [Array.getD_eq_getD_getElem?] at g10;refine pSq ?_;go_simp;exact hK _ _ rfl rB
    ·have e11:av_.tmps.getD 24 undef=.agg #[.bool y.neg,.string (encS y.num),.string (encS y.den),.bool x.neg,.string (encS x.num),.string (encS x.den)]:=hR.t 11;have g11:=e11;rw [Array.getD_eq_getD_getElem?] at g11;refine pSq ?_;go_simp;exact hK _ _ (⟨_,rfl,hR.below.size,heap_alloc_new _ _⟩) (rB.alloc (Nat.le_refl _) _)
   ·intro sv_ w hS hb;have e1:sv_ 14=.slice p0 k c0:=hS 1 (by decide);have e12:=hS 12 (by decide);simp only [over,ovL,Nat.reduceAdd,Nat.reduceLeDiff,Nat.reduceLT];obtain ⟨bk25,e12b,hg,hN⟩:∃g,sv_ 25=.slice (some ⟨g,0,none⟩) 1 1∧wr.heap.size≤g∧w.heap[g]? =some (.cells #[.bool y.neg,.string (encS y.num),.string (encS y.den),.bool x.neg,.string (encS x.num),.string (encS x.den)] 42 (0,0)):=e12;have HG25_3:Hid (n0≤bk25):=hD (by rw [HN0.out];exact Nat.le_trans HB.out.size hg);have HL25_3:=hD (Nat.lt_of_lt_of_le (Array.getElem?_eq_some_iff.1 HX5_2.out).1 hg);have HX25_3:=hD hN;clear hN hg
    try clear e12
    have e12:=e12b;clear e12b;have HX4_1:=uH hb HX4_1;have HX5_2:=uH hb HX5_2;have HO5:=hD (own_up HO5.out hb);have HB:=mH HB hb;obtain ⟨w3,hw⟩:∃w8,w8=w:=⟨_,rfl⟩;subst hw;rw [e1,e12];clear hS hb e1 e12;obtain ⟨v4,w4,hrun4,hO,hkp,hbl⟩:=app_bk HO5.out HX25_3.out (one6 _ _ _ _ _ _) (.inl (by have:=(Array.getElem?_eq_some_iff.1 HX5_2.out).1;omega)) (by have:=HLT.out;have:=HN.out;omega);have HX4_1:=hkp _ _ HLB4 HX4_1;have HX5_2:=hkp _ _ HLB5 HX5_2;have HB:=hbl _ _ (by have:=HG5_2.out;have:=HN0.out;omega) HB;have HO5:=hD hO;clear hO hkp hbl;obtain ⟨p1,c1,hv1⟩:=own_slice HO5.out;subst hv1;have HR5_bk4:=hD (own_old HO5.out HLB4.out);have HR5_bk5:=hD (own_old HO5.out HLB5.out);refine tail_step (n:=2) rfl rfl ?_;refine wp_append_run (.tmp 14) (.tmp 25) 24 rfl _ _ _ _ rfl rfl hrun4 ?_;go_simp;refine tail_step (n:=1) rfl rfl ?_;go_simp;clear hrun4
    have f5:w4.frozen? ⟨bk5,3,none⟩=false:=frz0 HX5_2.out 3;have k6:w4.cell? ⟨bk5,3,none⟩=some (.slice p0 k c0):=by rw [Lib.cell_of_heap HX5_2.out];rfl
    have hB:=(HB.out.setCell (p:=⟨bk5,3,none⟩) (by rw [←HN0.out];exact HG5_2.out) (.slice p1 (k+1) c1));have hN:(w4.setCell ⟨bk5,3,none⟩ (.slice p1 (k+1) c1)).heap[bk5]? =some (.cells #[.string ⟨#[]⟩,.int .i64 0,.int .i64 0,.slice p1 (k+1) c1] 26 (0,0)):=by simp [World.setCell,Array.getElem?_modify,HX5_2.out]
    have hx4_1:(w4.setCell ⟨bk5,3,none⟩ (.slice p1 (k+1) c1)).heap[bk4]? =_:=(row_else HX4_1.out (en1 HL5_2) _);have HX4_1:=hD hx4_1;clear hx4_1;have ho5:(w4.setCell ⟨bk5,3,none⟩ (.slice p1 (k+1) c1)).ownsRow (bk5+1) 42 6 (.slice p1 (k+1) c1) (k+1) (cells6 ((sclK fs rs k).map rawB)++[.bool y.neg,.string (encS y.num),.string (encS y.den),.bool x.neg,.string (encS x.num),.string (encS x.den)]):=(own_cell HO5.out HR5_bk5.out);have HO5:=hD ho5;clear ho5;obtain ⟨W5,hW5⟩:∃W,(w4.setCell ⟨bk5,3,none⟩ (.slice p1 (k+1) c1))=W:=⟨_,rfl⟩;rw [hW5] at hN hB HX4_1 HO5;have HX5_2:=hD hN;have HB:=hD hB;clear hN hB;refine tail_step (n:=0) rfl rfl ?_;go_simp
    try rw [hW5]
    clear f5 k6 hW5;simp only [wpTail];have hwi:=HWI.out;go_wp2_with fail;clear hwi
    go_roundw
    case rel=>exact ⟨k+1,(.slice p1 (k+1) c1),by have:=HLT.out;omega,by first|rfl|go_num,hD (by rw [HSK.out,List.map_append,List.map_singleton,cells6_snoc];exact HO5.out),HX4_1,HX5_2,HB⟩
    case measure=>have:=HLT.out;simp [intOf];omega
  ·have hge:¬(k:Int)<(fs.length:Int):=by omega
   obtain ⟨p0,c0,rfl⟩:=own_slice HO3.out;have HR3_bk4:=hD (own_old HO3.out HLB4.out);have HKN:Hid (k=fs.length):=hD (by omega);have k7:wr.cell? ⟨bk5,0,none⟩=some (.string ⟨#[]⟩):=by rw [Lib.cell_of_heap HX5_2.out];rfl
   have k8:wr.cell? ⟨bk5,1,none⟩=some (.int .i64 0):=by rw [Lib.cell_of_heap HX5_2.out];rfl
   have k9:wr.cell? ⟨bk5,2,none⟩=some (.int .i64 0):=by rw [Lib.cell_of_heap HX5_2.out];rfl
   have k10:wr.cell? ⟨bk5,3,none⟩=some (.slice p0 k c0):=by rw [Lib.cell_of_heap HX5_2.out];rfl
   have f11:wr.frozen? ⟨bk4,0,none⟩=false:=frz0 HX4_1.out 0;have f12:wr.frozen? ⟨bk4,1,none⟩=false:=frz0 HX4_1.out 1;have f13:wr.frozen? ⟨bk4,2,none⟩=false:=frz0 HX4_1.out 2;have f14:wr.frozen? ⟨bk4,3,none⟩=false:=frz0 HX4_1.out 3;have k15:wr.cell? ⟨bk4,0,none⟩=some (.string ⟨#[]⟩):=by rw [Lib.cell_of_heap HX4_1.out];rfl
   have k16:wr.cell? ⟨bk4,1,none⟩=some (.int .i64 0):=by rw [Lib.cell_of_heap HX4_1.out];rfl
   have k17:wr.cell? ⟨bk4,2,none⟩=some (.int .i64 0):=by rw [Lib.cell_of_heap HX4_1.out];rfl
   have k18:wr.cell? ⟨bk4,3,none⟩=some (.slice none 0 0):=by rw [Lib.cell_of_heap HX4_1.out];rfl
   have hB:=((((HB.out.setCell (p:=⟨bk4,0,none⟩) (by rw [←HN0.out];exact HG4_1.out) (.string ⟨#[]⟩)).setCell (p:=⟨bk4,1,none⟩) (by rw [←HN0.out];exact HG4_1.out) (.int .i64 0)).setCell (p:=⟨bk4,2,none⟩) (by rw [←HN0.out];exact HG4_1.out) (.int .i64 0)).setCell (p:=⟨bk4,3,none⟩) (by rw [←HN0.out];exact HG4_1.out) (.slice p0 k c0));have hN:((((wr.setCell ⟨bk4,0,none⟩ (.string ⟨#[]⟩)).setCell ⟨bk4,1,none⟩ (.int .i64 0)).setCell ⟨bk4,2,none⟩ (.int .i64 0)).setCell ⟨bk4,3,none⟩ (.slice p0 k c0)).heap[bk4]? =some (.cells #[.string ⟨#[]⟩,.int .i64 0,.int .i64 0,.slice p0 k c0] 26 (0,0)):=by simp [World.setCell,Array.getElem?_modify,HX4_1.out]
   have hx5_2:((((wr.setCell ⟨bk4,0,none⟩ (.string ⟨#[]⟩)).setCell ⟨bk4,1,none⟩ (.int .i64 0)).setCell ⟨bk4,2,none⟩ (.int .i64 0)).setCell ⟨bk4,3,none⟩ (.slice p0 k c0)).heap[bk5]? =_:=(row_else (row_else (row_else (row_else HX5_2.out (ne1 HL5_2) _) (ne1 HL5_2) _) (ne1 HL5_2) _) (ne1 HL5_2) _);have HX5_2:=hD hx5_2;clear hx5_2;have ho3:((((wr.setCell ⟨bk4,0,none⟩ (.string ⟨#[]⟩)).setCell ⟨bk4,1,none⟩ (.int .i64 0)).setCell ⟨bk4,2,none⟩ (.int .i64 0)).setCell ⟨bk4,3,none⟩ (.slice p0 k c0)).ownsRow (bk5+1) 42 6 (.slice p0 k c0) k (cells6 ((sclK fs rs k).map rawB)):=(own_cell (own_cell (own_cell (own_cell HO3.out HR3_bk4.out) HR3_bk4.out) HR3_bk4.out) HR3_bk4.out);have HO3:=hD ho3;clear ho3;obtain ⟨W6,hW6⟩:∃W,((((wr.setCell ⟨bk4,0,none⟩ (.string ⟨#[]⟩)).setCell ⟨bk4,1,none⟩ (.int .i64 0)).setCell ⟨bk4,2,none⟩ (.int .i64 0)).setCell ⟨bk4,3,none⟩ (.slice p0 k c0))=W:=⟨_,rfl⟩
   rw [hW6] at hN hB HX5_2 HO3;have HX4_1:=hD hN;have HB:=hD hB;clear hN hB;go_wp2_with fail;clear hge k7 k8 k9 k10 f11 f12 f13 f14 k15 k16 k17 k18 hW6;go_wp2_with fail;refine bodyPost_ret (results_cell_row rfl _ _ bk4 26 _ (0,0) _ rfl HX4_1.out Tryz.underlying26 rfl (by kernel_rfl)) rfl ?_;exact ⟨_,rfl,by rw [←HKN.out];exact own_low HO3.out (by have:=HG5_2.out;omega),by rw [HN0.out];exact HB.out⟩
end Go.Proofs.YtblgfmjlajhipaaGreatDoor
