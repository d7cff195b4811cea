/- RateForce: contracts and the law's walk. Each theorem names its conditions. -/
import Derived.RangeFuncKeeps
import Derived.OwnWalkIn
import Derived.TacticsInMore
import Derived.LoopNIn
import Derived.LoopIn
import Derived.Shelf.SortM.Plain
import Derived.Shelf.SortM.SortNone
import Derived.Ground.GgzProg
import Derived.Ground.SlgmProg
import Derived.Maps.Own
import Derived.Maps.OwnOps
import Derived.Maps.OwnSet
import Derived.Maps.Views
import Derived.Shelf.SlIterI.Nil
import Derived.WalkKit
import Derived.Deep.LoopGhost
import Derived.Deep.QuietTactic
import Derived.BigQuiet
import Derived.Test.YtblgfmjlajhipaaGreatDoorProg
import Derived.WalkSpells
import Derived.WalkLawsBesides
import Derived.IntWalk
import Derived.Lib.Hide
import Derived.Laws.BitsAllLaws
import Derived.StillTailTactics
import Derived.Deep.OwnRows
import Derived.Lib.ConvBytes
import Derived.Below
import Derived.RangeFuncNested
import Derived.RangeFuncCalls
import Derived.RangeFuncLeaves
import Derived.Shelf.Abstract
import Derived.Lib.LaidIn
import Derived.RegionTactic
import Derived.KernelRfl
import Derived.OrdersIn
import Derived.Shelf.Strings.Trim
import Derived.Shelf.Small.Utf8
import Derived.Shelf.Small.Bits
import Derived.Shelf.Small.Strs
import Derived.Shelf.Strconv.Itoa0
import Derived.Shelf.Strings.Search1
import Derived.Shelf.Strings.Runes
import Derived.Shelf.Strings.AsciiSet
import Derived.Shelf.Unicode.DecodeSlow
import Derived.Shelf.Unicode.DecodeAny
import Derived.Deep.DeepCutAuto
import Derived.Laws.AppendOwn
import Derived.Deep.DeepAppendWide
import Derived.Laws.AppendOwnNone
import Derived.OwnWalk
import Derived.Lib.IndexBytes
import Derived.Test.YtblgfmjlajhipaaGreatDoorZd2
import Derived.Test.YtblgfmjlajhipaaGreatDoorZd1
import Derived.Test.YtblgfmjlajhipaaGreatDoorZd0
import Derived.Test.YtblgfmjlajhipaaGreatDoorZc8
import Derived.Test.YtblgfmjlajhipaaGreatDoorZc7
import Derived.Test.YtblgfmjlajhipaaGreatDoorZc6
import Derived.Test.YtblgfmjlajhipaaGreatDoorZb7
import Derived.Test.YtblgfmjlajhipaaGreatDoorZb5
import Derived.Test.YtblgfmjlajhipaaGreatDoorKfa0
import Derived.Test.YtblgfmjlajhipaaGreatDoorZa7
import Derived.Test.YtblgfmjlajhipaaGreatDoorZa6
import Derived.Test.YtblgfmjlajhipaaGreatDoorZa5
import Derived.Test.YtblgfmjlajhipaaGreatDoorZa4
import Derived.Test.YtblgfmjlajhipaaGreatDoorZa3
import Derived.Test.YtblgfmjlajhipaaGreatDoorZa0
import Derived.Test.YtblgfmjlajhipaaGreatDoorZa1
import Derived.Test.YtblgfmjlajhipaaGreatDoorZa2
import Derived.Test.YtblgfmjlajhipaaGreatDoorZb6
import Derived.Test.YtblgfmjlajhipaaGreatDoorZc5
import Derived.Test.YtblgfmjlajhipaaGreatDoorZc4
import Derived.Test.YtblgfmjlajhipaaGreatDoorZc3
import Derived.Test.YtblgfmjlajhipaaGreatDoorZc2
import Derived.Test.YtblgfmjlajhipaaGreatDoorZc1
import Derived.Test.YtblgfmjlajhipaaGreatDoorZc0
import Derived.Test.YtblgfmjlajhipaaGreatDoorZb9
import Derived.Test.YtblgfmjlajhipaaGreatDoorZb8
import Derived.Test.YtblgfmjlajhipaaGreatDoorZc9
import Derived.Test.YtblgfmjlajhipaaGreatDoorZb4
import Derived.Test.YtblgfmjlajhipaaGreatDoorZb0
import Derived.Test.YtblgfmjlajhipaaGreatDoorZa9
import Derived.Test.YtblgfmjlajhipaaGreatDoorZa8
import Derived.Test.YtblgfmjlajhipaaGreatDoorZb3
import Derived.Test.YtblgfmjlajhipaaGreatDoorZb2
import Derived.Test.YtblgfmjlajhipaaGreatDoorZb1
set_option maxHeartbeats 16000000
set_option linter.unusedVariables false
namespace Go.Proofs.YtblgfmjlajhipaaGreatDoor
open Go.RowKit Go.Shelf
open Dgt
theorem mod2 (a m:Int) (w:World) (ha: -9223372036854775808≤a) (ha2:a≤9223372036854775807) (hm:0<m) (hm2:m≤4611686018427387904) :
  Gv 18 #[.int .i64 a,.int .i64 m] w (.int .i64 (a%m)):=by
 unfold Gv;refine (Mod_any a m w ha ha2 hm hm2).mono ?_;rintro e w' ⟨r,rfl,h,-,rfl⟩;exact ⟨by rw [h],Below.refl _ _⟩
def I64 (a:Int):Prop:= -9223372036854775808≤a∧a≤9223372036854775807
def LstP (W:World) (v:Value) (l:List (Int × Int)):Prop:=LstC 2 W v (l.map fun p=>[.int .i64 p.1,.int .i64 p.2])
theorem LstP.up {A W:World} {v:Value} {l:List (Int × Int)} (h:LstP A v l) (hb:Below A.heap.size A W):LstP W v l:=LstC.up h hb
theorem LstP.open {A:World} {v:Value} {l:List (Int × Int)} (h:LstP A v l):∃p cap,v=.slice p l.length cap∧l.length≤cap∧l.length≤1000∧∀i (h:i<l.length),∃g off,p=some ⟨g,off,none⟩∧∀W,Below A.heap.size A W→W.cell? ⟨g,off+i*2,none⟩=some (.int .i64 l[i].1)∧W.cell? ⟨g,off+i*2+1,none⟩=some (.int .i64 l[i].2):=by
 obtain ⟨p,cap,h1,h2,h3,h4⟩:=h;rw [List.length_map] at h1 h2 h3;refine ⟨p,cap,h1,h2,h3,fun i hi=> ?_⟩;obtain ⟨g,off,k1,k2,k3⟩:=h4 i (by rwa [List.length_map]);refine ⟨g,off,k1,fun W hb=> ?_⟩;rw [List.getElem_map] at k3;have key:∀j u,([.int .i64 l[i].1,.int .i64 l[i].2]:List Value)[j]? =some u→W.cell? ⟨g,off+i*2+j,none⟩=some u:=fun j u hu=>by rw [clU hb k2];exact k3 j u hu
 exact ⟨key 0 _ rfl,key 1 _ rfl⟩
def dayOf (p:Int × Int):DR:=(730000+p.1%50,fracT (p.2%6-1) 1000)
def daysD (l:List (Int × Int)):List DR:=l.map dayOf
def EDays_own_6_1 (gl:Nat) (off:Nat) (ca:Nat) (k:Nat) (l:List (Int × Int)) (x:Rt) (pa:Int) (ma:Int) (da:Int) (p0:Option Addr) (c0:Nat) (ws:Nat):Nat→Value
 | 0=>.slice p0 k c0
 | 1=>.slice (some ⟨gl,off,none⟩) l.length ca
 | 2=>.int .i64 (k:Int)
 | 3=>.pointer (some ⟨gl,off+k*2,none⟩)
 | 4=>.pointer (some ⟨gl,off+k*2,none⟩)
 | 5=>.int .i64 pa
 | 6=>.int .i64 ma
 | 7=>.int .i64 da
 | 8=>.agg #[.bool x.neg,.string (encS x.num),.string (encS x.den)]
 | 9=>.agg #[.int .i64 da,.bool x.neg,.string (encS x.num),.string (encS x.den)]
 | _=>undef
def SDays_own_6_1 (gl:Nat) (off:Nat) (ca:Nat) (k:Nat) (l:List (Int × Int)) (x:Rt) (pa:Int) (ma:Int) (da:Int) (p0:Option Addr) (c0:Nat) (ws:Nat) (ix:Nat) (v:Value) (w:World):Prop :=
 match ix with
 | 10=>∃g,v=.slice (some ⟨g,0,none⟩) 1 1∧ws≤g∧w.heap[g]? =some (.cells #[.int .i64 da,.bool x.neg,.string (encS x.num),.string (encS x.den)] 64 (0,0))
 | ix=>v=EDays_own_6_1 gl off ca k l x pa ma da p0 c0 ws ix
theorem SDays_own_6_1_up (gl:Nat) (off:Nat) (ca:Nat) (k:Nat) (l:List (Int × Int)) (x:Rt) (pa:Int) (ma:Int) (da:Int) (p0:Option Addr) (c0:Nat) (ws:Nat) (ix:Nat) (v:Value) (w w' :World) (hb:Below w.heap.size w w') (h:SDays_own_6_1 gl off ca k l x pa ma da p0 c0 ws ix v w):SDays_own_6_1 gl off ca k l x pa ma da p0 c0 ws ix v w' :=by
 unfold SDays_own_6_1 at h ⊢
 split at h
 ·exact by obtain ⟨g,e1,e2,e3⟩:=h;exact ⟨g,e1,e2,hpU hb e3⟩
 ·exact h
set_option maxRecDepth 100000 in
theorem Days_own (v:Value) (l:List (Int × Int)) (hi:∀p ∈ l,I64 p.1∧I64 p.2) (wq:World) (hl:LstP wq v l) :
  Calls Tryz.prog 32 #[v] wq fun e w' =>∃v',e=.returned v' ∧w'.ownsRow wq.heap.size 64 4 v' l.length (cells4 ((daysD l).map rawD))∧Below wq.heap.size wq w' :=by
 obtain ⟨ps,ca,rfl,-,hla,hat⟩:=hl.open;have HAT:=hD hat;have HLA:=hD hla;have HI:=hD hi;have c3:=fun w=>rRatOf_any 1000 w (by decide) (by decide)
 obtain ⟨q1000,hq⟩:∃q,ofR 1000=q:=⟨_,rfl⟩;rw [hq] at c3;have HQ:=hD hq;clear hat hla hi hl hq;have C1:Hid (∀w,Gv 14 #[.int .i64 1000] w (.agg #[.bool q1000.neg,.string (encS q1000.num),.string (encS q1000.den)])):=hD c3;clear c3;have HB:=hD (Below.refl wq.heap.size wq);obtain ⟨n0,hn0⟩:∃n,n=wq.heap.size:=⟨_,rfl⟩;rw [←hn0];have HN0:=hD hn0;clear hn0;go_enter Tryz.func32,Tryz.ntmps32;have HO3:Hid (wq.ownsRow n0 64 4 (.slice none 0 0) 0 (cells4 (((l.take 0).map dayOf).map rawD))):=hD own_new_row;go_wp2_with fail
 go_loopw [3,4] (fun u3 u4 wr=>∃(k:Nat),k≤l.length∧u4=.int .i64 (k:Int)∧Hid (wr.ownsRow n0 64 4 u3 k (cells4 (((l.take k).map dayOf).map rawD)))∧Hid (Below wq.heap.size wq wr)) (fun _ u4 _=>l.length-(intOf u4).toNat)
 case atStart=>exact ⟨0,by omega,by first|rfl|go_num,HO3,HB⟩
 case round =>
  obtain ⟨k,hk,rfl,HO3,HB⟩:=hrel
  by_cases hlt:k<l.length
  ·have hlt' :(k:Int)<(l.length:Int):=by omega
   obtain ⟨p0,c0,rfl⟩:=own_slice HO3.out;obtain ⟨gl,off,rfl,hat⟩:=HAT.out k hlt;have hi:=HI.out _ (List.getElem_mem hlt);have HTK:=hD (List.take_succ_eq_append_getElem hlt);obtain ⟨⟨pa,pb⟩,hp⟩:∃p,l[k]'hlt=p:=⟨_,rfl⟩;rw [hp] at hi HTK;simp only [hp] at hat;obtain ⟨⟨i1,i2⟩,i3,i4⟩:=hi;simp only at i1 i2 i3 i4;have c1:=fun w=>mod2 pb 6 w i3 i4 (by decide) (by decide)
   have c2:=fun w=>mod2 pa 50 w i1 i2 (by decide) (by decide)
   have hb0:=Int.emod_nonneg pb (show (6:Int)≠0 by decide);have hb1:=Int.emod_lt_of_pos pb (show (0:Int)<6 by decide);have ha0:=Int.emod_nonneg pa (show (50:Int)≠0 by decide);have ha1:=Int.emod_lt_of_pos pa (show (0:Int)<50 by decide);have HDO:Hid (dayOf (pa,pb)=(730000+pa%50,quoR (ofR (pb%6-1)) (ofR 1000))):=hD rfl;obtain ⟨mb,h1⟩:∃x,pb%6=x:=⟨_,rfl⟩;rw [h1] at c1 hb0 hb1 HDO;obtain ⟨ma,h2⟩:∃x,pa%50=x:=⟨_,rfl⟩;rw [h2] at c2 ha0 ha1 HDO;obtain ⟨nb,h3⟩:∃x,mb-1=x:=⟨_,rfl⟩;rw [h3] at HDO;obtain ⟨da,h4⟩:∃x,730000+ma=x:=⟨_,rfl⟩;rw [h4] at HDO;have hnb: -1≤nb∧nb≤5:=by omega
   have c4:=fun w=>rRatOf_any nb w (by omega) (by omega)
   have c5:=fun w=>rRatQuo_r (IsR.of (ofR_ok nb) (ofR_sz (n:=nb) (by omega) (by omega))) (IsR.of (ofR_ok 1000) (ofR_sz (n:=1000) (by decide) (by decide))) (by decide) (by decide) w
   unfold quoV at c5;rw [if_neg (of_num (by decide)),HQ.out] at c5;rw [HQ.out] at HDO;obtain ⟨ob,h5⟩:∃x,ofR nb=x:=⟨_,rfl⟩;rw [h5] at c4 c5 HDO;obtain ⟨x,h6⟩:∃x,quoR ob q1000=x:=⟨_,rfl⟩;rw [h6] at c5 HDO;have HNB:Hid (IntKind.i64.wrap (mb-1)=nb):=hD (by rw [IntWalk.i64_in _ (by omega)];exact h3);have HDA:Hid (IntKind.i64.wrap (730000+ma)=da):=hD (by rw [IntWalk.i64_in _ (by omega)];exact h4);have HLT:=hD hlt;have HE:=hD hat;have C2:Hid (∀w,Gv 18 #[.int .i64 pb,.int .i64 6] w (.int .i64 mb)):=hD c1;have C3:Hid (∀w,Gv 18 #[.int .i64 pa,.int .i64 50] w (.int .i64 ma)):=hD c2;have C4:Hid (∀w,Gv 14 #[.int .i64 nb] w (.agg #[.bool ob.neg,.string (encS ob.num),.string (encS ob.den)])):=hD c4;have C5:Hid (∀w,Gv 49 #[rtV ob,rtV q1000] w (.tuple #[.agg #[.bool x.neg,.string (encS x.num),.string (encS x.den)],.bool true])):=hD c5
   have HWI:Hid (IntKind.i64.wrap ((k:Int)+1)=((k+1:Nat):Int)):=hD (by rw [IntWalk.i64_in _ (by have:=HLT.out;have:=HLA.out;omega)];omega);clear c1 c2 c4 c5 h1 h2 h3 h4 h5 h6 hnb hb0 hb1 ha0 ha1 i1 i2 i3 i4 hp hat hlt hk;obtain ⟨k1e0,k1e1⟩:=HE.out _ HB.out;go_wp2_with fail;clear hlt' k1e0 k1e1;refine (C2.out _).mono ?_;rintro e w1 ⟨rfl,hb⟩;have HO3:=hD (own_up HO3.out hb);have HB:=mH HB hb;clear hb;have hnb:=HNB.out;go_wp2_with fail;clear hnb;refine (C4.out _).mono ?_;rintro e w2 ⟨rfl,hb⟩;have HO3:=hD (own_up HO3.out hb);have HB:=mH HB hb;clear hb;go_wp2_with fail;refine (C1.out _).mono ?_;rintro e w3 ⟨rfl,hb⟩;have HO3:=hD (own_up HO3.out hb);have HB:=mH HB hb;clear hb;go_wp2_with fail;refine (C5.out _).mono ?_;rintro e w4 ⟨rfl,hb⟩;have HO3:=hD (own_up HO3.out hb);have HB:=mH HB hb;clear hb;have hN:=heap_alloc_new w4 (.cells #[.bool false,.string ⟨#[]⟩,.string ⟨#[]⟩] 29)
   have hB:=HB.out.alloc HB.out.size (.cells #[.bool false,.string ⟨#[]⟩,.string ⟨#[]⟩] 29);have HG5_2:Hid (n0≤w4.heap.size):=hD (by rw [HN0.out];exact HB.out.size);have hr3:=own_new HO3.out;have HO3:=hD (HO3.out.alloc (.cells #[.bool false,.string ⟨#[]⟩,.string ⟨#[]⟩] 29));obtain ⟨W5,hW5⟩:∃W,w4.alloc (.cells #[.bool false,.string ⟨#[]⟩,.string ⟨#[]⟩] 29)=W:=⟨_,rfl⟩;obtain ⟨bk5,hbk5⟩:∃b,w4.heap.size=b:=⟨_,rfl⟩;rw [hW5] at hN hB  HO3;rw [hbk5] at hr3;have HR3_bk5:=hD hr3;clear hr3;rw [hbk5] at hN HG5_2;have HX5_2:=hD hN;have HB:=hD hB;clear hN hB;have f3:W5.frozen? ⟨bk5,0,none⟩=false:=frz0 HX5_2.out 0;have f4:W5.frozen? ⟨bk5,1,none⟩=false:=frz0 HX5_2.out 1;have f5:W5.frozen? ⟨bk5,2,none⟩=false:=frz0 HX5_2.out 2;obtain ⟨k6a,k6b,k6c⟩:=c3 HX5_2
   have hB:=(((HB.out.setCell (p:=⟨bk5,0,none⟩) (by rw [←HN0.out];exact HG5_2.out) (.bool x.neg)).setCell (p:=⟨bk5,1,none⟩) (by rw [←HN0.out];exact HG5_2.out) (.string (encS x.num))).setCell (p:=⟨bk5,2,none⟩) (by rw [←HN0.out];exact HG5_2.out) (.string (encS x.den)));have hN:(((W5.setCell ⟨bk5,0,none⟩ (.bool x.neg)).setCell ⟨bk5,1,none⟩ (.string (encS x.num))).setCell ⟨bk5,2,none⟩ (.string (encS x.den))).heap[bk5]? =some (.cells #[.bool x.neg,.string (encS x.num),.string (encS x.den)] 29 (0,0)):=by simp [World.setCell,Array.getElem?_modify,HX5_2.out]
   have ho3:(((W5.setCell ⟨bk5,0,none⟩ (.bool x.neg)).setCell ⟨bk5,1,none⟩ (.string (encS x.num))).setCell ⟨bk5,2,none⟩ (.string (encS x.den))).ownsRow n0 64 4 (.slice p0 k c0) k (cells4 (((l.take k).map dayOf).map rawD)):=(own_cell (own_cell (own_cell HO3.out HR3_bk5.out) HR3_bk5.out) HR3_bk5.out);have HO3:=hD ho3;clear ho3;obtain ⟨W6,hW6⟩:∃W,(((W5.setCell ⟨bk5,0,none⟩ (.bool x.neg)).setCell ⟨bk5,1,none⟩ (.string (encS x.num))).setCell ⟨bk5,2,none⟩ (.string (encS x.den)))=W:=⟨_,rfl⟩;rw [hW6] at hN hB  HO3;have HX5_2:=hD hN;have HB:=hD hB;clear hN hB;go_wp2_with fail;clear hW5 hbk5 f3 f4 f5 k6a k6b k6c hW6
   refine wpTl (w:=W6) (by kernel_rfl) (SDays_own_6_1 gl off ca k l x pa ma da p0 c0 W6.heap.size) 11 (fun t=>(decide (26≤t)&&decide (t<37))) (by decide) (by kernel_rfl) (by kernel_rfl) (by kernel_rfl) (by kernel_rfl) (by kernel_rfl) (SDays_own_6_1_up gl off ca k l x pa ma da p0 c0 W6.heap.size) ?_ ?_
   ·intro i hi ov_ listed av_ w hR K hK;have ho:=hR.at_;have hi:i<11:=hi;have hii:i=0∨i=1∨i=2∨i=3∨i=4∨i=5∨i=6∨i=7∨i=8∨i=9∨i=10:=by omega
    rcases hii with rfl|rfl|rfl|rfl|rfl|rfl|rfl|rfl|rfl|rfl|rfl<;>(simp at ho;subst ho)
    ·have b3:av_.tmps.getD 3 undef=.slice p0 k c0:=hR.early (j:=12) (by kernel_rfl) rfl ⟨0,.phase⟩ (by simp) rfl rfl;refine pSq ?_;go_simp;exact hK _ _ rfl rB
    ·have b0:av_.tmps.getD 0 undef=.slice (some ⟨gl,off,none⟩) l.length ca:=hR.b 0;refine pSq ?_;go_simp;exact hK _ _ rfl rB
    ·have b4:av_.tmps.getD 4 undef=.int .i64 (k:Int):=hR.b 4;refine pSq ?_;go_simp;exact hK _ _ rfl rB
    ·have e1:av_.tmps.getD 27 undef=.slice (some ⟨gl,off,none⟩) l.length ca:=hR.t 1;have e2:av_.tmps.getD 28 undef=.int .i64 (k:Int):=hR.t 2;have hk3:(k:Int)<(l.length:Int):=by have:=HLT.out;omega
     refine pSq ?_;go_simp;exact hK _ _ rfl rB
    ·have e3:av_.tmps.getD 29 undef=.pointer (some ⟨gl,off+k*2,none⟩):=hR.t 3;refine pSq ?_;go_simp;exact hK _ _ rfl rB
    ·have e4:av_.tmps.getD 30 undef=.pointer (some ⟨gl,off+k*2,none⟩):=hR.t 4;obtain ⟨cx0,cx1⟩:=HE.out _ (HB.out.trans (hR.below.mono HB.out.size));refine pSq ?_;go_simp;exact hK _ _ rfl rB
    ·have e5:av_.tmps.getD 31 undef=.int .i64 pa:=hR.t 5;refine pSq ?_;go_simp;refine (C3.out w).mono ?_;rintro e w' ⟨rfl,hb⟩;exact hK _ _ (rfl) hb
    ·have e6:av_.tmps.getD 32 undef=.int .i64 ma:=hR.t 6;have hda:=HDA.out;refine pSq ?_;go_simp;exact hK _ _ rfl rB
    ·have b5:av_.tmps.getD 5 undef=.pointer (some ⟨bk5,0,none⟩):=hR.b 5;obtain ⟨cx0,cx1,cx2⟩:=c3 (uH hR.below HX5_2);refine pSq ?_;go_simp;exact hK _ _ rfl rB
    ·have e7:av_.tmps.getD 33 undef=.int .i64 da:=hR.t 7;have e8:av_.tmps.getD 34 undef=.agg #[.bool x.neg,.string (encS x.num),.string (encS x.den)]:=hR.t 8;have g7:=e7;rw [Array.getD_eq_getD_getElem?] at g7;have g8:=e8;rw [Array.getD_eq_getD_getElem?] at g8;refine pSq ?_;go_simp;exact hK _ _ rfl rB
    ·have e9:av_.tmps.getD 35 undef=.agg #[.int .i64 da,.bool x.neg,.string (encS x.num),.string (encS x.den)]:=hR.t 9;have g9:=e9;rw [Array.getD_eq_getD_getElem?] at g9;refine pSq ?_;go_simp;exact hK _ _ (⟨_,rfl,hR.below.size,heap_alloc_new _ _⟩) (rB.alloc (Nat.le_refl _) _)
   ·intro sv_ w hS hb;have e0:sv_ 26=.slice p0 k c0:=hS 0 (by decide);have e10:=hS 10 (by decide);simp only [over,ovL,Nat.reduceAdd,Nat.reduceLeDiff,Nat.reduceLT];obtain ⟨bk36,e10b,hg,hN⟩:∃g,sv_ 36=.slice (some ⟨g,0,none⟩) 1 1∧W6.heap.size≤g∧w.heap[g]? =some (.cells #[.int .i64 da,.bool x.neg,.string (encS x.num),.string (encS x.den)] 64 (0,0)):=e10;have HG36_7:Hid (n0≤bk36):=hD (by rw [HN0.out];exact Nat.le_trans HB.out.size hg);have HL36_7:=hD (Nat.lt_of_lt_of_le (Array.getElem?_eq_some_iff.1 HX5_2.out).1 hg);have HX36_7:=hD hN;clear hN hg
    try clear e10
    have e10:=e10b;clear e10b;have HX5_2:=uH hb HX5_2;have HO3:=hD (own_up HO3.out hb);have HB:=mH HB hb;obtain ⟨w7,hw⟩:∃w8,w8=w:=⟨_,rfl⟩;subst hw;rw [e0,e10];clear hS hb e0 e10;obtain ⟨v8,w8,hrun8,hO,hkp,hbl⟩:=app_dr HO3.out HX36_7.out (one4 _ _ _ _) (.inl (by rw [HN0.out];exact HB.out.size)) (by have:=HLT.out;have:=HLA.out;omega);have HB:=hbl _ _ (by have:=HN0.out;omega) HB;have HO3:=hD hO;clear hO hkp hbl;refine tail_step (n:=1) rfl rfl ?_;refine wp_append_run (.tmp 26) (.tmp 36) 56 rfl _ _ _ _ rfl rfl hrun8 ?_;go_simp;refine tail_step (n:=0) rfl rfl ?_;go_simp;clear hrun8;simp only [wpTail];have hwi:=HWI.out;go_wp2_with fail;clear hwi
    go_roundw
    case rel=>exact ⟨k+1,by have:=HLT.out;omega,by first|rfl|go_num,hD (by rw [HTK.out,List.map_append,List.map_append,List.map_singleton,List.map_singleton,cells4_snoc,HDO.out];exact HO3.out),HB⟩
    case measure=>have:=HLT.out;simp [intOf];omega
  ·have hge:¬(k:Int)<(l.length:Int):=by omega
   have HO9:Hid (wr.ownsRow n0 64 4 u3 l.length (cells4 ((daysD l).map rawD))):=hD (by unfold daysD;have h:=HO3.out;rw [List.take_of_length_le (by omega)] at h;rwa [show k=l.length by omega] at h);go_wp2_with fail;clear hge;go_ret;exact ⟨_,rfl,HO9.out,by rw [HN0.out];exact HB.out⟩
end Go.Proofs.YtblgfmjlajhipaaGreatDoor
