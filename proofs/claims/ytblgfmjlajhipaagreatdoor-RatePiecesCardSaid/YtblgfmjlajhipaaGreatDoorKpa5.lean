/- RatePieces: contracts and the law's walk. Each theorem names its conditions. -/
import Derived.WalkKit
import Derived.Deep.LoopGhost
import Derived.Deep.QuietTactic
import Derived.BigQuiet
import Derived.Test.YtblgfmjlajhipaaGreatDoorProg
import Derived.WalkSpells
import Derived.WalkLawsBesides
import Derived.IntWalk
import Derived.Lib.Hide
import Derived.Laws.BitsAllLaws
import Derived.StillTailTactics
import Derived.Deep.OwnRows
import Derived.Lib.ConvBytes
import Derived.Below
import Derived.Shelf.Strings.Trim
import Derived.Shelf.Small.Utf8
import Derived.Shelf.Small.Bits
import Derived.Shelf.Small.Strs
import Derived.Shelf.Strconv.Itoa0
import Derived.Shelf.Strings.Search1
import Derived.Shelf.Strings.Runes
import Derived.Shelf.Strings.AsciiSet
import Derived.Shelf.Unicode.DecodeSlow
import Derived.Shelf.Unicode.DecodeAny
import Derived.Ground.SlgmProg
import Derived.Shelf.SortM.Plain
import Derived.Shelf.SortM.SortNone
import Derived.Test.YtblgfmjlajhipaaGreatDoorKpa3
import Derived.Test.YtblgfmjlajhipaaGreatDoorZb5
import Derived.Test.YtblgfmjlajhipaaGreatDoorZa7
import Derived.Test.YtblgfmjlajhipaaGreatDoorZa6
import Derived.Test.YtblgfmjlajhipaaGreatDoorZa5
import Derived.Test.YtblgfmjlajhipaaGreatDoorZa4
import Derived.Test.YtblgfmjlajhipaaGreatDoorZa3
import Derived.Test.YtblgfmjlajhipaaGreatDoorZa0
import Derived.Test.YtblgfmjlajhipaaGreatDoorZa1
import Derived.Test.YtblgfmjlajhipaaGreatDoorKpa0
import Derived.Test.YtblgfmjlajhipaaGreatDoorZa2
import Derived.Test.YtblgfmjlajhipaaGreatDoorKpa2
set_option maxHeartbeats 16000000
set_option linter.unusedVariables false
namespace Go.Proofs.YtblgfmjlajhipaaGreatDoor
open Go.RowKit Go.Shelf
open Dgt
def Eamount_any_1_1 (gl:Nat) (off:Nat) (ca:Nat) (k:Nat) (m:List BT) (qa:Int) (x:Rt) (y:Rt) (bk2:Nat) (bk3:Nat):Nat→Value
 | 0=>.pointer (some ⟨bk2,3,none⟩)
 | 1=>.slice (some ⟨gl,off,none⟩) m.length ca
 | 2=>.pointer (some ⟨bk3,0,none⟩)
 | 3=>.int .i64 qa
 | 4=>.pointer (some ⟨bk2,3,none⟩)
 | 5=>.slice (some ⟨gl,off,none⟩) m.length ca
 | 6=>.int .i64 (m.length:Int)
 | 7=>.int .i64 (k:Int)
 | 8=>.pointer (some ⟨gl,off+k*6,none⟩)
 | 9=>.agg #[.bool x.neg,.string (encS x.num),.string (encS x.den),.bool y.neg,.string (encS y.num),.string (encS y.den)]
 | 10=>undef
 | 11=>undef
 | _=>undef
def Eamount_any_2_2 (qb:Int) (qc:Int) (mb:Int) (mc:Int) (nb:Int) (nc:Int) (x:Rt) (fr:Rt) (am:Rt) (bk3:Nat) (bk5:Nat):Nat→Value
 | 0=>.pointer (some ⟨bk5,0,none⟩)
 | 1=>.agg #[.bool x.neg,.string (encS x.num),.string (encS x.den)]
 | 2=>.pointer (some ⟨bk3,1,none⟩)
 | 3=>.int .i64 qb
 | 4=>.int .i64 mb
 | 5=>.int .i64 nb
 | 6=>.pointer (some ⟨bk3,2,none⟩)
 | 7=>.int .i64 qc
 | 8=>.int .i64 mc
 | 9=>.int .i64 nc
 | 10=>.agg #[.bool fr.neg,.string (encS fr.num),.string (encS fr.den)]
 | 11=>.agg #[.bool am.neg,.string (encS am.num),.string (encS am.den)]
 | _=>undef
set_option maxRecDepth 100000 in
theorem amount_any (nm:ByteArray) (um ud:Int) (v:Value) (m:List BT) (qa qb qc:Int) (hs:Sch m) (ia:I64 qa) (ib:I64 qb) (ic:I64 qc) (wq:World) (hl:LstK wq v (m.map rawB)) :
  Gv 16 #[.agg #[.string nm,.int .i64 um,.int .i64 ud,v],.agg #[.int .i64 qa,.int .i64 qb,.int .i64 qc]] wq (.agg #[.bool (amtT m (qa,qb,qc)).neg,.string (encS (amtT m (qa,qb,qc)).num),.string (encS (amtT m (qa,qb,qc)).den)]):=by
 unfold Gv;obtain ⟨gl,off,ca,rfl,-,-,hat⟩:=hl.openS hs.pos;have hp:=hs.pos;have h8:=hs.le;have r1:=mod_in qa (show (0:Int)<(m.length:Int) by omega);have r2:=mod_in qb (show (0:Int)<41 by decide);have r3:=mod_in qc (show (0:Int)<5 by decide);have i1:=ia.1;have i2:=ia.2;have i3:=ib.1;have i4:=ib.2;have i5:=ic.1;have i6:=ic.2;have c1:=fun w=>mod2 qa (m.length:Int) w i1 i2 (by omega) (by omega)
 have c2:=fun w=>mod2 qb 41 w i3 i4 (by decide) (by decide)
 have c3:=fun w=>mod2 qc 5 w i5 i6 (by decide) (by decide)
 have hA:amtT m (qa,qb,qc)=addR (frT m (qa%(m.length:Int)).toNat) (fracT (qb%41-20) (qc%5+1)):=rfl;rw [hA];obtain ⟨k,hk⟩:∃k:Nat,qa%(m.length:Int)=(k:Int):=⟨(qa%(m.length:Int)).toNat,by omega⟩;rw [hk] at c1 r1;rw [show (qa%(m.length:Int)).toNat=k by omega];have hkl:k<m.length:=by omega
 obtain ⟨mb,h1⟩:∃x,qb%41=x:=⟨_,rfl⟩;rw [h1] at c2 r2 ⊢;obtain ⟨mc,h2⟩:∃x,qc%5=x:=⟨_,rfl⟩;rw [h2] at c3 r3 ⊢;obtain ⟨nb,g1⟩:∃x,mb-20=x:=⟨_,rfl⟩;rw [g1];obtain ⟨nc,g2⟩:∃x,mc+1=x:=⟨_,rfl⟩;rw [g2];have c4:=fun w=>rat_any nb nc (by omega) (by omega) (by omega) w
 have hfo:(fracT nb nc).Ok:=frac_ok nb (by omega);have hfz:Rz (fracT nb nc) 1000:=(quoR_sz (ofR_sz (n:=nb) (by omega) (by omega)) (ofR_sz (n:=nc) (by omega) (by omega))).mono (by decide);have c5:=fun w=>rRatAdd_r (IsR.of (hs.frOk k) ((hs.frSz k).mono (show 50≤1000 by decide))) (IsR.of hfo hfz) (by decide) (by decide) w
 have hae:=hat k hkl;clear hat;obtain ⟨fr,h5⟩:∃x,fracT nb nc=x:=⟨_,rfl⟩;rw [h5] at c4 c5 ⊢;obtain ⟨x,hb⟩:∃b,frT m k=b:=⟨_,rfl⟩;obtain ⟨y,hb2⟩:∃b,rtT m k=b:=⟨_,rfl⟩;rw [hb] at c5 hae ⊢;rw [hb2] at hae;have HE:Hid (AtT wq gl (off+k*6) x y):=hD hae;obtain ⟨am,h6⟩:∃z,addR x fr=z:=⟨_,rfl⟩;rw [h6] at c5 ⊢;have HW1:Hid (IntKind.i64.wrap (mb-20)=nb∧IntKind.i64.wrap (mc+1)=nc):=hD ⟨wrap_in (by omega) g1,wrap_in (by omega) g2⟩;have HKL:=hD hkl;clear hA hl hs ia ib ic hp h8 r1 r2 r3 i1 i2 i3 i4 i5 i6 hk h1 h2 g1 g2 hfo hfz h5 hb hb2 h6 hae hkl;have C1:Hid (∀w,Gv 18 #[.int .i64 qa,.int .i64 (m.length:Int)] w (.int .i64 (k:Int))):=hD c1;have C2:Hid (∀w,Gv 18 #[.int .i64 qb,.int .i64 41] w (.int .i64 mb)):=hD c2;have C3:Hid (∀w,Gv 18 #[.int .i64 qc,.int .i64 5] w (.int .i64 mc)):=hD c3
 have C4:Hid (∀w,Gv 20 #[.int .i64 nb,.int .i64 nc] w (.agg #[.bool fr.neg,.string (encS fr.num),.string (encS fr.den)])):=hD c4;have C5:Hid (∀w,Gv 19 #[rtV x,rtV fr] w (.agg #[.bool am.neg,.string (encS am.num),.string (encS am.den)])):=hD c5;clear c1 c2 c3 c4 c5;have HB:=hD (Below.refl wq.heap.size wq);obtain ⟨n0,hn0⟩:∃n,n=wq.heap.size:=⟨_,rfl⟩;rw [←hn0];have HN0:=hD hn0;clear hn0;go_enter Tryz.func16,Tryz.ntmps16;obtain ⟨W1,bk2,hW1,hbk2,HX2_1,HB,HG2_1,hup⟩:=boxn HB HN0 (.cells #[.string nm,.int .i64 um,.int .i64 ud,.slice (some ⟨gl,off,none⟩) m.length ca] 26);clear hup;obtain ⟨W2,bk3,hW2,hbk3,HX3_2,HB,HG3_2,hup⟩:=boxn HB HN0 (.cells #[.int .i64 qa,.int .i64 qb,.int .i64 qc] 34);have HL3_2:=(hup _ _ HX2_1).2;have HX2_1:=(hup _ _ HX2_1).1;clear hup;obtain ⟨W3,bk4,hW3,hbk4,HX4_3,HB,HG4_3,hup⟩:=boxZ HB HN0;have HL4_3:=(hup _ _ HX3_2).2;have HX2_1:=(hup _ _ HX2_1).1
 have HX3_2:=(hup _ _ HX3_2).1;clear hup;go_wp2_with fail;clear hW1 hbk2 hW2 hbk3 hW3 hbk4;refine wp_region_box (w0:=W3) (by kernel_rfl) (fun ix v _=>v=Eamount_any_1_1 gl off ca k m qa x y bk2 bk3 ix) 10 11 (.cells #[.bool false,.string ⟨#[]⟩,.string ⟨#[]⟩,.bool false,.string ⟨#[]⟩,.string ⟨#[]⟩] 42 (0,0)) (.cells #[.bool x.neg,.string (encS x.num),.string (encS x.den),.bool y.neg,.string (encS y.num),.string (encS y.den)] 42 (0,0)) (fun t=>(decide (5≤t)&&decide (t<16))) (by kernel_rfl) (by kernel_rfl) (by kernel_rfl) (by decide) (by decide) (by kernel_rfl) rfl (fun _ _ _ _ _ h=>h) ?_ ?_ ?_ ?_
 ·intro i hi hia his ov_ listed av_ w hR K hK;have ho:=hR.at_;have hi:i<12:=hi;have hii:i=0∨i=1∨i=2∨i=3∨i=4∨i=5∨i=6∨i=7∨i=8∨i=9:=by omega
  rcases hii with rfl|rfl|rfl|rfl|rfl|rfl|rfl|rfl|rfl|rfl
  ·simp at ho;subst ho;have b2:av_.tmps.getD 2 undef=.pointer (some ⟨bk2,0,none⟩):=hR.b 2;refine pSq ?_;go_simp;exact hK _ _ rfl rB
  ·simp at ho;subst ho;have e0:av_.tmps.getD 6 undef=.pointer (some ⟨bk2,3,none⟩):=hR.dep ⟨0,.data⟩ (by simp) rfl (by decide) (by decide);have cx0:w.cell? ⟨bk2,3,none⟩=some (.slice (some ⟨gl,off,none⟩) m.length ca):=by rw [Lib.cell_of_heap (hpU hR.below HX2_1.out)];rfl
   refine pSq ?_;go_simp;exact hK _ _ rfl rB
  ·simp at ho;subst ho;have b3:av_.tmps.getD 3 undef=.pointer (some ⟨bk3,0,none⟩):=hR.b 3;refine pSq ?_;go_simp;exact hK _ _ rfl rB
  ·simp at ho;subst ho;have e2:av_.tmps.getD 8 undef=.pointer (some ⟨bk3,0,none⟩):=hR.dep ⟨2,.data⟩ (by simp) rfl (by decide) (by decide);have cx0:w.cell? ⟨bk3,0,none⟩=some (.int .i64 qa):=by rw [Lib.cell_of_heap (hpU hR.below HX3_2.out)];rfl
   refine pSq ?_;go_simp;exact hK _ _ rfl rB
  ·simp at ho;subst ho;have b2:av_.tmps.getD 2 undef=.pointer (some ⟨bk2,0,none⟩):=hR.b 2;refine pSq ?_;go_simp;exact hK _ _ rfl rB
  ·simp at ho;subst ho;have e4:av_.tmps.getD 10 undef=.pointer (some ⟨bk2,3,none⟩):=hR.dep ⟨4,.data⟩ (by simp) rfl (by decide) (by decide);have cx0:w.cell? ⟨bk2,3,none⟩=some (.slice (some ⟨gl,off,none⟩) m.length ca):=by rw [Lib.cell_of_heap (hpU hR.below HX2_1.out)];rfl
   refine pSq ?_;go_simp;exact hK _ _ rfl rB
  ·simp at ho;subst ho;have e5:av_.tmps.getD 11 undef=.slice (some ⟨gl,off,none⟩) m.length ca:=hR.dep ⟨5,.data⟩ (by simp) rfl (by decide) (by decide);refine pSq ?_;go_simp;exact hK _ _ rfl rB
  ·simp at ho;subst ho;have e3:av_.tmps.getD 9 undef=.int .i64 qa:=hR.dep ⟨3,.data⟩ (by simp) rfl (by decide) (by decide);have e6:av_.tmps.getD 12 undef=.int .i64 (m.length:Int):=hR.dep ⟨6,.data⟩ (by simp) rfl (by decide) (by decide);refine pSq ?_;go_simp;refine (C1.out w).mono ?_;rintro e w' ⟨rfl,hb⟩;exact hK _ _ (rfl) hb
  ·simp at ho;subst ho;have e1:av_.tmps.getD 7 undef=.slice (some ⟨gl,off,none⟩) m.length ca:=hR.dep ⟨1,.data⟩ (by simp) rfl (by decide) (by decide);have e7:av_.tmps.getD 13 undef=.int .i64 (k:Int):=hR.dep ⟨7,.data⟩ (by simp) rfl (by decide) (by decide);have hk3:(k:Int)<(m.length:Int):=by have:=HKL.out;omega
   refine pSq ?_;go_simp;exact hK _ _ rfl rB
  ·simp at ho;subst ho;have e8:av_.tmps.getD 14 undef=.pointer (some ⟨gl,off+k*6,none⟩):=hR.dep ⟨8,.data⟩ (by simp) rfl (by decide) (by decide);obtain ⟨cx0,cx1,cx2,cx3,cx4,cx5⟩:=HE.out _ (HB.out.trans (hR.below.mono HB.out.size));refine pSq ?_;go_simp;exact hK _ _ rfl rB
 ·intro ov_ av_ w ho K hK;simp at ho;subst ho;refine pSq ?_;go_simp;exact hK _ _ _ rfl (Nat.le_refl _) (heap_alloc_new _ _) (rB.alloc (Nat.le_refl _) _)
 ·intro ov_ listed av_ w g hR hv hg hz K hK;have ho:=hR.at_;simp at ho;subst ho;have e10:av_.tmps.getD 5 undef=.pointer (some ⟨g,0,none⟩):=hv;have e9:av_.tmps.getD 15 undef=.agg #[.bool x.neg,.string (encS x.num),.string (encS x.den),.bool y.neg,.string (encS y.num),.string (encS y.den)]:=hR.dep ⟨9,.data⟩ (by simp) rfl (by decide) (by decide);have cz0:w.cell? ⟨g,0,none⟩=some (.bool false):=by rw [Lib.cell_of_heap hz];rfl
  have fz0:w.frozen? ⟨g,0,none⟩=false:=frz0 hz 0;have cz1:w.cell? ⟨g,1,none⟩=some (.string ⟨#[]⟩):=by rw [Lib.cell_of_heap hz];rfl
  have fz1:w.frozen? ⟨g,1,none⟩=false:=frz0 hz 1;have cz2:w.cell? ⟨g,2,none⟩=some (.string ⟨#[]⟩):=by rw [Lib.cell_of_heap hz];rfl
  have fz2:w.frozen? ⟨g,2,none⟩=false:=frz0 hz 2;have cz3:w.cell? ⟨g,3,none⟩=some (.bool false):=by rw [Lib.cell_of_heap hz];rfl
  have fz3:w.frozen? ⟨g,3,none⟩=false:=frz0 hz 3;have cz4:w.cell? ⟨g,4,none⟩=some (.string ⟨#[]⟩):=by rw [Lib.cell_of_heap hz];rfl
  have fz4:w.frozen? ⟨g,4,none⟩=false:=frz0 hz 4;have cz5:w.cell? ⟨g,5,none⟩=some (.string ⟨#[]⟩):=by rw [Lib.cell_of_heap hz];rfl
  have fz5:w.frozen? ⟨g,5,none⟩=false:=frz0 hz 5;refine pSq ?_;go_simp;exact hK _ (by simp [World.setCell,Array.getElem?_modify,hz]) ((((((rB.setCell (p:=⟨g,0,none⟩) hg (.bool x.neg)).setCell (p:=⟨g,1,none⟩) hg (.string (encS x.num))).setCell (p:=⟨g,2,none⟩) hg (.string (encS x.den))).setCell (p:=⟨g,3,none⟩) hg (.bool y.neg)).setCell (p:=⟨g,4,none⟩) hg (.string (encS y.num))).setCell (p:=⟨g,5,none⟩) hg (.string (encS y.den)))
 ·intro sv_ w g hS hg0 hge hN hb;have e10:sv_ 5=.pointer (some ⟨g,0,none⟩):=hg0;simp only [over,ovL,Nat.reduceAdd,Nat.reduceLeDiff,Nat.reduceLT];obtain ⟨bk5,hg1⟩:∃b,g=b:=⟨_,rfl⟩;rw [hg1] at e10 hge hN;clear hg1;have HG5_4:Hid (n0≤bk5):=hD (by rw [HN0.out];exact Nat.le_trans HB.out.size hge);have HL5_4:=hD (Nat.lt_of_lt_of_le (Array.getElem?_eq_some_iff.1 HX4_3.out).1 hge);have HX5_4:=hD hN;clear hN hge hg0;have HX2_1:=uH hb HX2_1;have HX3_2:=uH hb HX3_2;have HX4_3:=uH hb HX4_3;have HB:=mH HB hb;obtain ⟨w4,hw⟩:∃w8,w8=w:=⟨_,rfl⟩;subst hw;rw [e10];clear hS hb e10;go_wp2_with fail;refine wpTl (w:=w4) (by kernel_rfl) (fun ix v _=>v=Eamount_any_2_2 qb qc mb mc nb nc x fr am bk3 bk5 ix) 12 (fun t=>(decide (16≤t)&&decide (t<28))) (by decide) (by kernel_rfl) (by kernel_rfl) (by kernel_rfl) (by kernel_rfl) (by kernel_rfl) (fun _ _ _ _ _ h=>h) ?_ ?_
  ·intro i hi ov_ listed av_ w hR K hK;have ho:=hR.at_;have hi:i<12:=hi;have hii:i=0∨i=1∨i=2∨i=3∨i=4∨i=5∨i=6∨i=7∨i=8∨i=9∨i=10∨i=11:=by omega
   rcases hii with rfl|rfl|rfl|rfl|rfl|rfl|rfl|rfl|rfl|rfl|rfl|rfl<;>(simp at ho;subst ho)
   ·have b5:av_.tmps.getD 5 undef=.pointer (some ⟨bk5,0,none⟩):=hR.b 5;refine pSq ?_;go_simp;exact hK _ _ rfl rB
   ·have e0:av_.tmps.getD 16 undef=.pointer (some ⟨bk5,0,none⟩):=hR.t 0;have cx0:w.cell? ⟨bk5,0,none⟩=some (.bool x.neg):=by rw [Lib.cell_of_heap (hpU hR.below HX5_4.out)];rfl
    have cx1:w.cell? ⟨bk5,1,none⟩=some (.string (encS x.num)):=by rw [Lib.cell_of_heap (hpU hR.below HX5_4.out)];rfl
    have cx2:w.cell? ⟨bk5,2,none⟩=some (.string (encS x.den)):=by rw [Lib.cell_of_heap (hpU hR.below HX5_4.out)];rfl
    refine pSq ?_;go_simp;exact hK _ _ rfl rB
   ·have b3:av_.tmps.getD 3 undef=.pointer (some ⟨bk3,0,none⟩):=hR.b 3;refine pSq ?_;go_simp;exact hK _ _ rfl rB
   ·have e2:av_.tmps.getD 18 undef=.pointer (some ⟨bk3,1,none⟩):=hR.t 2;have cx0:w.cell? ⟨bk3,1,none⟩=some (.int .i64 qb):=by rw [Lib.cell_of_heap (hpU hR.below HX3_2.out)];rfl
    refine pSq ?_;go_simp;exact hK _ _ rfl rB
   ·have e3:av_.tmps.getD 19 undef=.int .i64 qb:=hR.t 3;refine pSq ?_;go_simp;refine (C2.out w).mono ?_;rintro e w' ⟨rfl,hb⟩;exact hK _ _ (rfl) hb
   ·have e4:av_.tmps.getD 20 undef=.int .i64 mb:=hR.t 4;obtain ⟨hw1,hw2⟩:=HW1.out;refine pSq ?_;go_simp;exact hK _ _ rfl rB
   ·have b3:av_.tmps.getD 3 undef=.pointer (some ⟨bk3,0,none⟩):=hR.b 3;refine pSq ?_;go_simp;exact hK _ _ rfl rB
   ·have e6:av_.tmps.getD 22 undef=.pointer (some ⟨bk3,2,none⟩):=hR.t 6;have cx0:w.cell? ⟨bk3,2,none⟩=some (.int .i64 qc):=by rw [Lib.cell_of_heap (hpU hR.below HX3_2.out)];rfl
    refine pSq ?_;go_simp;exact hK _ _ rfl rB
   ·have e7:av_.tmps.getD 23 undef=.int .i64 qc:=hR.t 7;refine pSq ?_;go_simp;refine (C3.out w).mono ?_;rintro e w' ⟨rfl,hb⟩;exact hK _ _ (rfl) hb
   ·have e8:av_.tmps.getD 24 undef=.int .i64 mc:=hR.t 8;obtain ⟨hw1,hw2⟩:=HW1.out;refine pSq ?_;go_simp;exact hK _ _ rfl rB
   ·have e5:av_.tmps.getD 21 undef=.int .i64 nb:=hR.t 5;have e9:av_.tmps.getD 25 undef=.int .i64 nc:=hR.t 9;refine pSq ?_;go_simp;refine (C4.out w).mono ?_;rintro e w' ⟨rfl,hb⟩;exact hK _ _ (rfl) hb
   ·have e1:av_.tmps.getD 17 undef=.agg #[.bool x.neg,.string (encS x.num),.string (encS x.den)]:=hR.t 1;have e10:av_.tmps.getD 26 undef=.agg #[.bool fr.neg,.string (encS fr.num),.string (encS fr.den)]:=hR.t 10;refine pSq ?_;go_simp;refine (C5.out w).mono ?_;rintro e w' ⟨rfl,hb⟩;exact hK _ _ (rfl) hb
  ·intro sv_ w hS hb;have e11:sv_ 27=.agg #[.bool am.neg,.string (encS am.num),.string (encS am.den)]:=hS 11 (by decide);simp only [over,ovL,Nat.reduceAdd,Nat.reduceLeDiff,Nat.reduceLT];have HX2_1:=uH hb HX2_1;have HX3_2:=uH hb HX3_2;have HX4_3:=uH hb HX4_3;have HX5_4:=uH hb HX5_4;have HB:=mH HB hb;obtain ⟨w5,hw⟩:∃w8,w8=w:=⟨_,rfl⟩;subst hw;rw [e11];clear hS hb e11;obtain ⟨W6,hW6,HX4_3,hs,f5a,f5b,f5c,k5a,k5b,k5c⟩:=put3_0_3 HX4_3 (.bool am.neg) (.string (encS am.num)) (.string (encS am.den));have HB:=hs.bel (gN HN0 HG4_3) HB;have HX2_1:=hs.keep _ _ (en2 HL3_2 HL4_3) HX2_1;have HX3_2:=hs.keep _ _ (en1 HL4_3) HX3_2;have HX5_4:=hs.keep _ _ (ne1 HL5_4) HX5_4;clear hs;refine tail_step (n:=0) rfl rfl ?_;go_simp
   try rw [hW6]
   clear f5a f5b f5c k5a k5b k5c hW6;simp only [wpTail];go_wp2_with fail;refine bodyPost_ret (rC1 HX4_3.out) rfl ?_;exact ⟨rfl,by rw [HN0.out];exact HB.out⟩
end Go.Proofs.YtblgfmjlajhipaaGreatDoor
