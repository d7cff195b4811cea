/- Contracts that the proofs of this seat share. Each theorem names its conditions. -/

import Derived.Test.YtabfjecegpaoaaaGreatDoorZb8
import Derived.Test.YtabfjecegpaoaaaGreatDoorZa6
import Derived.Test.YtabfjecegpaoaaaGreatDoorZb5
import Derived.Test.YtabfjecegpaoaaaGreatDoorZb6
set_option maxHeartbeats 16000000
set_option linter.unusedVariables false
namespace Go.Proofs.YtabfjecegpaoaaaGreatDoor
open Go.RowKit Go.Shelf
open Dgt
theorem sz_one' :Sz 1 1:=by unfold Sz;decide
def EMoWhole_r_4_1 (z:Rt) (Q:Nat) (bk1:Nat):Nat→Value
 | 0=>.pointer (some ⟨bk1,0,none⟩)
 | 1=>.bool false
 | 2=>.string (encS Q)
 | 3=>.string (encS 1)
 | 4=>.tuple #[.agg #[.bool z.neg,.string (encS z.num),.string (encS z.den)],.bool true]
 | 5=>.tuple #[.agg #[.bool z.neg,.string (encS z.num),.string (encS z.den)],.bool true]
 | 6=>.agg #[.bool z.neg,.string (encS z.num),.string (encS z.den)]
 | 7=>.bool true
 | 8=>undef
 | 9=>undef
 | 10=>.bool true
 | _=>undef
def EMoWhole_r_4_2 (z:Rt) (Q:Nat) (bk1:Nat):Nat→Value
 | 0=>.pointer (some ⟨bk1,0,none⟩)
 | 1=>.bool true
 | 2=>.string (encS Q)
 | 3=>.string (encS 1)
 | 4=>.tuple #[.agg #[.bool z.neg,.string (encS z.num),.string (encS z.den)],.bool true]
 | 5=>.tuple #[.agg #[.bool z.neg,.string (encS z.num),.string (encS z.den)],.bool true]
 | 6=>.agg #[.bool z.neg,.string (encS z.num),.string (encS z.den)]
 | 7=>.bool true
 | 8=>undef
 | 9=>undef
 | 10=>.bool true
 | _=>undef
def EMoWhole_r_4_3 (z:Rt) (Q:Nat) (bk1:Nat):Nat→Value
 | 0=>.pointer (some ⟨bk1,0,none⟩)
 | 1=>.bool true
 | 2=>.string (encS Q)
 | 3=>.string (encS 1)
 | 4=>.tuple #[.agg #[.bool z.neg,.string (encS z.num),.string (encS z.den)],.bool true]
 | 5=>.tuple #[.agg #[.bool z.neg,.string (encS z.num),.string (encS z.den)],.bool true]
 | 6=>.agg #[.bool z.neg,.string (encS z.num),.string (encS z.den)]
 | 7=>.bool true
 | 8=>undef
 | 9=>undef
 | 10=>.bool true
 | _=>undef
set_option maxRecDepth 100000 in
theorem MoWhole_r {a:Rt} {k:Nat} (ha:a.Ok) (hz:Rz a k) (hk:k≤1000000) (wq:World) :
  Gv 62 #[.agg #[.bool a.neg,.string (encS a.num),.string (encS a.den)]] wq (rtV (flR a)):=by
 unfold Gv;have hp:=ha.pos;have c1:=fun w=>Quo_n (numS_encS a.num) (numS_encS a.den) (hz.1.enc (by omega)) (hz.2.enc (by omega)) w
 have s1:Sz (a.num/a.den) (k+1):=(hz.1.div _).mono (by omega);have s2:Sz (a.num/a.den+1) (k+1):=(hz.1.div _).add (show Sz 1 k from by have:=hz.2;unfold Sz at *;omega);have HM:Hid (∀q w,Sz q (k+1)→Gv 77 #[.bool a.neg,.string (encS q),.string (encS 1)] w (.tuple #[rtV (low a.neg q 1),.bool true])):=hD fun q w hq=>by
  have h:=RatMake_any a.neg (encS q) (encS 1) w (Nat.le_trans (encS_size_lt hq) (by omega)) (Nat.le_trans (encS_size_lt sz_one') (by decide));have e:makeV a.neg (encS q) (encS 1)=.tuple #[rtV (low a.neg q 1),.bool true]:=by unfold makeV;rw [right_enc,right_enc,numS_encS,numS_encS];rfl
  rw [e] at h;exact h
 have hw:=whole_fl ha;have sQ:Sz (wholeN a) (k+1):=by unfold wholeN;split;exact s2;exact s1
 have HQ1:Hid (a.neg=true→¬remS a.num a.den=0→wholeN a=a.num/a.den+1):=hD fun h1 h2=>by
  unfold wholeN;rw [if_pos ⟨h1,by unfold remS at h2;rwa [if_neg (by omega)] at h2⟩]
 have HQ0:Hid (¬(a.neg=true∧¬remS a.num a.den=0)→wholeN a=a.num/a.den):=hD fun h=>by
  unfold wholeN;rw [if_neg (by unfold remS at h;rwa [if_neg (by omega)] at h)]
 have c3:=fun w=>Add_n (numS_encS (a.num/a.den)) (numS_encS 1) (s1.enc (by omega)) (Nat.le_trans (encS_size_lt sz_one') (by decide)) w
 obtain ⟨Q,hQ⟩:∃q,wholeN a=q:=⟨_,rfl⟩;have c4:=fun w=>HM.out (wholeN a) w sQ
 rw [hw] at c4;rw [hQ] at c4 HQ1 HQ0;obtain ⟨z,hzz⟩:∃z,flR a=z:=⟨_,rfl⟩;rw [hzz] at c4 ⊢;obtain ⟨u,hu⟩:∃u,a.num/a.den=u:=⟨_,rfl⟩;obtain ⟨r,hr⟩:∃u,remS a.num a.den=u:=⟨_,rfl⟩;obtain ⟨nn,hnn⟩:∃b,a.neg=b:=⟨_,rfl⟩;obtain ⟨m,hm⟩:∃b,a.num=b:=⟨_,rfl⟩;obtain ⟨d,hd⟩:∃b,a.den=b:=⟨_,rfl⟩;rw [hu,hr,hnn] at HQ1;rw [hu,hr,hnn] at HQ0;rw [hu] at c1 c3;rw [hr] at c1;rw [decide_eq_true hp] at c1;rw [hm,hd] at c1;rw [hnn] at c4;rw [hnn,hm,hd];have C1:Hid (∀w,Gv 74 #[.string (encS m),.string (encS d)] w (.tuple #[.string (encS u),.string (encS r),.bool true])):=hD c1;have C2:Hid (∀w,Gv 72 #[.int .i64 1] w (.string (encS 1))):=hD fun w=>by
  have h:=(fun w=>Of_any 1 w (by decide)) w;exact h
 have C3:Hid (∀w,Gv 77 #[.bool nn,.string (encS Q),.string (encS 1)] w (.tuple #[.agg #[.bool z.neg,.string (encS z.num),.string (encS z.den)],.bool true])):=hD c4;have HAD:=hD c3;clear c1 c3 c4 s1 s2 sQ hw hp HM hQ hzz hu hr hnn hm hd ha hz hk;have HB:=hD (Below.refl wq.heap.size wq);obtain ⟨n0,hn0⟩:∃n,n=wq.heap.size:=⟨_,rfl⟩;rw [←hn0];have HN0:=hD hn0;clear hn0;go_enter Tryz.func62,Tryz.ntmps62;obtain ⟨W1,bk1,hW1,hbk1,HX1_1,HB,HG1_1,hup⟩:=boxn HB HN0 (.cells #[.bool nn,.string (encS m),.string (encS d)] 26);clear hup;obtain ⟨W2,bk2,hW2,hbk2,HX2_2,HB,HG2_2,hup⟩:=boxZ HB HN0;have HL2_2:=(hup _ _ HX1_1).2;have HX1_1:=(hup _ _ HX1_1).1;clear hup;have k3:W2.cell? ⟨bk1,1,none⟩=some (.string (encS m)):=by rw [Lib.cell_of_heap HX1_1.out];rfl
 have k4:W2.cell? ⟨bk1,2,none⟩=some (.string (encS d)):=by rw [Lib.cell_of_heap HX1_1.out];rfl
 go_wp2_with fail;clear hW1 hbk1 hW2 hbk2 k3 k4;refine (C1.out _).mono ?_;rintro e w3 ⟨rfl,hb⟩;have HX1_1:=uH hb HX1_1;have HX2_2:=uH hb HX2_2;have HB:=mH HB hb;clear hb;cases nn
 case false =>
  have k5:w3.cell? ⟨bk1,0,none⟩=some (.bool false):=by rw [Lib.cell_of_heap HX1_1.out];rfl
  obtain rfl:Q=u:=HQ0.out (by rintro ⟨h1,-⟩;cases h1);go_wp2_with fail;clear k5;refine wp_region_box (w0:=w3) (by kernel_rfl) (fun ix v _=>v=EMoWhole_r_4_1 z Q bk1 ix) 8 9 (.cells #[.bool false,.string ⟨#[]⟩,.string ⟨#[]⟩] 26 (0,0)) (.cells #[.bool z.neg,.string (encS z.num),.string (encS z.den)] 26 (0,0)) (fun t=>(decide (6≤t)&&decide (t<8))||(decide (26≤t)&&decide (t<34))) (by kernel_rfl) (by kernel_rfl) (by kernel_rfl) (by decide) (by decide) (by kernel_rfl) rfl (fun _ _ _ _ _ h=>h) ?_ ?_ ?_ ?_
  ·intro i hi hia his ov_ listed av_ w hR K hK;have ho:=hR.at_;have hi:i<11:=hi;have hii:i=0∨i=1∨i=2∨i=3∨i=4∨i=5∨i=6∨i=7∨i=10:=by omega
   rcases hii with rfl|rfl|rfl|rfl|rfl|rfl|rfl|rfl|rfl
   ·simp at ho;subst ho;have b1:av_.tmps.getD 1 undef=.pointer (some ⟨bk1,0,none⟩):=hR.b 1;refine pSq ?_;go_simp;exact hK _ _ rfl rB
   ·simp at ho;subst ho;have e0:av_.tmps.getD 27 undef=.pointer (some ⟨bk1,0,none⟩):=hR.dep ⟨0,.data⟩ (by simp) rfl (by decide) (by decide);have cx0:w.cell? ⟨bk1,0,none⟩=some (.bool false):=by rw [Lib.cell_of_heap (hpU hR.below HX1_1.out)];rfl
    refine pSq ?_;go_simp;exact hK _ _ rfl rB
   ·simp at ho;subst ho;have b3:av_.tmps.getD 3 undef=.string (encS Q):=hR.b 3;refine pSq ?_;go_simp;exact hK _ _ rfl rB
   ·simp at ho;subst ho;refine pSq ?_;go_simp;refine (C2.out w).mono ?_;rintro e w' ⟨rfl,hb⟩;exact hK _ _ (rfl) hb
   ·simp at ho;subst ho;have e1:av_.tmps.getD 28 undef=.bool false:=hR.dep ⟨1,.data⟩ (by simp) rfl (by decide) (by decide);have e2:av_.tmps.getD 29 undef=.string (encS Q):=hR.dep ⟨2,.data⟩ (by simp) rfl (by decide) (by decide);have e3:av_.tmps.getD 30 undef=.string (encS 1):=hR.dep ⟨3,.data⟩ (by simp) rfl (by decide) (by decide);refine pSq ?_;go_simp;refine (C3.out w).mono ?_;rintro e w' ⟨rfl,hb⟩;exact hK _ _ (rfl) hb
   ·simp at ho;subst ho;have e4:av_.tmps.getD 31 undef=.tuple #[.agg #[.bool z.neg,.string (encS z.num),.string (encS z.den)],.bool true]:=hR.dep ⟨4,.data⟩ (by simp) rfl (by decide) (by decide);refine pSq ?_;go_simp;exact hK _ _ rfl rB
   ·simp at ho;subst ho;have e5:av_.tmps.getD 26 undef=.tuple #[.agg #[.bool z.neg,.string (encS z.num),.string (encS z.den)],.bool true]:=hR.dep ⟨5,.data⟩ (by simp) rfl (by decide) (by decide);refine pSq ?_;go_simp;exact hK _ _ rfl rB
   ·simp at ho;subst ho;have e5:av_.tmps.getD 26 undef=.tuple #[.agg #[.bool z.neg,.string (encS z.num),.string (encS z.den)],.bool true]:=hR.dep ⟨5,.data⟩ (by simp) rfl (by decide) (by decide);refine pSq ?_;go_simp;exact hK _ _ rfl rB
   ·simp at ho;subst ho;have e7:av_.tmps.getD 33 undef=.bool true:=hR.dep ⟨7,.data⟩ (by simp) rfl (by decide) (by decide);refine pSq ?_;go_simp;exact hK _ _ rfl rB
  ·intro ov_ av_ w ho K hK;simp at ho;subst ho;refine pSq ?_;go_simp;exact hK _ _ _ rfl (Nat.le_refl _) (heap_alloc_new _ _) (rB.alloc (Nat.le_refl _) _)
  ·intro ov_ listed av_ w g hR hv hg hz K hK;have ho:=hR.at_;simp at ho;subst ho;have e8:av_.tmps.getD 6 undef=.pointer (some ⟨g,0,none⟩):=hv;have e6:av_.tmps.getD 32 undef=.agg #[.bool z.neg,.string (encS z.num),.string (encS z.den)]:=hR.dep ⟨6,.data⟩ (by simp) rfl (by decide) (by decide);have cz0:w.cell? ⟨g,0,none⟩=some (.bool false):=by rw [Lib.cell_of_heap hz];rfl
   have fz0:w.frozen? ⟨g,0,none⟩=false:=frz0 hz 0;have cz1:w.cell? ⟨g,1,none⟩=some (.string ⟨#[]⟩):=by rw [Lib.cell_of_heap hz];rfl
   have fz1:w.frozen? ⟨g,1,none⟩=false:=frz0 hz 1;have cz2:w.cell? ⟨g,2,none⟩=some (.string ⟨#[]⟩):=by rw [Lib.cell_of_heap hz];rfl
   have fz2:w.frozen? ⟨g,2,none⟩=false:=frz0 hz 2;refine pSq ?_;go_simp;exact hK _ (by simp [World.setCell,Array.getElem?_modify,hz]) (((rB.setCell (p:=⟨g,0,none⟩) hg (.bool z.neg)).setCell (p:=⟨g,1,none⟩) hg (.string (encS z.num))).setCell (p:=⟨g,2,none⟩) hg (.string (encS z.den)))
  ·intro sv_ w g hS hg0 hge hN hb;have e8:sv_ 6=.pointer (some ⟨g,0,none⟩):=hg0;simp only [over,ovL,Nat.reduceAdd,Nat.reduceLeDiff,Nat.reduceLT];obtain ⟨bk6,hg1⟩:∃b,g=b:=⟨_,rfl⟩;rw [hg1] at e8 hge hN;clear hg1;have HG6_6:Hid (n0≤bk6):=hD (by rw [HN0.out];exact Nat.le_trans HB.out.size hge);have HL6_6:=hD (Nat.lt_of_lt_of_le (Array.getElem?_eq_some_iff.1 HX2_2.out).1 hge);have HX6_6:=hD hN;clear hN hge hg0;have HX1_1:=uH hb HX1_1;have HX2_2:=uH hb HX2_2;have HB:=mH HB hb;obtain ⟨w4,hw⟩:∃w8,w8=w:=⟨_,rfl⟩;subst hw;rw [e8];clear hS hb e8;obtain ⟨k7a,k7b,k7c⟩:=c3 HX6_6;obtain ⟨W5,hW5,HX2_2,HB,ho,f8a,f8b,f8c,k8a,k8b,k8c⟩:=putR HX2_2 HB HN0 HG2_2 z;have HX1_1:=ho _ _ (en1 HL2_2) HX1_1;have HX6_6:=ho _ _ (ne1 HL6_6) HX6_6;clear ho;go_wp2_with fail;clear k7a k7b k7c f8a f8b f8c k8a k8b k8c hW5;refine bodyPost_ret (rC1 HX2_2.out) rfl ?_;exact ⟨rfl,by rw [HN0.out];exact HB.out⟩
 case true =>
  by_cases hr0:r=0
  ·have HZ:=hD hr0;clear hr0;have k9:w3.cell? ⟨bk1,0,none⟩=some (.bool true):=by rw [Lib.cell_of_heap HX1_1.out];rfl
   have q10:=(show (encS r).toList.isEmpty=true from by rw [enc_empty];simp [HZ.out]);have q11:=(enc_nil HZ.out);obtain rfl:Q=u:=HQ0.out (by rintro ⟨-,h2⟩;exact h2 HZ.out);go_wp2_with fail;clear k9 q10 q11;refine wp_region_box (w0:=w3) (by kernel_rfl) (fun ix v _=>v=EMoWhole_r_4_2 z Q bk1 ix) 8 9 (.cells #[.bool false,.string ⟨#[]⟩,.string ⟨#[]⟩] 26 (0,0)) (.cells #[.bool z.neg,.string (encS z.num),.string (encS z.den)] 26 (0,0)) (fun t=>(decide (6≤t)&&decide (t<8))||(decide (26≤t)&&decide (t<34))) (by kernel_rfl) (by kernel_rfl) (by kernel_rfl) (by decide) (by decide) (by kernel_rfl) rfl (fun _ _ _ _ _ h=>h) ?_ ?_ ?_ ?_
   ·intro i hi hia his ov_ listed av_ w hR K hK;have ho:=hR.at_;have hi:i<11:=hi;have hii:i=0∨i=1∨i=2∨i=3∨i=4∨i=5∨i=6∨i=7∨i=10:=by omega
    rcases hii with rfl|rfl|rfl|rfl|rfl|rfl|rfl|rfl|rfl
    ·simp at ho;subst ho;have b1:av_.tmps.getD 1 undef=.pointer (some ⟨bk1,0,none⟩):=hR.b 1;refine pSq ?_;go_simp;exact hK _ _ rfl rB
    ·simp at ho;subst ho;have e0:av_.tmps.getD 27 undef=.pointer (some ⟨bk1,0,none⟩):=hR.dep ⟨0,.data⟩ (by simp) rfl (by decide) (by decide);have cx0:w.cell? ⟨bk1,0,none⟩=some (.bool true):=by rw [Lib.cell_of_heap (hpU hR.below HX1_1.out)];rfl
     refine pSq ?_;go_simp;exact hK _ _ rfl rB
    ·simp at ho;subst ho;have b3:av_.tmps.getD 3 undef=.string (encS Q):=hR.b 3;refine pSq ?_;go_simp;exact hK _ _ rfl rB
    ·simp at ho;subst ho;refine pSq ?_;go_simp;refine (C2.out w).mono ?_;rintro e w' ⟨rfl,hb⟩;exact hK _ _ (rfl) hb
    ·simp at ho;subst ho;have e1:av_.tmps.getD 28 undef=.bool true:=hR.dep ⟨1,.data⟩ (by simp) rfl (by decide) (by decide);have e2:av_.tmps.getD 29 undef=.string (encS Q):=hR.dep ⟨2,.data⟩ (by simp) rfl (by decide) (by decide);have e3:av_.tmps.getD 30 undef=.string (encS 1):=hR.dep ⟨3,.data⟩ (by simp) rfl (by decide) (by decide);refine pSq ?_;go_simp;refine (C3.out w).mono ?_;rintro e w' ⟨rfl,hb⟩;exact hK _ _ (rfl) hb
    ·simp at ho;subst ho;have e4:av_.tmps.getD 31 undef=.tuple #[.agg #[.bool z.neg,.string (encS z.num),.string (encS z.den)],.bool true]:=hR.dep ⟨4,.data⟩ (by simp) rfl (by decide) (by decide);refine pSq ?_;go_simp;exact hK _ _ rfl rB
    ·simp at ho;subst ho;have e5:av_.tmps.getD 26 undef=.tuple #[.agg #[.bool z.neg,.string (encS z.num),.string (encS z.den)],.bool true]:=hR.dep ⟨5,.data⟩ (by simp) rfl (by decide) (by decide);refine pSq ?_;go_simp;exact hK _ _ rfl rB
    ·simp at ho;subst ho;have e5:av_.tmps.getD 26 undef=.tuple #[.agg #[.bool z.neg,.string (encS z.num),.string (encS z.den)],.bool true]:=hR.dep ⟨5,.data⟩ (by simp) rfl (by decide) (by decide);refine pSq ?_;go_simp;exact hK _ _ rfl rB
    ·simp at ho;subst ho;have e7:av_.tmps.getD 33 undef=.bool true:=hR.dep ⟨7,.data⟩ (by simp) rfl (by decide) (by decide);refine pSq ?_;go_simp;exact hK _ _ rfl rB
   ·intro ov_ av_ w ho K hK;simp at ho;subst ho;refine pSq ?_;go_simp;exact hK _ _ _ rfl (Nat.le_refl _) (heap_alloc_new _ _) (rB.alloc (Nat.le_refl _) _)
   ·intro ov_ listed av_ w g hR hv hg hz K hK;have ho:=hR.at_;simp at ho;subst ho;have e8:av_.tmps.getD 6 undef=.pointer (some ⟨g,0,none⟩):=hv;have e6:av_.tmps.getD 32 undef=.agg #[.bool z.neg,.string (encS z.num),.string (encS z.den)]:=hR.dep ⟨6,.data⟩ (by simp) rfl (by decide) (by decide);have cz0:w.cell? ⟨g,0,none⟩=some (.bool false):=by rw [Lib.cell_of_heap hz];rfl
    have fz0:w.frozen? ⟨g,0,none⟩=false:=frz0 hz 0;have cz1:w.cell? ⟨g,1,none⟩=some (.string ⟨#[]⟩):=by rw [Lib.cell_of_heap hz];rfl
    have fz1:w.frozen? ⟨g,1,none⟩=false:=frz0 hz 1;have cz2:w.cell? ⟨g,2,none⟩=some (.string ⟨#[]⟩):=by rw [Lib.cell_of_heap hz];rfl
    have fz2:w.frozen? ⟨g,2,none⟩=false:=frz0 hz 2;refine pSq ?_;go_simp;exact hK _ (by simp [World.setCell,Array.getElem?_modify,hz]) (((rB.setCell (p:=⟨g,0,none⟩) hg (.bool z.neg)).setCell (p:=⟨g,1,none⟩) hg (.string (encS z.num))).setCell (p:=⟨g,2,none⟩) hg (.string (encS z.den)))
   ·intro sv_ w g hS hg0 hge hN hb;have e8:sv_ 6=.pointer (some ⟨g,0,none⟩):=hg0;simp only [over,ovL,Nat.reduceAdd,Nat.reduceLeDiff,Nat.reduceLT];obtain ⟨bk6,hg1⟩:∃b,g=b:=⟨_,rfl⟩;rw [hg1] at e8 hge hN;clear hg1;have HG6_12:Hid (n0≤bk6):=hD (by rw [HN0.out];exact Nat.le_trans HB.out.size hge);have HL6_12:=hD (Nat.lt_of_lt_of_le (Array.getElem?_eq_some_iff.1 HX2_2.out).1 hge);have HX6_12:=hD hN;clear hN hge hg0;have HX1_1:=uH hb HX1_1;have HX2_2:=uH hb HX2_2;have HB:=mH HB hb;obtain ⟨w6,hw⟩:∃w8,w8=w:=⟨_,rfl⟩;subst hw;rw [e8];clear hS hb e8;obtain ⟨k13a,k13b,k13c⟩:=c3 HX6_12;obtain ⟨W7,hW7,HX2_2,HB,ho,f14a,f14b,f14c,k14a,k14b,k14c⟩:=putR HX2_2 HB HN0 HG2_2 z;have HX1_1:=ho _ _ (en1 HL2_2) HX1_1;have HX6_12:=ho _ _ (ne1 HL6_12) HX6_12;clear ho;go_wp2_with fail;clear k13a k13b k13c f14a f14b f14c k14a k14b k14c hW7;refine bodyPost_ret (rC1 HX2_2.out) rfl ?_
    exact ⟨rfl,by rw [HN0.out];exact HB.out⟩
  ·have HZ:=hD hr0;clear hr0;have k15:w3.cell? ⟨bk1,0,none⟩=some (.bool true):=by rw [Lib.cell_of_heap HX1_1.out];rfl
   have q16:=(show (encS r).toList.isEmpty=false from by rw [enc_empty];simp [HZ.out]);have q17:=(enc_not_nil HZ.out);have HQ:=HQ1.out rfl HZ.out;rw [←HQ] at HAD;clear HQ;have CA:Hid (∀w,Gv 98 #[.string (encS u),.string (encS 1)] w (.string (encS Q))):=HAD;go_wp2_with fail;clear k15 q16 q17;refine (C2.out _).mono ?_;rintro e w8 ⟨rfl,hb⟩;have HX1_1:=uH hb HX1_1;have HX2_2:=uH hb HX2_2;have HB:=mH HB hb;clear hb;go_wp2_with fail;refine (CA.out _).mono ?_;rintro e w9 ⟨rfl,hb⟩;have HX1_1:=uH hb HX1_1;have HX2_2:=uH hb HX2_2;have HB:=mH HB hb;clear hb;go_wp2_with fail
   refine wp_region_box (w0:=w9) (by kernel_rfl) (fun ix v _=>v=EMoWhole_r_4_3 z Q bk1 ix) 8 9 (.cells #[.bool false,.string ⟨#[]⟩,.string ⟨#[]⟩] 26 (0,0)) (.cells #[.bool z.neg,.string (encS z.num),.string (encS z.den)] 26 (0,0)) (fun t=>(decide (6≤t)&&decide (t<8))||(decide (26≤t)&&decide (t<34))) (by kernel_rfl) (by kernel_rfl) (by kernel_rfl) (by decide) (by decide) (by kernel_rfl) rfl (fun _ _ _ _ _ h=>h) ?_ ?_ ?_ ?_
   ·intro i hi hia his ov_ listed av_ w hR K hK;have ho:=hR.at_;have hi:i<11:=hi;have hii:i=0∨i=1∨i=2∨i=3∨i=4∨i=5∨i=6∨i=7∨i=10:=by omega
    rcases hii with rfl|rfl|rfl|rfl|rfl|rfl|rfl|rfl|rfl
    ·simp at ho;subst ho;have b1:av_.tmps.getD 1 undef=.pointer (some ⟨bk1,0,none⟩):=hR.b 1;refine pSq ?_;go_simp;exact hK _ _ rfl rB
    ·simp at ho;subst ho;have e0:av_.tmps.getD 27 undef=.pointer (some ⟨bk1,0,none⟩):=hR.dep ⟨0,.data⟩ (by simp) rfl (by decide) (by decide);have cx0:w.cell? ⟨bk1,0,none⟩=some (.bool true):=by rw [Lib.cell_of_heap (hpU hR.below HX1_1.out)];rfl
     refine pSq ?_;go_simp;exact hK _ _ rfl rB
    ·simp at ho;subst ho;have b3:av_.tmps.getD 3 undef=.string (encS Q):=hR.b 3;refine pSq ?_;go_simp;exact hK _ _ rfl rB
    ·simp at ho;subst ho;refine pSq ?_;go_simp;refine (C2.out w).mono ?_;rintro e w' ⟨rfl,hb⟩;exact hK _ _ (rfl) hb
    ·simp at ho;subst ho;have e1:av_.tmps.getD 28 undef=.bool true:=hR.dep ⟨1,.data⟩ (by simp) rfl (by decide) (by decide);have e2:av_.tmps.getD 29 undef=.string (encS Q):=hR.dep ⟨2,.data⟩ (by simp) rfl (by decide) (by decide);have e3:av_.tmps.getD 30 undef=.string (encS 1):=hR.dep ⟨3,.data⟩ (by simp) rfl (by decide) (by decide);refine pSq ?_;go_simp;refine (C3.out w).mono ?_;rintro e w' ⟨rfl,hb⟩;exact hK _ _ (rfl) hb
    ·simp at ho;subst ho;have e4:av_.tmps.getD 31 undef=.tuple #[.agg #[.bool z.neg,.string (encS z.num),.string (encS z.den)],.bool true]:=hR.dep ⟨4,.data⟩ (by simp) rfl (by decide) (by decide);refine pSq ?_;go_simp;exact hK _ _ rfl rB
    ·simp at ho;subst ho;have e5:av_.tmps.getD 26 undef=.tuple #[.agg #[.bool z.neg,.string (encS z.num),.string (encS z.den)],.bool true]:=hR.dep ⟨5,.data⟩ (by simp) rfl (by decide) (by decide);refine pSq ?_;go_simp;exact hK _ _ rfl rB
    ·simp at ho;subst ho;have e5:av_.tmps.getD 26 undef=.tuple #[.agg #[.bool z.neg,.string (encS z.num),.string (encS z.den)],.bool true]:=hR.dep ⟨5,.data⟩ (by simp) rfl (by decide) (by decide);refine pSq ?_;go_simp;exact hK _ _ rfl rB
    ·simp at ho;subst ho;have e7:av_.tmps.getD 33 undef=.bool true:=hR.dep ⟨7,.data⟩ (by simp) rfl (by decide) (by decide);refine pSq ?_;go_simp;exact hK _ _ rfl rB
   ·intro ov_ av_ w ho K hK;simp at ho;subst ho;refine pSq ?_;go_simp;exact hK _ _ _ rfl (Nat.le_refl _) (heap_alloc_new _ _) (rB.alloc (Nat.le_refl _) _)
   ·intro ov_ listed av_ w g hR hv hg hz K hK;have ho:=hR.at_;simp at ho;subst ho;have e8:av_.tmps.getD 6 undef=.pointer (some ⟨g,0,none⟩):=hv;have e6:av_.tmps.getD 32 undef=.agg #[.bool z.neg,.string (encS z.num),.string (encS z.den)]:=hR.dep ⟨6,.data⟩ (by simp) rfl (by decide) (by decide);have cz0:w.cell? ⟨g,0,none⟩=some (.bool false):=by rw [Lib.cell_of_heap hz];rfl
    have fz0:w.frozen? ⟨g,0,none⟩=false:=frz0 hz 0;have cz1:w.cell? ⟨g,1,none⟩=some (.string ⟨#[]⟩):=by rw [Lib.cell_of_heap hz];rfl
    have fz1:w.frozen? ⟨g,1,none⟩=false:=frz0 hz 1;have cz2:w.cell? ⟨g,2,none⟩=some (.string ⟨#[]⟩):=by rw [Lib.cell_of_heap hz];rfl
    have fz2:w.frozen? ⟨g,2,none⟩=false:=frz0 hz 2;refine pSq ?_;go_simp;exact hK _ (by simp [World.setCell,Array.getElem?_modify,hz]) (((rB.setCell (p:=⟨g,0,none⟩) hg (.bool z.neg)).setCell (p:=⟨g,1,none⟩) hg (.string (encS z.num))).setCell (p:=⟨g,2,none⟩) hg (.string (encS z.den)))
   ·intro sv_ w g hS hg0 hge hN hb;have e8:sv_ 6=.pointer (some ⟨g,0,none⟩):=hg0;simp only [over,ovL,Nat.reduceAdd,Nat.reduceLeDiff,Nat.reduceLT];obtain ⟨bk6,hg1⟩:∃b,g=b:=⟨_,rfl⟩;rw [hg1] at e8 hge hN;clear hg1;have HG6_18:Hid (n0≤bk6):=hD (by rw [HN0.out];exact Nat.le_trans HB.out.size hge);have HL6_18:=hD (Nat.lt_of_lt_of_le (Array.getElem?_eq_some_iff.1 HX2_2.out).1 hge);have HX6_18:=hD hN;clear hN hge hg0;have HX1_1:=uH hb HX1_1;have HX2_2:=uH hb HX2_2;have HB:=mH HB hb;obtain ⟨w10,hw⟩:∃w8,w8=w:=⟨_,rfl⟩;subst hw;rw [e8];clear hS hb e8;obtain ⟨k19a,k19b,k19c⟩:=c3 HX6_18;obtain ⟨W11,hW11,HX2_2,HB,ho,f20a,f20b,f20c,k20a,k20b,k20c⟩:=putR HX2_2 HB HN0 HG2_2 z;have HX1_1:=ho _ _ (en1 HL2_2) HX1_1;have HX6_18:=ho _ _ (ne1 HL6_18) HX6_18;clear ho;go_wp2_with fail;clear k19a k19b k19c f20a f20b f20c k20a k20b k20c hW11;refine bodyPost_ret (rC1 HX2_2.out) rfl ?_
    exact ⟨rfl,by rw [HN0.out];exact HB.out⟩
end Go.Proofs.YtabfjecegpaoaaaGreatDoor
