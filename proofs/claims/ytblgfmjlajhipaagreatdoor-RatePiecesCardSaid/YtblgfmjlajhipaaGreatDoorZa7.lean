/- Contracts that the proofs of this seat share. Each theorem names its conditions. -/

import Derived.Test.YtblgfmjlajhipaaGreatDoorZa6
set_option maxHeartbeats 16000000
set_option linter.unusedVariables false
namespace Go.Proofs.YtblgfmjlajhipaaGreatDoor
open Go.RowKit Go.Shelf
open Dgt
theorem encS_ne {n:Nat} (h:n≠0):encS n≠⟨#[]⟩:=fun e=>h (by
 have:=congrArg numS e;rw [numS_encS] at this;exact this)
theorem enc_some {n:Nat} (h:n≠0):(encS n).toList.isEmpty=false:=by
 have h1:=encS_ne h;rw [ByteArray.toList_eq];cases hl:(encS n).data.toList with
 | nil=>exact absurd (by
   have:(encS n).data=#[]:=Array.toList_eq_nil_iff.1 hl;cases he:encS n with
   | mk d=>rw [he] at this;simp at this;rw [this]) h1
 | cons _ _=>rfl
theorem row_set {W:World} {b:Nat} {x0 x1 x2:Value} {t:TypeId} (h:W.heap[b]? =some (.cells #[x0,x1,x2] t (0,0))) (u0 u1 u2:Value) :
  (((W.setCell ⟨b,0,none⟩ u0).setCell ⟨b,1,none⟩ u1).setCell ⟨b,2,none⟩ u2).heap[b]? =some (.cells #[u0,u1,u2] t (0,0)):=by
 simp [World.setCell,Array.getElem?_modify,h]
theorem rwC {W:World} {b:Nat} {x0 x1 x2:Value} {t:TypeId} (h:W.heap[b]? =some (.cells #[x0,x1,x2] t (0,0))) :
  (W.cell? ⟨b,0,none⟩=some x0∧W.cell? ⟨b,1,none⟩=some x1∧W.cell? ⟨b,2,none⟩=some x2)∧∀j,W.frozen? ⟨b,j,none⟩=false:=by
 refine ⟨⟨?_,?_,?_⟩,fun j=>Lib.frozen_of_heap h _⟩<;>(rw [Lib.cell_of_heap h];rfl)
theorem rC1 {fn:Func} {p:Tmp} {tmps:Array Value} {w:World} {g:Nat} {x y z:Value} {fr:Nat × Nat} (hg:w.heap[g]? =some (.cells #[x,y,z] 29 fr)) (h:fn.results=#[.cell p 29]:=by exact rfl) (hp:tmps.getD p undef=.pointer (some ⟨g,0,none⟩):=by exact rfl):(results fn tmps).run Tryz.prog w=.ok (.agg #[x,y,z]) w:=results_cell_row h _ _ g 29 _ fr _ hp hg Tryz.underlying29 rfl (by kernel_rfl)
theorem enc_empty (m:Nat):(encS m).toList.isEmpty=decide (m=0):=by
 by_cases h:m=0
 ·subst h;rw [encS_zero,ByteArray.toList_eq];rfl
 ·rw [enc_some h];simp [h]
theorem below_row {A W:World} {b:Nat} (h:Below A.heap.size A W) (hb:A.heap.size≤b) (u0 u1 u2:Value):Below A.heap.size A (((W.setCell ⟨b,0,none⟩ u0).setCell ⟨b,1,none⟩ u1).setCell ⟨b,2,none⟩ u2) :=
 ((h.setCell (p:=⟨b,0,none⟩) hb u0).setCell (p:=⟨b,1,none⟩) hb u1).setCell (p:=⟨b,2,none⟩) hb u2
theorem positive_any (n:ByteArray) (w:World) (hn:n.size≤100000000) :
  Gv 103 #[.agg #[.string ⟨#[]⟩],.string n] w (.bool (rightN n&&decide (0<numS n))):=by
 unfold Gv;have HR:=hD (Right_any n · hn);have HC:=hD (Cmp_any n ⟨#[]⟩ · hn (by decide));go_enter Tryz.func103,Tryz.ntmps103;go_wp2_with fail;refine (HR.out _).mono ?_;rintro e w1 ⟨rfl,rfl⟩;have c0:(w.alloc (.cells #[.string ⟨#[]⟩] 117)).cell? ⟨w.heap.size,0,none⟩=some (.string ⟨#[]⟩):=(box_cell (heap_alloc_new w _)).1
 by_cases hr:rightN n=true
 ·rw [hr];go_wp2_with fail;refine (HC.out _).mono ?_;rintro e w2 ⟨rfl,hb⟩;have HB:=hD (((Below.refl w.heap.size w).alloc (Nat.le_refl _) (.cells #[.string ⟨#[]⟩] 117)).trans (hb.mono (by simp)));have he:numS (⟨#[]⟩:ByteArray)=0:=by rfl
  rw [he]
  by_cases h0:numS n=0
  ·rw [h0,cmpI_eq];clear hb;go_wp2_with fail;go_ret;exact ⟨by simp [hr,h0],HB.out⟩
  ·rw [cmpI_gt (by omega:0<numS n)];have HP:Hid (0<numS n):=hD (by omega);clear hb h0;go_wp2_with fail;go_ret;exact ⟨by simp [HP.out,hr],HB.out⟩
 ·have hf:rightN n=false:=by simpa using hr
  rw [hf];clear hr;go_wp2_with fail;go_ret;exact ⟨by simp [hf],(Below.refl w.heap.size w).alloc (Nat.le_refl _) _⟩
set_option maxRecDepth 100000 in
theorem lowest_n (neg:Bool) (num den:ByteArray) (n d:Nat) (w:World) (hn:numS num=n) (hd:numS den=d) (d0:0<d) (sn:num.size≤10000000) (sd:den.size≤10000000) :
  Gv 100 #[.bool neg,.string num,.string den] w (rtV (low neg n d)):=by
 unfold Gv;obtain ⟨g,hg⟩:∃g,Nat.gcd n d=g:=⟨_,rfl⟩;have hgd:g≤d:=by rw [←hg];exact Nat.gcd_le_right _ d0
 have sg:(encS g).size≤100000000:=Nat.le_trans (encS_size_lt ((Sz.num den).le (by omega))) (by omega);have HG:=hD (fun w=>Gcd_n hn hd (by omega) (by omega) w);rw [hg] at HG;have HQ:=hD (fun w=>Quo_n hn (numS_encS g) (by omega) sg w);have HQ2:=hD (fun w=>Quo_n hd (numS_encS g) (by omega) sg w);have HL:Hid (low neg n d=⟨neg&&decide (0<n/g),n/g,d/g⟩):=hD (by unfold low;rw [hg]);obtain ⟨q,hq⟩:∃q,n/g=q:=⟨_,rfl⟩;rw [hq] at HQ HL;rw [HL.out];clear hg hgd sg hn hd d0 sn sd hq;go_enter Tryz.func100,Tryz.ntmps100;go_wp2_with fail;refine (HG.out _).mono ?_;rintro e w1 ⟨rfl,hb1⟩;go_wp2_with fail;refine (HQ.out _).mono ?_;rintro e w2 ⟨rfl,hb2⟩;go_wp2_with fail;refine (HQ2.out _).mono ?_;rintro e w3 ⟨rfl,hb3⟩;have hr:=hpU hb3 (hpU hb2 (hpU hb1 (heap_alloc_new w (.cells #[.bool false,.string ⟨#[]⟩,.string ⟨#[]⟩] 29))));obtain ⟨⟨c0,c1,c2⟩,hf⟩:=rwC hr;have hf0:=hf 0;have hf1:=hf 1;have hf2:=hf 2
 have HROW:=hD hr;have HB:=hD ((((Below.refl w.heap.size w).alloc (Nat.le_refl _) (.cells #[.bool false,.string ⟨#[]⟩,.string ⟨#[]⟩] 29)).trans (hb1.mono (by simp))).trans ((hb2.trans (hb3.mono hb2.size)).mono (by have:=hb1.size;simp at this;omega)));clear hr hf hb1 hb2 hb3;cases neg
 all_goals
  go_wp2_with fail;refine bodyPost_ret (results_cell_row rfl _ _ w.heap.size 29 _ (0,0) _ rfl (row_set HROW.out _ _ _) Tryz.underlying29 rfl (by kernel_rfl)) rfl ?_;refine ⟨?_,below_row HB.out (Nat.le_refl _) _ _ _⟩;simp [rtV,enc_empty,Nat.pos_iff_ne_zero]
theorem bytes_ext {a b:ByteArray}:a.toList=b.toList↔a=b:=by
 rw [ByteArray.toList_eq,ByteArray.toList_eq]
 constructor
 ·intro h;cases a;cases b;simp at h;rw [h]
 ·intro h;rw [h]
theorem eql3 {x y z:Prop} [Decidable x] [Decidable y] [Decidable z] (w:World) :
  (if x then if y then if z then Result.ok (Next.value (Value.bool true)) w else Result.ok (Next.value (Value.bool false)) w else Result.ok (Next.value (Value.bool false)) w else Result.ok (Next.value (Value.bool false)) w)=Result.ok (Next.value (Value.bool (decide x&&(decide y&&decide z)))) w:=by
 by_cases hx:x<;>by_cases hy:y<;>by_cases hz:z<;>simp [hx,hy,hz]
def sameR (neg:Bool) (n d:ByteArray):Bool:=((low neg (numS n) (numS d)).neg==neg)&&(decide (encS (low neg (numS n) (numS d)).num=n)&&decide (encS (low neg (numS n) (numS d)).den=d))
theorem right_same (neg:Bool) (n d:ByteArray):((rightN d&&decide (0<numS d))&&rightN n&&sameR neg n d)=rightR neg n d:=by
 by_cases h1:rightN d=true
 ·by_cases h2:rightN n=true
  ·by_cases h3:0<numS d
   ·have hd:=rightN_eq h1;have hn:=rightN_eq h2;unfold rightR sameR;rw [h1,h2];simp only [Bool.true_and,Bool.and_true,decide_eq_true h3];obtain ⟨a,ha⟩:∃a,numS n=a:=⟨_,rfl⟩;obtain ⟨b,hb⟩:∃b,numS d=b:=⟨_,rfl⟩;rw [ha] at hn ⊢;rw [hb] at hd h3 ⊢;have e1:(encS (a/Nat.gcd a b)=n)↔(a/Nat.gcd a b=a):=by rw [←hn];exact ⟨encS_inj,fun h=>by rw [h]⟩
    have e2:(encS (b/Nat.gcd a b)=d)↔(b/Nat.gcd a b=b):=by rw [←hd];exact ⟨encS_inj,fun h=>by rw [h]⟩
    have e3:b/Nat.gcd a b=b↔Nat.gcd a b=1:=by
     have hg:0<Nat.gcd a b:=Nat.gcd_pos_of_pos_right a h3
     constructor
     ·intro h;rcases Nat.lt_or_ge 1 (Nat.gcd a b) with h4|h4
      ·have:=Nat.div_lt_self h3 h4;omega
      ·omega
     ·intro h;rw [h,Nat.div_one]
    simp only [low,e1,e2,e3]
    by_cases hg:Nat.gcd a b=1
    ·simp only [hg,Nat.div_one,decide_true,Bool.and_true,Bool.true_and];cases neg<;>simp
    ·simp [hg]
   ·unfold rightR;simp [h3]
  ·unfold rightR;simp [h2]
 ·unfold rightR;simp [h1]
def ERR (bx:Nat) (neg:Bool) (n d:ByteArray) (B1 R B2 B3 B4:Bool) (L:Rt):Nat→Value
 | 0=>.func (.func 103) #[.agg #[.string ⟨#[]⟩]] #[]
 | 1=>.pointer (some ⟨bx,2,none⟩)
 | 2=>.string d
 | 3=>.bool B1
 | 4=>.bool B1
 | 5=>(bif B1 then .pointer (some ⟨bx,1,none⟩) else undef)
 | 6=>(bif B1 then .string n else undef)
 | 7=>(bif B1 then .bool R else undef)
 | 8=>.bool B2
 | 9=>.bool B2
 | 10=>(bif B2 then .pointer (some ⟨bx,0,none⟩) else undef)
 | 11=>(bif B2 then .bool neg else undef)
 | 12=>(bif B2 then .pointer (some ⟨bx,1,none⟩) else undef)
 | 13=>(bif B2 then .string n else undef)
 | 14=>(bif B2 then .pointer (some ⟨bx,2,none⟩) else undef)
 | 15=>(bif B2 then .string d else undef)
 | 16=>(bif B2 then rtV L else undef)
 | 17=>(bif B2 then ratV neg n d else undef)
 | 18=>(bif B2 then .bool B3 else undef)
 | 19=>.bool B4
 | 20=>.bool B4
 | _=>undef
set_option maxRecDepth 100000 in
theorem RatRight_any (neg:Bool) (n d:ByteArray) (w:World) (sn:n.size≤10000000) (sd:d.size≤10000000) :
  Gv 64 #[ratV neg n d] w (.bool (rightR neg n d)):=by
 unfold Gv;obtain ⟨L,hL⟩:∃L,low neg (numS n) (numS d)=L:=⟨_,rfl⟩;obtain ⟨B1,hB1⟩:∃b,(rightN d&&decide (0<numS d))=b:=⟨_,rfl⟩;obtain ⟨R,hR⟩:∃b,rightN n=b:=⟨_,rfl⟩;obtain ⟨B2,hB2⟩:∃b,b=(B1&&R):=⟨_,rfl⟩;obtain ⟨B3,hB3⟩:∃b,sameR neg n d=b:=⟨_,rfl⟩;obtain ⟨B4,hB4⟩:∃b,b=(B2&&B3):=⟨_,rfl⟩;have HPOS:=hD (fun w=>positive_any d w (by omega));have HRN:=hD (fun w=>Right_any n w (by omega));simp only [hB1] at HPOS;simp only [hR] at HRN;have HLOW:Hid (B2=true→∀w,Gv 100 #[.bool neg,.string n,.string d] w (rtV L)):=hD fun h w=>by
  rw [←hL];refine lowest_n neg n d _ _ w rfl rfl ?_ sn sd;rw [hB2, ←hB1] at h;simp only [Bool.and_eq_true,decide_eq_true_eq] at h;exact h.1.2
 have HEND:Hid (B4=rightR neg n d):=hD (by rw [hB4,hB2, ←hB1, ←hR, ←hB3];exact right_same neg n d);have HEQ:Hid ((decide (L.neg=neg)&&(decide ((encS L.num).toList=n.toList)&&decide ((encS L.den).toList=d.toList)))=B3):=hD (by
  rw [←hB3, ←hL];unfold sameR;simp only [bytes_ext,Bool.beq_eq_decide_eq])
 have HB2:=hD hB2;have HB4:=hD hB4;rw [←HEND.out];clear hL hB1 hR hB2 hB3 hB4 sn sd;unfold ratV;go_enter Tryz.func64,Tryz.ntmps64;go_wp2_with fail;obtain ⟨w0,hw0⟩:∃w0,w.alloc (.cells #[.bool neg,.string n,.string d] 29)=w0:=⟨_,rfl⟩;obtain ⟨bx,hbx⟩:∃b,w.heap.size=b:=⟨_,rfl⟩;have HB0:Hid (Below w.heap.size w w0):=hD (by rw [←hw0];exact (Below.refl _ w).alloc (Nat.le_refl _) _);have HX0:Hid (w0.heap[bx]? =some (.cells #[.bool neg,.string n,.string d] 29 (0,0))):=hD (by rw [←hw0, ←hbx];exact heap_alloc_new w _);have HCX:Hid (∀W',Below w0.heap.size w0 W' →W'.cell? ⟨bx,0,none⟩=some (.bool neg)∧W'.cell? ⟨bx,1,none⟩=some (.string n)∧W'.cell? ⟨bx,2,none⟩=some (.string d)):=hD fun W' h=>(rwC (hpU h HX0.out)).1
 rw [hw0,hbx];clear hw0 hbx;refine wpVl (w:=w0) (by kernel_rfl) (fun ix v _=>v=ERR bx neg n d B1 R B2 B3 B4 L ix) (fun t=>(decide (2≤t)&&decide (t<3))||(decide (6≤t)&&decide (t<26))) (by kernel_rfl) (by kernel_rfl) (by kernel_rfl) (fun _ _ _ _ _ h=>h) ?_ ?_
 ·intro i hi o listed a w hR K hK;have ho:=hR.at_;have hi:i<21:=hi;have hii:i=0∨i=1∨i=2∨i=3∨i=4∨i=5∨i=6∨i=7∨i=8∨i=9∨i=10∨i=11∨i=12∨i=13∨i=14∨i=15∨i=16∨i=17∨i=18∨i=19∨i=20:=by omega
  rcases hii with rfl|rfl|rfl|rfl|rfl|rfl|rfl|rfl|rfl|rfl|rfl|rfl|rfl|rfl|rfl|rfl|rfl|rfl|rfl|rfl|rfl
  ·simp at ho;subst ho;have b3:a.tmps.getD 3 undef=.func (.func 103) #[.agg #[.string ⟨#[]⟩]] #[]:=hR.b 3;refine pSq ?_;go_simp;exact hK _ _ rfl rB
  ·simp at ho;subst ho;have b1:a.tmps.getD 1 undef=.pointer (some ⟨bx,0,none⟩):=hR.b 1;refine pSq ?_;go_simp;exact hK _ _ rfl rB
  ·simp at ho;subst ho;have e1:a.tmps.getD 7 undef=.pointer (some ⟨bx,2,none⟩):=hR.d 1;obtain ⟨cx0,cx1,cx2⟩:=HCX.out w hR.below;refine pSq ?_;go_simp;exact hK _ _ rfl rB
  ·simp at ho;subst ho;have e0:a.tmps.getD 6 undef=.func (.func 103) #[.agg #[.string ⟨#[]⟩]] #[]:=hR.d 0;have e2:a.tmps.getD 8 undef=.string d:=hR.d 2;refine pSq ?_;go_simp;refine (HPOS.out w).mono ?_;rintro e w' ⟨rfl,hb⟩;exact hK _ _ (rfl) hb
  ·simp at ho;subst ho;have e3:a.tmps.getD 9 undef=.bool B1:=hR.d 3;refine pSq ?_;go_simp;exact hK _ _ rfl rB
  ·simp at ho;subst ho;have e4:a.tmps.getD 10 undef=.bool B1:=hR.g 4;have b1:a.tmps.getD 1 undef=.pointer (some ⟨bx,0,none⟩):=hR.b 1;cases B1
   ·refine gSkp rfl rfl rfl (b:=true) e4 (by decide) ?_;exact hK _ _ rfl rB
   ·refine gSq (b:=true) e4 ?_;go_simp;exact hK _ _ rfl rB
  ·simp at ho;subst ho;have e5:a.tmps.getD 11 undef=(bif B1 then .pointer (some ⟨bx,1,none⟩) else undef):=hR.d 5;have e4:a.tmps.getD 10 undef=.bool B1:=hR.g 4;obtain ⟨cx0,cx1,cx2⟩:=HCX.out w hR.below;cases B1
   ·refine gSkp rfl rfl rfl (b:=true) e4 (by decide) ?_;exact hK _ _ rfl rB
   ·refine gSq (b:=true) e4 ?_;go_simp;exact hK _ _ rfl rB
  ·simp at ho;subst ho;have e6:a.tmps.getD 12 undef=(bif B1 then .string n else undef):=hR.d 6;have e4:a.tmps.getD 10 undef=.bool B1:=hR.g 4;cases B1
   ·refine gSkp rfl rfl rfl (b:=true) e4 (by decide) ?_;exact hK _ _ rfl rB
   ·refine gSq (b:=true) e4 ?_;go_simp;refine (HRN.out w).mono ?_;rintro e w' ⟨rfl,rfl⟩;exact hK _ _ rfl rB
  ·simp at ho;subst ho;have e4:a.tmps.getD 10 undef=.bool B1:=hR.d 4;have e7:a.tmps.getD 13 undef=(bif B1 then .bool R else undef):=hR.d 7;cases B1
   ·refine pSq ?_;go_simp;exact hK _ _ (by show Value.bool _=Value.bool B2;rw [HB2.out];rfl) rB
   ·refine pSq ?_;go_simp;exact hK _ _ (by show Value.bool _=Value.bool B2;rw [HB2.out];rfl) rB
  ·simp at ho;subst ho;have e8:a.tmps.getD 14 undef=.bool B2:=hR.d 8;refine pSq ?_;go_simp;exact hK _ _ rfl rB
  ·simp at ho;subst ho;have e9:a.tmps.getD 15 undef=.bool B2:=hR.g 9;have b1:a.tmps.getD 1 undef=.pointer (some ⟨bx,0,none⟩):=hR.b 1;cases B2
   ·refine gSkp rfl rfl rfl (b:=true) e9 (by decide) ?_;exact hK _ _ rfl rB
   ·refine gSq (b:=true) e9 ?_;go_simp;exact hK _ _ rfl rB
  ·simp at ho;subst ho;have e10:a.tmps.getD 16 undef=(bif B2 then .pointer (some ⟨bx,0,none⟩) else undef):=hR.d 10;have e9:a.tmps.getD 15 undef=.bool B2:=hR.g 9;obtain ⟨cx0,cx1,cx2⟩:=HCX.out w hR.below;cases B2
   ·refine gSkp rfl rfl rfl (b:=true) e9 (by decide) ?_;exact hK _ _ rfl rB
   ·refine gSq (b:=true) e9 ?_;go_simp;exact hK _ _ rfl rB
  ·simp at ho;subst ho;have e9:a.tmps.getD 15 undef=.bool B2:=hR.g 9;have b1:a.tmps.getD 1 undef=.pointer (some ⟨bx,0,none⟩):=hR.b 1;cases B2
   ·refine gSkp rfl rfl rfl (b:=true) e9 (by decide) ?_;exact hK _ _ rfl rB
   ·refine gSq (b:=true) e9 ?_;go_simp;exact hK _ _ rfl rB
  ·simp at ho;subst ho;have e12:a.tmps.getD 18 undef=(bif B2 then .pointer (some ⟨bx,1,none⟩) else undef):=hR.d 12;have e9:a.tmps.getD 15 undef=.bool B2:=hR.g 9;obtain ⟨cx0,cx1,cx2⟩:=HCX.out w hR.below;cases B2
   ·refine gSkp rfl rfl rfl (b:=true) e9 (by decide) ?_;exact hK _ _ rfl rB
   ·refine gSq (b:=true) e9 ?_;go_simp;exact hK _ _ rfl rB
  ·simp at ho;subst ho;have e9:a.tmps.getD 15 undef=.bool B2:=hR.g 9;have b1:a.tmps.getD 1 undef=.pointer (some ⟨bx,0,none⟩):=hR.b 1;cases B2
   ·refine gSkp rfl rfl rfl (b:=true) e9 (by decide) ?_;exact hK _ _ rfl rB
   ·refine gSq (b:=true) e9 ?_;go_simp;exact hK _ _ rfl rB
  ·simp at ho;subst ho;have e14:a.tmps.getD 20 undef=(bif B2 then .pointer (some ⟨bx,2,none⟩) else undef):=hR.d 14;have e9:a.tmps.getD 15 undef=.bool B2:=hR.g 9;obtain ⟨cx0,cx1,cx2⟩:=HCX.out w hR.below;cases B2
   ·refine gSkp rfl rfl rfl (b:=true) e9 (by decide) ?_;exact hK _ _ rfl rB
   ·refine gSq (b:=true) e9 ?_;go_simp;exact hK _ _ rfl rB
  ·simp at ho;subst ho;have e11:a.tmps.getD 17 undef=(bif B2 then .bool neg else undef):=hR.d 11;have e13:a.tmps.getD 19 undef=(bif B2 then .string n else undef):=hR.d 13;have e15:a.tmps.getD 21 undef=(bif B2 then .string d else undef):=hR.d 15;have e9:a.tmps.getD 15 undef=.bool B2:=hR.g 9;cases B2
   ·refine gSkp rfl rfl rfl (b:=true) e9 (by decide) ?_;exact hK _ _ rfl rB
   ·refine gSq (b:=true) e9 ?_;go_simp;refine (HLOW.out rfl w).mono ?_;rintro e w' ⟨rfl,hb⟩;exact hK _ _ (rfl) hb
  ·simp at ho;subst ho;have e9:a.tmps.getD 15 undef=.bool B2:=hR.g 9;have b1:a.tmps.getD 1 undef=.pointer (some ⟨bx,0,none⟩):=hR.b 1;obtain ⟨cx0,cx1,cx2⟩:=HCX.out w hR.below;cases B2
   ·refine gSkp rfl rfl rfl (b:=true) e9 (by decide) ?_;exact hK _ _ rfl rB
   ·refine gSq (b:=true) e9 ?_;go_simp;exact hK _ _ rfl rB
  ·simp at ho;subst ho;have e16:a.tmps.getD 22 undef=(bif B2 then rtV L else undef):=hR.d 16;have e17:a.tmps.getD 23 undef=(bif B2 then ratV neg n d else undef):=hR.d 17;have e9:a.tmps.getD 15 undef=.bool B2:=hR.g 9;have hq:=HEQ.out;simp only [rtV,ratV] at e16 e17;cases B2
   ·refine gSkp rfl rfl rfl (b:=true) e9 (by decide) ?_;exact hK _ _ rfl rB
   ·refine gSq (b:=true) e9 ?_;go_simp;rw [eql3,hq];go_simp;exact hK _ _ rfl rB
  ·simp at ho;subst ho;have e9:a.tmps.getD 15 undef=.bool B2:=hR.d 9;have e18:a.tmps.getD 24 undef=(bif B2 then .bool B3 else undef):=hR.d 18;cases B2
   ·refine pSq ?_;go_simp;exact hK _ _ (by show Value.bool _=Value.bool B4;rw [HB4.out];rfl) rB
   ·refine pSq ?_;go_simp;exact hK _ _ (by show Value.bool _=Value.bool B4;rw [HB4.out];rfl) rB
  ·simp at ho;subst ho;have e19:a.tmps.getD 25 undef=.bool B4:=hR.d 19;refine pSq ?_;go_simp;exact hK _ _ rfl rB
 ·intro s w hS hb;have e20:s 2=.bool B4:=hS 20 (by decide);simp only [over,ovL,Nat.reduceAdd,Nat.reduceLeDiff,Nat.reduceLT];have HBX:=hD (HB0.out.trans (hb.mono HB0.out.size));rw [e20];clear hS hb e20;go_wp2_with fail;go_ret;exact ⟨rfl,HBX.out⟩
theorem rCl2 {P:Program} {fn:Func} {p u:Tmp} {ty:TypeId} (h:fn.results=#[.cell p ty,.tmp u]) (tmps:Array Value) (w:World) (g:Nat) (t:TypeId) (cs:Array Value) (fr:Nat × Nat) (d:TypeDesc)
  (hp:tmps.getD p undef=.pointer (some ⟨g,0,none⟩)) (hg:w.heap[g]? =some (.cells cs t fr))
  (hu:P.underlying ty=some d) (hd:(match d with|.struct _|.array _ _=>true|_=>false)=true) (hi:(P.info? ty).map (·.size)=some cs.size) :
  (results fn tmps).run P w=.ok (.tuple #[.agg cs,tmps.getD u undef]) w:=by
 rw [results_cell_tmp h,hp];simp [asAddr,run_loadVar_row w g t ty cs fr d hg hu hd hi,Result.andThen]
theorem rC2 {fn:Func} {p u:Tmp} {tmps:Array Value} {w:World} {g:Nat} {x y z:Value} {fr:Nat × Nat} (hg:w.heap[g]? =some (.cells #[x,y,z] 29 fr)) (h:fn.results=#[.cell p 29,.tmp u]:=by exact rfl) (hp:tmps.getD p undef=.pointer (some ⟨g,0,none⟩):=by exact rfl):(results fn tmps).run Tryz.prog w=.ok (.tuple #[.agg #[x,y,z],tmps.getD u undef]) w:=rCl2 h _ _ g 29 _ fr _ hp hg Tryz.underlying29 rfl (by kernel_rfl)
theorem zeroR_row (w:World):(w.alloc (.cells #[.bool false,.string ⟨#[]⟩,.string ⟨#[]⟩] 29)).heap[w.heap.size]? =some (.cells #[.bool false,.string ⟨#[]⟩,.string ⟨#[]⟩] 29 (0,0)):=heap_alloc_new w _
set_option maxRecDepth 100000 in
theorem RatOf_any (n:Int) (w:World) (h1: -9223372036854775808≤n) (h2:n≤9223372036854775807) :
  Gv 58 #[.int .i64 n] w (rtV (ofR n)):=by
 unfold Gv
 by_cases hn:n<0
 ·have q1:IntKind.i64.wrap (n+1)=n+1:=IntWalk.i64_in _ (by omega);have q2:IntKind.i64.wrap (-(n+1))= -(n+1):=IntWalk.i64_in _ (by omega);obtain ⟨m,hm⟩:∃m:Nat,-(n+1)=(m:Int):=⟨(-(n+1)).toNat,by omega⟩;rw [hm] at q2;have q5:wrap64 (-(n+1))=(m:Int):=by unfold wrap64;omega
  have HO:=hD (fun w=>Of_any (m:Int) w (by omega));have HO1:=hD (fun w=>Of_any 1 w (by decide));simp only [Int.toNat_natCast] at HO;have hmz:Sz m 8:=Nat.lt_of_lt_of_le (show m<9223372036854775808 by omega) (by decide);have HA:=hD (fun w=>Add_n (numS_encS m) (numS_encS 1) (hmz.enc (by decide)) ((show Sz 1 1 by unfold Sz;decide).enc (by decide)) w);have HE:Hid (ofR n=⟨true,m+1,1⟩):=hD (by unfold ofR;simp [hn];omega);rw [HE.out];have q3:¬(0:Int)≤n:=by omega
  clear hm hmz h1 h2;go_enter Tryz.func58,Tryz.ntmps58;go_wp2_with fail;refine (HO.out _).mono ?_;rintro e w1 ⟨rfl,hb1⟩;go_wp2_with fail;refine (HO1.out _).mono ?_;rintro e w2 ⟨rfl,hb2⟩;rw [show (1:Int).toNat=1 from rfl];go_wp2_with fail;refine (HA.out _).mono ?_;rintro e w3 ⟨rfl,hb3⟩;go_wp2_with fail;refine (HO1.out _).mono ?_;rintro e w4 ⟨rfl,hb4⟩;rw [show (1:Int).toNat=1 from rfl];have hr:=hpU hb4 (hpU hb3 (hpU hb2 (hpU hb1 (zeroR_row w))));obtain ⟨⟨c0,c1,c2⟩,hf⟩:=rwC hr;have hf0:=hf 0;have hf1:=hf 1;have hf2:=hf 2;have HROW:=hD hr;have h12:=hb1.trans (hb2.mono hb1.size);have h13:=h12.trans (hb3.mono h12.size);have h14:=h13.trans (hb4.mono h13.size);have HB:=hD (((Below.refl w.heap.size w).alloc (Nat.le_refl _) (.cells #[.bool false,.string ⟨#[]⟩,.string ⟨#[]⟩] 29)).trans (h14.mono (by simp)));clear hr hf hb1 hb2 hb3 hb4 h12 h13 h14;go_wp2_with fail
  refine bodyPost_ret (results_cell_row rfl _ _ w.heap.size 29 _ (0,0) _ rfl (row_set HROW.out _ _ _) Tryz.underlying29 rfl (by kernel_rfl)) rfl ?_;exact ⟨rfl,below_row HB.out (Nat.le_refl _) _ _ _⟩
 ·obtain ⟨m,rfl⟩:∃m:Nat,n=(m:Int):=⟨n.toNat,by omega⟩;have HO:=hD (fun w=>Of_any (m:Int) w (by omega));have HO1:=hD (fun w=>Of_any 1 w (by decide));simp only [Int.toNat_natCast] at HO;have HE:Hid (ofR (m:Int)=⟨false,m,1⟩):=hD (by unfold ofR;simp);rw [HE.out];have q3:(0:Int)≤(m:Int):=by omega
  clear h1 h2;go_enter Tryz.func58,Tryz.ntmps58;go_wp2_with fail;refine (HO.out _).mono ?_;rintro e w1 ⟨rfl,hb1⟩;go_wp2_with fail;refine (HO1.out _).mono ?_;rintro e w2 ⟨rfl,hb2⟩;rw [show (1:Int).toNat=1 from rfl];have hr:=hpU hb2 (hpU hb1 (zeroR_row w));obtain ⟨⟨c0,c1,c2⟩,hf⟩:=rwC hr;have hf0:=hf 0;have hf1:=hf 1;have hf2:=hf 2;have HROW:=hD hr;have h12:=hb1.trans (hb2.mono hb1.size);have HB:=hD (((Below.refl w.heap.size w).alloc (Nat.le_refl _) (.cells #[.bool false,.string ⟨#[]⟩,.string ⟨#[]⟩] 29)).trans (h12.mono (by simp)));clear hr hf hb1 hb2 h12;go_wp2_with fail;refine bodyPost_ret (results_cell_row rfl _ _ w.heap.size 29 _ (0,0) _ rfl (row_set HROW.out _ _ _) Tryz.underlying29 rfl (by kernel_rfl)) rfl ?_;exact ⟨rfl,below_row HB.out (Nat.le_refl _) _ _ _⟩
theorem ofR_zero:ofR 0=zeroR:=rfl
set_option maxRecDepth 100000 in
theorem value_any (neg:Bool) (n d:ByteArray) (w:World) (sn:n.size≤10000000) (sd:d.size≤10000000) :
  Gv 98 #[ratV neg n d] w (rtV (valQ neg n d)):=by
 unfold Gv;have HR:=hD (fun w=>RatRight_any neg n d w sn sd);obtain ⟨R,hR⟩:∃R,rightR neg n d=R:=⟨_,rfl⟩;rw [hR] at HR;have HRT:=hD hR;have HO:=hD (fun w=>RatOf_any 0 w (by decide) (by decide));clear hR sn sd;unfold ratV at HR ⊢;have hs2:(w.alloc (.cells #[.bool neg,.string n,.string d] 29)).heap.size=w.heap.size+1:=by simp
 have h0:=hpU ((Below.refl _ (w.alloc (.cells #[.bool neg,.string n,.string d] 29))).alloc (Nat.le_refl _) (.cells #[.bool false,.string ⟨#[]⟩,.string ⟨#[]⟩] 29)) (heap_alloc_new w (.cells #[.bool neg,.string n,.string d] 29));have h1:=zeroR_row (w.alloc (.cells #[.bool neg,.string n,.string d] 29));rw [hs2] at h1;have hb:=((Below.refl w.heap.size w).alloc (Nat.le_refl _) (.cells #[.bool neg,.string n,.string d] 29)).alloc (by simp) (.cells #[.bool false,.string ⟨#[]⟩,.string ⟨#[]⟩] 29);obtain ⟨W2,hW2⟩:∃W2,(w.alloc (.cells #[.bool neg,.string n,.string d] 29)).alloc (.cells #[.bool false,.string ⟨#[]⟩,.string ⟨#[]⟩] 29)=W2:=⟨_,rfl⟩;rw [hW2] at h0 h1 hb;have HB:=hD hb;have H0:=hD h0;have H1:=hD h1;obtain ⟨⟨a0,a1,a2⟩,-⟩:=rwC h0;clear hs2 h0 h1 hb;go_enter Tryz.func98,Tryz.ntmps98;go_wp2_with fail;refine (HR.out _).mono ?_;rintro e w3 ⟨rfl,hb3⟩;have hr3:=hpU hb3 H1.out
 obtain ⟨⟨b0,b1,b2⟩,-⟩:=rwC (hpU hb3 H0.out);obtain ⟨⟨c0,c1,c2⟩,hf⟩:=rwC hr3;have hf0:=hf 0;have hf1:=hf 1;have hf2:=hf 2;have HB3:=hD (HB.out.trans (hb3.mono HB.out.size));have HR3:=hD hr3;clear hb3 hf hr3;cases R
 ·go_wp2_with fail;refine (HO.out _).mono ?_;rintro e w4 ⟨rfl,hb4⟩;have hr4:=hpU hb4 HR3.out;obtain ⟨⟨d0,d1,d2⟩,hf⟩:=rwC hr4;have hg0:=hf 0;have hg1:=hf 1;have hg2:=hf 2;have HR4:=hD hr4;have HB4:=hD (HB3.out.trans (hb4.mono HB3.out.size));clear hb4 hf hr4;rw [ofR_zero];unfold rtV;go_wp2_with fail;refine bodyPost_ret (results_cell_row rfl _ _ (w.heap.size+1) 29 _ (0,0) _ rfl (row_set HR4.out _ _ _) Tryz.underlying29 rfl (by kernel_rfl)) rfl ?_;refine ⟨?_,below_row HB4.out (by omega) _ _ _⟩;unfold valQ;rw [HRT.out]
  rfl
 ·go_wp2_with fail;refine bodyPost_ret (results_cell_row rfl _ _ (w.heap.size+1) 29 _ (0,0) _ rfl (row_set HR3.out _ _ _) Tryz.underlying29 rfl (by kernel_rfl)) rfl ?_;refine ⟨?_,below_row HB3.out (by omega) _ _ _⟩;have:=ratV_right HRT.out;unfold ratV at this;rw [this]
def IsR (v:Value) (a:Rt) (k:Nat):Prop:=∃neg n d,v=.agg #[.bool neg,.string n,.string d]∧n.size≤k∧d.size≤k∧valQ neg n d=a
theorem IsR.ok {v:Value} {a:Rt} {k:Nat} (h:IsR v a k):a.Ok:=by
 obtain ⟨neg,n,d,-,-,-,rfl⟩:=h;exact valQ_ok neg n d
theorem IsR.rz {v:Value} {a:Rt} {k:Nat} (h:IsR v a k) (hk:1≤k):Rz a k:=by
 obtain ⟨neg,n,d,-,h1,h2,rfl⟩:=h;exact valQ_sz hk h1 h2
theorem IsR.of {a:Rt} {k:Nat} (h:a.Ok) (hz:Rz a k):IsR (rtV a) a k:=⟨_,_,_,rfl,encS_size_lt hz.1,encS_size_lt hz.2,valQ_of h⟩
theorem value_r {v:Value} {a:Rt} {k:Nat} (h:IsR v a k) (hk:k≤10000000) (w:World):Gv 98 #[v] w (.agg #[.bool a.neg,.string (encS a.num),.string (encS a.den)]):=by
 unfold Gv;obtain ⟨neg,n,d,rfl,h1,h2,rfl⟩:=h;exact value_any neg n d w (by omega) (by omega)
theorem boxes3 (w:World) (oa ob oz:Obj):∃W,((w.alloc oa).alloc ob).alloc oz=W∧W.heap[w.heap.size]? =some oa∧W.heap[w.heap.size+1]? =some ob∧W.heap[w.heap.size+1+1]? =some oz∧Below w.heap.size w W:=by
 refine ⟨_,rfl,?_,?_,?_,(((Below.refl _ w).alloc (Nat.le_refl _) oa).alloc (by simp) ob).alloc (by simp;omega) oz⟩
 ·exact hpU ((Below.refl _ ((w.alloc oa).alloc ob)).alloc (Nat.le_refl _) oz) (hpU ((Below.refl _ (w.alloc oa)).alloc (Nat.le_refl _) ob) (heap_alloc_new w oa))
 ·have h:=heap_alloc_new (w.alloc oa) ob;rw [World.size_alloc] at h;exact hpU ((Below.refl _ ((w.alloc oa).alloc ob)).alloc (Nat.le_refl _) oz) h
 ·have h:=heap_alloc_new ((w.alloc oa).alloc ob) oz;rw [World.size_alloc,World.size_alloc] at h;exact h
def EVM (ba bb:Nat) (na nb:Bool) (sa da sb db:ByteArray) (ra rb:Rt):Nat→Value
 | 0=>.agg #[.bool na,.string sa,.string da]
 | 1=>.agg #[.bool ra.neg,.string (encS ra.num),.string (encS ra.den)]
 | 2=>.agg #[.bool nb,.string sb,.string db]
 | 3=>.agg #[.bool rb.neg,.string (encS rb.num),.string (encS rb.den)]
 | _=>undef
def EVN (ba bb:Nat) (ra rb L:Rt):Nat→Value
 | 0=>.pointer (some ⟨ba,0,none⟩)
 | 1=>.bool ra.neg
 | 2=>.pointer (some ⟨bb,0,none⟩)
 | 3=>.bool rb.neg
 | 4=>.bool (ra.neg != rb.neg)
 | 5=>.pointer (some ⟨ba,1,none⟩)
 | 6=>.string (encS ra.num)
 | 7=>.pointer (some ⟨bb,1,none⟩)
 | 8=>.string (encS rb.num)
 | 9=>.string (encS (ra.num*rb.num))
 | 10=>.pointer (some ⟨ba,2,none⟩)
 | 11=>.string (encS ra.den)
 | 12=>.pointer (some ⟨bb,2,none⟩)
 | 13=>.string (encS rb.den)
 | 14=>.string (encS (ra.den*rb.den))
 | 15=>.agg #[.bool L.neg,.string (encS L.num),.string (encS L.den)]
 | _=>undef
set_option maxRecDepth 100000 in
theorem RatMul_r {va vb:Value} {ra rb:Rt} {k:Nat} (ha:IsR va ra k) (hb:IsR vb rb k) (hk1:1≤k) (hk:k≤4000000) (wq:World) :
  Gv 62 #[va,vb] wq (rtV (mulR ra rb)):=by
 unfold Gv;have HVA:=hD (fun w=>value_r ha (by omega) w);have HVB:=hD (fun w=>value_r hb (by omega) w);have za:=ha.rz hk1;have zb:=hb.rz hk1;have HN:=hD (fun w=>Mul_n (numS_encS ra.num) (numS_encS rb.num) (za.1.enc (by omega)) (zb.1.enc (by omega)) w);have HD:=hD (fun w=>Mul_n (numS_encS ra.den) (numS_encS rb.den) (za.2.enc (by omega)) (zb.2.enc (by omega)) w);have HL:=hD (fun w=>lowest_n (ra.neg != rb.neg) (encS (ra.num*rb.num)) (encS (ra.den*rb.den)) _ _ w (numS_encS _) (numS_encS _) (Nat.mul_pos ha.ok.pos hb.ok.pos) (Nat.le_trans (encS_size_lt (za.1.mul zb.1)) (by omega)) (Nat.le_trans (encS_size_lt (za.2.mul zb.2)) (by omega)));have HE:Hid (mulR ra rb=low (ra.neg != rb.neg) (ra.num*rb.num) (ra.den*rb.den)):=hD rfl;rw [HE.out];obtain ⟨L,hL⟩:∃L,low (ra.neg != rb.neg) (ra.num*rb.num) (ra.den*rb.den)=L:=⟨_,rfl⟩;rw [hL] at HL ⊢;obtain ⟨na,sa,da,rfl,-⟩:=ha;obtain ⟨nb,sb,db,rfl,-⟩:=hb
 clear za zb hL hk1 hk;obtain ⟨W3,hW3,hxa,hxb,hxz,hb3⟩:=boxes3 wq (.cells #[.bool na,.string sa,.string da] 29) (.cells #[.bool nb,.string sb,.string db] 29) (.cells #[.bool false,.string ⟨#[]⟩,.string ⟨#[]⟩] 29);go_enter Tryz.func62,Tryz.ntmps62;go_wp2_with fail;obtain ⟨ba,hba⟩:∃b,wq.heap.size=b:=⟨_,rfl⟩;obtain ⟨bb,hbb⟩:∃b,ba+1=b:=⟨_,rfl⟩;obtain ⟨bz,hbz⟩:∃b,bb+1=b:=⟨_,rfl⟩;rw [hba] at hxa hxb hxz ⊢;rw [hbb] at hxb hxz ⊢;rw [hbz] at hxz ⊢;have HXA:=hD hxa;have HXB:=hD hxb;have HXZ:=hD hxz;have HB3:=hD hb3;have HNE:Hid (ba≠bb):=hD (by omega);have HNZA:Hid (bz≠ba):=hD (by omega);have HNZB:Hid (bz≠bb):=hD (by omega);clear hW3 hxa hxb hxz hb3;refine wpTl (w:=W3) (by kernel_rfl) (fun ix v _=>v=EVM ba bb na nb sa da sb db ra rb ix) 4 (fun t=>(decide (5≤t)&&decide (t<9))) (by decide) (by kernel_rfl) (by kernel_rfl) (by kernel_rfl) (by kernel_rfl) (by kernel_rfl) (fun _ _ _ _ _ h=>h) ?_ ?_
 ·intro i hi o listed a w hR K hK;have ho:=hR.at_;have hi:i<4:=hi;have hii:i=0∨i=1∨i=2∨i=3:=by omega
  rcases hii with rfl|rfl|rfl|rfl
  ·simp at ho;subst ho;have b2:a.tmps.getD 2 undef=.pointer (some ⟨ba,0,none⟩):=hR.b 2;obtain ⟨⟨cx0,cx1,cx2⟩,-⟩:=rwC (hpU hR.below HXA.out);refine pSq ?_;go_simp;exact hK _ _ rfl rB
  ·simp at ho;subst ho;have e0:a.tmps.getD 5 undef=.agg #[.bool na,.string sa,.string da]:=hR.t 0;refine pSq ?_;go_simp;refine (HVA.out w).mono ?_;rintro e w' ⟨rfl,hb⟩;exact hK _ _ (rfl) hb
  ·simp at ho;subst ho;have b3:a.tmps.getD 3 undef=.pointer (some ⟨bb,0,none⟩):=hR.b 3;obtain ⟨⟨cx0,cx1,cx2⟩,-⟩:=rwC (hpU hR.below HXB.out);refine pSq ?_;go_simp;exact hK _ _ rfl rB
  ·simp at ho;subst ho;have e2:a.tmps.getD 7 undef=.agg #[.bool nb,.string sb,.string db]:=hR.t 2;refine pSq ?_;go_simp;refine (HVB.out w).mono ?_;rintro e w' ⟨rfl,hb⟩;exact hK _ _ (rfl) hb
 ·intro s w hS hb;have e1:s 6=.agg #[.bool ra.neg,.string (encS ra.num),.string (encS ra.den)]:=hS 1 (by decide);have e3:s 8=.agg #[.bool rb.neg,.string (encS rb.num),.string (encS rb.den)]:=hS 3 (by decide);simp only [over,ovL,Nat.reduceAdd,Nat.reduceLeDiff,Nat.reduceLT];obtain ⟨⟨ca0,ca1,ca2⟩,hfa⟩:=rwC (hpU hb HXA.out);have fa0:=hfa 0;have fa1:=hfa 1;have fa2:=hfa 2;refine tail_step (n:=1) rfl rfl ?_;go_simp;have hxb:=hpU hb HXB.out;have hxa:=row_set (hpU hb HXA.out) (.bool ra.neg) (.string (encS ra.num)) (.string (encS ra.den));obtain ⟨W4,hW4⟩:∃W4,((w.setCell ⟨ba,0,none⟩ (.bool ra.neg)).setCell ⟨ba,1,none⟩ (.string (encS ra.num))).setCell ⟨ba,2,none⟩ (.string (encS ra.den))=W4:=⟨_,rfl⟩;have hxb4:W4.heap[bb]? =some (.cells #[.bool nb,.string sb,.string db] 29 (0,0)):=by rw [←hW4];simpa [World.setCell,Array.getElem?_modify,HNE.out] using hxb
  rw [hW4] at hxa ⊢;obtain ⟨⟨cb0,cb1,cb2⟩,hfb⟩:=rwC hxb4;have fb0:=hfb 0;have fb1:=hfb 1;have fb2:=hfb 2;refine tail_step (n:=0) rfl rfl ?_;go_simp;simp only [wpTail];have hxz:=hpU hb HXZ.out;have hxz4:W4.heap[bz]? =some (.cells #[.bool false,.string ⟨#[]⟩,.string ⟨#[]⟩] 29 (0,0)):=by rw [←hW4];simpa [World.setCell,Array.getElem?_modify,Ne.symm HNZA.out] using hxz
  have hxb5:=row_set hxb4 (.bool rb.neg) (.string (encS rb.num)) (.string (encS rb.den));obtain ⟨W5,hW5⟩:∃W5,((W4.setCell ⟨bb,0,none⟩ (.bool rb.neg)).setCell ⟨bb,1,none⟩ (.string (encS rb.num))).setCell ⟨bb,2,none⟩ (.string (encS rb.den))=W5:=⟨_,rfl⟩;have hxa5:W5.heap[ba]? =some (.cells #[.bool ra.neg,.string (encS ra.num),.string (encS ra.den)] 29 (0,0)):=by rw [←hW5];simpa [World.setCell,Array.getElem?_modify,Ne.symm HNE.out] using hxa
  have hxz5:W5.heap[bz]? =some (.cells #[.bool false,.string ⟨#[]⟩,.string ⟨#[]⟩] 29 (0,0)):=by rw [←hW5];simpa [World.setCell,Array.getElem?_modify,Ne.symm HNZB.out] using hxz4
  rw [hW5] at hxb5 ⊢;have HB5:Hid (Below wq.heap.size wq W5):=hD (by rw [←hW5, ←hW4];exact below_row (below_row (HB3.out.trans (hb.mono HB3.out.size)) (by omega) _ _ _) (by omega) _ _ _);have HXA:=hD hxa5;have HXB:=hD hxb5;have HXZ:=hD hxz5;clear hW5 hW4 hxa hxb hxz hxb4 hxz4 hxa5 hxb5 hxz5 hS hb e1 e3 ca0 ca1 ca2 cb0 cb1 cb2 hfa hfb fa0 fa1 fa2 fb0 fb1 fb2;go_wp2_with fail;refine wpTl (w:=W5) (by kernel_rfl) (fun ix v _=>v=EVN ba bb ra rb L ix) 16 (fun t=>(decide (9≤t)&&decide (t<25))) (by decide) (by kernel_rfl) (by kernel_rfl) (by kernel_rfl) (by kernel_rfl) (by kernel_rfl) (fun _ _ _ _ _ h=>h) ?_ ?_
  ·intro i hi o listed a w hR K hK;have ho:=hR.at_;have hi:i<16:=hi;have hii:i=0∨i=1∨i=2∨i=3∨i=4∨i=5∨i=6∨i=7∨i=8∨i=9∨i=10∨i=11∨i=12∨i=13∨i=14∨i=15:=by omega
   rcases hii with rfl|rfl|rfl|rfl|rfl|rfl|rfl|rfl|rfl|rfl|rfl|rfl|rfl|rfl|rfl|rfl
   ·simp at ho;subst ho;have b2:a.tmps.getD 2 undef=.pointer (some ⟨ba,0,none⟩):=hR.b 2;refine pSq ?_;go_simp;exact hK _ _ rfl rB
   ·simp at ho;subst ho;have e0:a.tmps.getD 9 undef=.pointer (some ⟨ba,0,none⟩):=hR.t 0;obtain ⟨⟨cx0,cx1,cx2⟩,-⟩:=rwC (hpU hR.below HXA.out);refine pSq ?_;go_simp;exact hK _ _ rfl rB
   ·simp at ho;subst ho;have b3:a.tmps.getD 3 undef=.pointer (some ⟨bb,0,none⟩):=hR.b 3;refine pSq ?_;go_simp;exact hK _ _ rfl rB
   ·simp at ho;subst ho;have e2:a.tmps.getD 11 undef=.pointer (some ⟨bb,0,none⟩):=hR.t 2;obtain ⟨⟨cx0,cx1,cx2⟩,-⟩:=rwC (hpU hR.below HXB.out);refine pSq ?_;go_simp;exact hK _ _ rfl rB
   ·simp at ho;subst ho;have e1:a.tmps.getD 10 undef=.bool ra.neg:=hR.t 1;have e3:a.tmps.getD 12 undef=.bool rb.neg:=hR.t 3;refine pSq ?_;go_simp;exact hK _ _ rfl rB
   ·simp at ho;subst ho;have b2:a.tmps.getD 2 undef=.pointer (some ⟨ba,0,none⟩):=hR.b 2;refine pSq ?_;go_simp;exact hK _ _ rfl rB
   ·simp at ho;subst ho;have e5:a.tmps.getD 14 undef=.pointer (some ⟨ba,1,none⟩):=hR.t 5;obtain ⟨⟨cx0,cx1,cx2⟩,-⟩:=rwC (hpU hR.below HXA.out);refine pSq ?_;go_simp;exact hK _ _ rfl rB
   ·simp at ho;subst ho;have b3:a.tmps.getD 3 undef=.pointer (some ⟨bb,0,none⟩):=hR.b 3;refine pSq ?_;go_simp;exact hK _ _ rfl rB
   ·simp at ho;subst ho;have e7:a.tmps.getD 16 undef=.pointer (some ⟨bb,1,none⟩):=hR.t 7;obtain ⟨⟨cx0,cx1,cx2⟩,-⟩:=rwC (hpU hR.below HXB.out);refine pSq ?_;go_simp;exact hK _ _ rfl rB
   ·simp at ho;subst ho;have e6:a.tmps.getD 15 undef=.string (encS ra.num):=hR.t 6;have e8:a.tmps.getD 17 undef=.string (encS rb.num):=hR.t 8;refine pSq ?_;go_simp;refine (HN.out w).mono ?_;rintro e w' ⟨rfl,hb⟩;exact hK _ _ (rfl) hb
   ·simp at ho;subst ho;have b2:a.tmps.getD 2 undef=.pointer (some ⟨ba,0,none⟩):=hR.b 2;refine pSq ?_;go_simp;exact hK _ _ rfl rB
   ·simp at ho;subst ho;have e10:a.tmps.getD 19 undef=.pointer (some ⟨ba,2,none⟩):=hR.t 10;obtain ⟨⟨cx0,cx1,cx2⟩,-⟩:=rwC (hpU hR.below HXA.out);refine pSq ?_;go_simp;exact hK _ _ rfl rB
   ·simp at ho;subst ho;have b3:a.tmps.getD 3 undef=.pointer (some ⟨bb,0,none⟩):=hR.b 3;refine pSq ?_;go_simp;exact hK _ _ rfl rB
   ·simp at ho;subst ho;have e12:a.tmps.getD 21 undef=.pointer (some ⟨bb,2,none⟩):=hR.t 12;obtain ⟨⟨cx0,cx1,cx2⟩,-⟩:=rwC (hpU hR.below HXB.out);refine pSq ?_;go_simp;exact hK _ _ rfl rB
   ·simp at ho;subst ho;have e11:a.tmps.getD 20 undef=.string (encS ra.den):=hR.t 11;have e13:a.tmps.getD 22 undef=.string (encS rb.den):=hR.t 13;refine pSq ?_;go_simp;refine (HD.out w).mono ?_;rintro e w' ⟨rfl,hb⟩;exact hK _ _ (rfl) hb
   ·simp at ho;subst ho;have e4:a.tmps.getD 13 undef=.bool (ra.neg != rb.neg):=hR.t 4;have e9:a.tmps.getD 18 undef=.string (encS (ra.num*rb.num)):=hR.t 9;have e14:a.tmps.getD 23 undef=.string (encS (ra.den*rb.den)):=hR.t 14;refine pSq ?_;go_simp;refine (HL.out w).mono ?_;rintro e w' ⟨rfl,hb⟩;exact hK _ _ (rfl) hb
  ·intro s w hS hb;have e15:s 24=.agg #[.bool L.neg,.string (encS L.num),.string (encS L.den)]:=hS 15 (by decide);simp only [over,ovL,Nat.reduceAdd,Nat.reduceLeDiff,Nat.reduceLT];obtain ⟨⟨cz0,cz1,cz2⟩,hfz⟩:=rwC (hpU hb HXZ.out);have fz0:=hfz 0;have fz1:=hfz 1;have fz2:=hfz 2;refine tail_step (n:=0) rfl rfl ?_;go_simp;simp only [wpTail];have hrow:=row_set (hpU hb HXZ.out) (.bool L.neg) (.string (encS L.num)) (.string (encS L.den));have hbw:=below_row (HB5.out.trans (hb.mono HB5.out.size)) (b:=bz) (by omega) (.bool L.neg) (.string (encS L.num)) (.string (encS L.den));have HROW:=hD hrow;have HBW:=hD hbw;clear hrow hbw hS hb cz0 cz1 cz2 hfz fz0 fz1 fz2;go_wp2_with fail;refine bodyPost_ret (rC1 HROW.out) rfl ?_;exact ⟨rfl,HBW.out⟩
end Go.Proofs.YtblgfmjlajhipaaGreatDoor
