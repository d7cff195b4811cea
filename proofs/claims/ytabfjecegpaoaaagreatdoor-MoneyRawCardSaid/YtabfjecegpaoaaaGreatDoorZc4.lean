/- Contracts that the proofs of this seat share. Each theorem names its conditions. -/
import Derived.Lib.IndexMore
import Derived.Test.YtabfjecegpaoaaaGreatDoorZc2
import Derived.Test.YtabfjecegpaoaaaGreatDoorZb6
import Derived.Test.YtabfjecegpaoaaaGreatDoorZb5
import Derived.Test.YtabfjecegpaoaaaGreatDoorZb0
import Derived.Test.YtabfjecegpaoaaaGreatDoorZc1
set_option maxHeartbeats 16000000
set_option linter.unusedVariables false
namespace Go.Proofs.YtabfjecegpaoaaaGreatDoor
open Go.RowKit Go.Shelf
open Dgt
set_option maxRecDepth 100000 in
theorem MoSplit_no {na:Bool} {sa da:ByteArray} {c:Int} {okc:Bool} {ls:List Rw} (hc:∀w,Gv 29 #[.agg #[.bool na,.string sa,.string da]] w (.tuple #[.int .i64 c,.bool okc])) (hz:SzL ls 1000) (hn:ls.length≤20) (hno:okc=true→0<sgnR (sumL ls zeroR)→ls.any Rw.bad=true) (v:Value) (wq:World) (hl:LstR wq v ls) :
  Gv 19 #[.agg #[.bool na,.string sa,.string da],v] wq (.tuple #[.slice none 0 0,.bool false]):=by
 unfold Gv;obtain ⟨p,ca,rfl,-,-⟩:=hl.open;have c2:∀w,Below wq.heap.size wq w→_:=fun w h=>Sum_any ls (.slice p ls.length ca) w (hl.up h) (by omega) hz
 have hS:(sumL ls zeroR).Ok:=sumL_ok ls zeroR zeroR_ok;have zS:Rz (sumL ls zeroR) 30000:=(sumL_sz ls zeroR 1 hz zeroR_sz).mono (by omega);have c3:=fun w=>RatSign_r (IsR.of hS zS) (by decide) w
 have c4:∀w,Below wq.heap.size wq w→_:=fun w h=>containsW_any ls (.slice p ls.length ca) w (hl.up h) hz
 obtain ⟨S,h3⟩:∃S,sumL ls zeroR=S:=⟨_,rfl⟩;rw [h3] at c2 c3 hno;obtain ⟨bd,hbd⟩:∃b,ls.any Rw.bad=b:=⟨_,rfl⟩;rw [hbd] at c4 hno;obtain ⟨z,hzz⟩:∃z,sgnR S=z:=⟨_,rfl⟩;rw [hzz] at c3 hno;obtain ⟨n,hnn⟩:∃n,ls.length=n:=⟨_,rfl⟩;rw [hnn] at c2 c4 hn;have HLEN:=hD hn;have HNO:=hD hno;rw [hnn];have C1:Hid (∀w,Gv 29 #[.agg #[.bool na,.string sa,.string da]] w (.tuple #[.int .i64 c,.bool okc])):=hD hc;have C2:Hid (∀w,Below wq.heap.size wq w→Gv 54 #[.slice p n ca] w (.agg #[.bool S.neg,.string (encS S.num),.string (encS S.den)])):=hD c2;have C3:Hid (∀w,Gv 55 #[rtV S] w (.int .i64 z)):=hD c3;have C4:Hid (∀w,Below wq.heap.size wq w→Gv 56 #[.slice p n ca,.func (Fn.func 57) #[] #[]] w (.bool bd)):=hD c4;clear c2 c3 c4 hc hz hl hS zS h3 hbd hzz hnn hn hno;have HB:=hD (Below.refl wq.heap.size wq);obtain ⟨n0,hn0⟩:∃n,n=wq.heap.size:=⟨_,rfl⟩;rw [←hn0];have HN0:=hD hn0;clear hn0
 go_enter Tryz.func19,Tryz.ntmps19;obtain ⟨W1,bk2,hW1,hbk2,HX2_1,HB,HG2_1,hup⟩:=boxS HB HN0 na sa da;clear hup;obtain ⟨k2a,k2b,k2c⟩:=c3 HX2_1;go_wp2_with fail;clear hW1 hbk2 k2a k2b k2c;refine (C1.out _).mono ?_;rintro e w2 ⟨rfl,hb⟩;have HX2_1:=uH hb HX2_1;have HB:=mH HB hb;clear hb;go_wp2_with fail;refine (C2.out _ HB.out).mono ?_;rintro e w3 ⟨rfl,hb⟩;have HX2_1:=uH hb HX2_1;have HB:=mH HB hb;clear hb;obtain ⟨W4,bk8,hW4,hbk8,HX8_3,HB,HG8_3,hup⟩:=boxZ HB HN0;have HL8_3:=(hup _ _ HX2_1).2;have HX2_1:=(hup _ _ HX2_1).1;clear hup;obtain ⟨W5,hW5,HX8_3,HB,ho,f4a,f4b,f4c,k4a,k4b,k4c⟩:=putR HX8_3 HB HN0 HG8_3 S;have HX2_1:=ho _ _ (en1 HL8_3) HX2_1;clear ho;cases okc
 case false =>
  go_wp2_with fail;clear hW4 hbk8 f4a f4b f4c k4a k4b k4c hW5;go_ret2;exact ⟨rfl,by rw [HN0.out];exact HB.out⟩
 case true =>
  have hlen:¬(n:Int)>100:=by have:=HLEN.out;omega
  have hlen2:¬(100:Int)<(n:Int):=by have:=HLEN.out;omega
  by_cases hz1:z≤0
  ·have HZ:=hD hz1;obtain ⟨k5a,k5b,k5c⟩:=c3 HX8_3;go_wp2_with fail;clear hW4 hbk8 f4a f4b f4c k4a k4b k4c hW5 k5a k5b k5c;refine (C3.out _).mono ?_;rintro e w6 ⟨rfl,hb⟩;have HX2_1:=uH hb HX2_1;have HX8_3:=uH hb HX8_3;have HB:=mH HB hb;clear hb;go_wp2_with fail;clear hlen hlen2 hz1;go_ret2;exact ⟨rfl,by rw [HN0.out];exact HB.out⟩
  ·obtain rfl:bd=true:=HNO.out rfl (by omega);obtain ⟨k6a,k6b,k6c⟩:=c3 HX8_3;go_wp2_with fail;clear hW4 hbk8 f4a f4b f4c k4a k4b k4c hW5 k6a k6b k6c;refine (C3.out _).mono ?_;rintro e w7 ⟨rfl,hb⟩;have HX2_1:=uH hb HX2_1;have HX8_3:=uH hb HX8_3;have HB:=mH HB hb;clear hb;go_wp2_with fail;refine (C4.out _ HB.out).mono ?_;rintro e w8 ⟨rfl,hb⟩;have HX2_1:=uH hb HX2_1;have HX8_3:=uH hb HX8_3;have HB:=mH HB hb;clear hb;go_wp2_with fail;clear hlen hlen2 hz1;go_ret2;exact ⟨rfl,by rw [HN0.out];exact HB.out⟩
theorem decL_len {n k:Nat} (h:Sz n k):(Lib.decDigits n).length≤3*k+1:=by
 have h1:=dec_size (encS n);rw [numS_encS] at h1;have h2:=encS_size_lt h;omega
def textV (a:Rt):Value:=if centsOk a=true then .tuple #[.string ⟨(textM a).toArray⟩,.bool true] else .tuple #[.string ⟨#[]⟩,.bool false]
theorem text_one {a:Rt} {x:UInt8} (h:(centN a).num%100<10) (hx:Lib.decDigits ((centN a).num%100)=[x]) :
  (⟨(textM a).toArray⟩:ByteArray)=(((⟨#[36]⟩++(if a.neg then ⟨#[45]⟩ else ⟨#[]⟩))++⟨(Lib.decDigits ((centN a).num/100)).toArray⟩)++⟨#[46]⟩)++(⟨#[48]⟩++⟨#[x]⟩):=by
 unfold textM two;rw [if_pos h,hx];show _=((((⟨[36].toArray⟩:ByteArray)++(if a.neg then ⟨[45].toArray⟩ else ⟨([]:List UInt8).toArray⟩))++⟨(Lib.decDigits ((centN a).num/100)).toArray⟩)++⟨[46].toArray⟩)++(⟨[48].toArray⟩++⟨[x].toArray⟩);unfold sgnL;cases a.neg<;>simp [str_append]
theorem text_two {a:Rt} {x y:UInt8} (h:¬(centN a).num%100<10) (hx:Lib.decDigits ((centN a).num%100)=[x,y]) :
  (⟨(textM a).toArray⟩:ByteArray)=(((⟨#[36]⟩++(if a.neg then ⟨#[45]⟩ else ⟨#[]⟩))++⟨(Lib.decDigits ((centN a).num/100)).toArray⟩)++⟨#[46]⟩)++⟨#[x,y]⟩:=by
 unfold textM two;rw [if_neg h,hx];show _=((((⟨[36].toArray⟩:ByteArray)++(if a.neg then ⟨[45].toArray⟩ else ⟨([]:List UInt8).toArray⟩))++⟨(Lib.decDigits ((centN a).num/100)).toArray⟩)++⟨[46].toArray⟩)++⟨[x,y].toArray⟩;unfold sgnL;cases a.neg<;>simp [str_append]
def EMoText_r_4_1 (a:Rt) (t:Rt) (m:Rt) (u:Nat) (c:Nat) (nn:Bool):Nat→Value
 | 0=>.agg #[.bool nn,.string (encS a.num),.string (encS a.den)]
 | 1=>.agg #[.bool t.neg,.string (encS t.num),.string (encS t.den)]
 | 2=>.agg #[.bool m.neg,.string (encS m.num),.string (encS m.den)]
 | 3=>.string (encS m.num)
 | 4=>.string (encS 100)
 | 5=>.tuple #[.string (encS u),.string (encS c),.bool true]
 | 6=>.tuple #[.string (encS u),.string (encS c),.bool true]
 | 7=>.string (encS u)
 | 8=>.string (encS c)
 | 9=>.bool true
 | 10=>.string (encS u)
 | 11=>.string (encS c)
 | 12=>.bool true
 | _=>undef
set_option maxRecDepth 100000 in
theorem MoText_r {a:Rt} (ha:a.Ok) (za:Rz a 90000) (wq:World) (htab:Lib.TabIs Tryz.prog wq "internal/strconv.uint64pow10" .u64 Lib.pow10Tab):
  Gv 30 #[.agg #[.bool a.neg,.string (encS a.num),.string (encS a.den)]] wq (textV a):=by
 unfold Gv;have HTB:=hD (Lib.tabBelow_of_tabIs htab);have z2:Rz (ofR 100) 90000:=(ofR_sz (by decide) (by decide)).mono (by decide);have zm:Rz (centN a) (90000+90000):=by unfold centN;exact mulR_sz za z2
 have c1:=fun w=>MoCents_r ha za w
 unfold centsV at c1;have c2:=fun w=>RatOf_any 100 w (by decide) (by decide)
 have c3:=fun w=>RatMul_r (IsR.of ha za) (IsR.of hun_ok z2) (by decide) (by decide) w
 rw [show mulR a (ofR 100)=centN a from rfl] at c3;unfold rtV at c3;have c4:=fun w=>Of_any 100 w (by decide)
 rw [show (100:Int).toNat=100 from rfl] at c4;have c5:=fun w=>Quo_n (numS_encS (centN a).num) (numS_encS 100) (zm.1.enc (by decide)) (Nat.le_trans (encS_size_lt (show Sz 100 1 by unfold Sz;decide)) (by decide)) w
 rw [show remS (centN a).num 100=(centN a).num%100 from rfl,show decide (0<100)=true from rfl] at c5;have hc:(centN a).num%100<100:=Nat.mod_lt _ (by decide);have su:Sz ((centN a).num/100) 180000:=zm.1.div _;have sc:Sz ((centN a).num%100) 180000:=zm.1.mod _;have iu:=decL_len su;have hU:((Lib.decDigits ((centN a).num/100)).length:Int)≤600000:=by omega
 have c6:∀w,Below wq.heap.size wq w→_:=fun w h=>Text_any (encS ((centN a).num/100)) w (Nat.le_trans (encS_size_lt su) (by decide)) (HTB.out.on h).here
 have c7:∀w,Below wq.heap.size wq w→_:=fun w h=>Text_any (encS ((centN a).num%100)) w (Nat.le_trans (encS_size_lt sc) (by decide)) (HTB.out.on h).here
 simp only [numS_encS] at c6 c7;have K1:=hD (fun (x:UInt8)=>text_one (a:=a) (x:=x));have K2:=hD (fun (x y:UInt8)=>text_two (a:=a) (x:=x) (y:=y));have HV:Hid (textV a=if centsOk a=true then .tuple #[.string ⟨(textM a).toArray⟩,.bool true] else .tuple #[.string ⟨#[]⟩,.bool false]):=hD rfl;obtain ⟨R,h0⟩:∃R,textV a=R:=⟨_,rfl⟩;rw [h0] at HV ⊢;obtain ⟨ok,h1⟩:∃k,centsOk a=k:=⟨_,rfl⟩;rw [h1] at c1 HV;obtain ⟨ci,h2⟩:∃k,centsI a=k:=⟨_,rfl⟩;rw [h2] at c1;obtain ⟨X,h3⟩:∃X,(⟨(textM a).toArray⟩:ByteArray)=X:=⟨_,rfl⟩;rw [h3] at K1 K2 HV;obtain ⟨m,h4⟩:∃m,centN a=m:=⟨_,rfl⟩;rw [h4] at c3 c5 K1 K2 c6 c7 hc hU;obtain ⟨u,h5⟩:∃u,m.num/100=u:=⟨_,rfl⟩;rw [h5] at c5 K1 K2 c6 hU;obtain ⟨c,h6⟩:∃u,m.num%100=u:=⟨_,rfl⟩;rw [h6] at c5 K1 K2 c7 hc;obtain ⟨U,h7⟩:∃U,Lib.decDigits u=U:=⟨_,rfl⟩;rw [h7] at c6 K1 K2 hU;obtain ⟨t,h8⟩:∃t,ofR 100=t:=⟨_,rfl⟩;rw [h8] at c2 c3
 obtain ⟨nn,h9⟩:∃b,a.neg=b:=⟨_,rfl⟩;rw [h9] at c1 c3 K1 K2 ⊢;have C1:Hid (∀w,Gv 29 #[.agg #[.bool nn,.string (encS a.num),.string (encS a.den)]] w (.tuple #[.int .i64 ci,.bool ok])):=hD c1;have C2:Hid (∀w,Gv 59 #[.int .i64 100] w (.agg #[.bool t.neg,.string (encS t.num),.string (encS t.den)])):=hD c2;have C3:Hid (∀w,Gv 61 #[.agg #[.bool nn,.string (encS a.num),.string (encS a.den)],rtV t] w (.agg #[.bool m.neg,.string (encS m.num),.string (encS m.den)])):=hD c3;have C4:Hid (∀w,Gv 72 #[.int .i64 100] w (.string (encS 100))):=hD c4;have C5:Hid (∀w,Gv 74 #[.string (encS m.num),.string (encS 100)] w (.tuple #[.string (encS u),.string (encS c),.bool true])):=hD c5;have C6:Hid (∀w,Below wq.heap.size wq w→Gv 75 #[.string (encS u)] w (.string ⟨U.toArray⟩)):=hD c6;have HC7:=hD c7;have HCC:=hD hc;have HU:=hD hU
 clear c1 c2 c3 c4 c5 c6 c7 h0 h1 h2 h3 h4 h5 h6 h7 h8 h9 z2 zm hc su sc iu hU htab ha za;have HB:=hD (Below.refl wq.heap.size wq);obtain ⟨n0,hn0⟩:∃n,n=wq.heap.size:=⟨_,rfl⟩;rw [←hn0];have HN0:=hD hn0;clear hn0;go_enter Tryz.func30,Tryz.ntmps30;obtain ⟨W1,bk1,hW1,hbk1,HX1_1,HB,HG1_1,hup⟩:=boxn HB HN0 (.cells #[.bool nn,.string (encS a.num),.string (encS a.den)] 26);clear hup;obtain ⟨k2a,k2b,k2c⟩:=c3 HX1_1;go_wp2_with fail;clear hW1 hbk1 k2a k2b k2c;refine (C1.out _).mono ?_;rintro e w2 ⟨rfl,hb⟩;have HX1_1:=uH hb HX1_1;have HB:=mH HB hb;clear hb;cases ok
 case false =>
  go_wp2_with fail;go_ret2;have h:R=.tuple #[.string ⟨#[]⟩,.bool false]:=by rw [HV.out];rfl
  subst h;exact ⟨rfl,by rw [HN0.out];exact HB.out⟩
 case true =>
  go_wp2_with fail;refine wpVl (w:=w2) (by kernel_rfl) (fun ix v _=>v=EMoText_r_4_1 a t m u c nn ix) (fun t=>(decide (6≤t)&&decide (t<9))||(decide (18≤t)&&decide (t<28))) (by kernel_rfl) (by kernel_rfl) (by kernel_rfl) (fun _ _ _ _ _ h=>h) ?_ ?_
  ·intro i hi ov_ listed av_ w hR K hK;have ho:=hR.at_;have hi:i<13:=hi;have hii:i=0∨i=1∨i=2∨i=3∨i=4∨i=5∨i=6∨i=7∨i=8∨i=9∨i=10∨i=11∨i=12:=by omega
   rcases hii with rfl|rfl|rfl|rfl|rfl|rfl|rfl|rfl|rfl|rfl|rfl|rfl|rfl<;>(simp at ho;subst ho)
   ·have b1:av_.tmps.getD 1 undef=.pointer (some ⟨bk1,0,none⟩):=hR.b 1;obtain ⟨cx0,cx1,cx2⟩:=c3 (uH hR.below HX1_1);refine pSq ?_;go_simp;exact hK _ _ rfl rB
   ·refine pSq ?_;go_simp;refine (C2.out w).mono ?_;rintro e w' ⟨rfl,hb⟩;exact hK _ _ (rfl) hb
   ·have e0:av_.tmps.getD 19 undef=.agg #[.bool nn,.string (encS a.num),.string (encS a.den)]:=hR.d 0;have e1:av_.tmps.getD 20 undef=.agg #[.bool t.neg,.string (encS t.num),.string (encS t.den)]:=hR.d 1;refine pSq ?_;go_simp;refine (C3.out w).mono ?_;rintro e w' ⟨rfl,hb⟩;exact hK _ _ (rfl) hb
   ·have e2:av_.tmps.getD 21 undef=.agg #[.bool m.neg,.string (encS m.num),.string (encS m.den)]:=hR.d 2;refine pSq ?_;go_simp;exact hK _ _ rfl rB
   ·refine pSq ?_;go_simp;refine (C4.out w).mono ?_;rintro e w' ⟨rfl,hb⟩;exact hK _ _ (rfl) hb
   ·have e3:av_.tmps.getD 22 undef=.string (encS m.num):=hR.d 3;have e4:av_.tmps.getD 23 undef=.string (encS 100):=hR.d 4;refine pSq ?_;go_simp;refine (C5.out w).mono ?_;rintro e w' ⟨rfl,hb⟩;exact hK _ _ (rfl) hb
   ·have e5:av_.tmps.getD 24 undef=.tuple #[.string (encS u),.string (encS c),.bool true]:=hR.d 5;refine pSq ?_;go_simp;exact hK _ _ rfl rB
   ·have e6:av_.tmps.getD 18 undef=.tuple #[.string (encS u),.string (encS c),.bool true]:=hR.d 6;refine pSq ?_;go_simp;exact hK _ _ rfl rB
   ·have e6:av_.tmps.getD 18 undef=.tuple #[.string (encS u),.string (encS c),.bool true]:=hR.d 6;refine pSq ?_;go_simp;exact hK _ _ rfl rB
   ·have e6:av_.tmps.getD 18 undef=.tuple #[.string (encS u),.string (encS c),.bool true]:=hR.d 6;refine pSq ?_;go_simp;exact hK _ _ rfl rB
   ·have e7:av_.tmps.getD 25 undef=.string (encS u):=hR.d 7;refine pSq ?_;go_simp;exact hK _ _ rfl rB
   ·have e8:av_.tmps.getD 26 undef=.string (encS c):=hR.d 8;refine pSq ?_;go_simp;exact hK _ _ rfl rB
   ·have e9:av_.tmps.getD 27 undef=.bool true:=hR.d 9;refine pSq ?_;go_simp;exact hK _ _ rfl rB
  ·intro sv_ w hS hb;have e10:sv_ 6=.string (encS u):=hS 10 (by decide);have e11:sv_ 7=.string (encS c):=hS 11 (by decide);simp only [over,ovL,Nat.reduceAdd,Nat.reduceLeDiff,Nat.reduceLT];have HB:=mH HB hb;have HX1_1:=uH hb HX1_1;obtain ⟨w3,hw⟩:∃w8,w8=w:=⟨_,rfl⟩;subst hw;rw [e10,e11];clear hS hb e10 e11
   by_cases hc:c<10
   ·have hx:=Lib.decDigits_one hc;obtain ⟨x,hx1⟩:∃x,UInt8.ofNat (48+c)=x:=⟨_,rfl⟩;rw [hx1] at hx;clear hx1;have C7:Hid (∀w,Below wq.heap.size wq w→Gv 75 #[.string (encS c)] w (.string ⟨#[x]⟩)):=hD fun w hp0=>by
     have h:=HC7.out w hp0;rw [hx] at h;exact h
    have HX:=hD (K1.out x hc hx);go_wp2_with fail;refine (C7.out _ HB.out).mono ?_;rintro e w4 ⟨rfl,hb⟩;have HX1_1:=uH hb HX1_1;have HB:=mH HB hb;clear hb;have k3:w4.cell? ⟨bk1,0,none⟩=some (.bool nn):=by rw [Lib.cell_of_heap HX1_1.out];rfl
    cases nn
    case false =>
     have hU:=HU.out;go_wp2_with fail;clear k3;refine (C6.out _ HB.out).mono ?_;rintro e w5 ⟨rfl,hb⟩;have HX1_1:=uH hb HX1_1;have HB:=mH HB hb;clear hb;have hU:=HU.out;go_wp2_with fail;go_ret2;have h:R=.tuple #[.string X,.bool true]:=by rw [HV.out];rfl
     subst h;rw [HX.out];exact ⟨rfl,by rw [HN0.out];exact HB.out⟩
    case true =>
     have hU:=HU.out;go_wp2_with fail;clear k3;refine (C6.out _ HB.out).mono ?_;rintro e w6 ⟨rfl,hb⟩;have HX1_1:=uH hb HX1_1;have HB:=mH HB hb;clear hb;have hU:=HU.out;go_wp2_with fail;go_ret2;have h:R=.tuple #[.string X,.bool true]:=by rw [HV.out];rfl
     subst h;rw [HX.out];exact ⟨rfl,by rw [HN0.out];exact HB.out⟩
   ·have hx:=Lib.decDigits_two hc HCC.out;obtain ⟨x,hx1⟩:∃x,UInt8.ofNat (48+c/10)=x:=⟨_,rfl⟩;obtain ⟨y,hx2⟩:∃x,UInt8.ofNat (48+c%10)=x:=⟨_,rfl⟩;rw [hx1,hx2] at hx;clear hx1 hx2;have C7:Hid (∀w,Below wq.heap.size wq w→Gv 75 #[.string (encS c)] w (.string ⟨#[x,y]⟩)):=hD fun w hp0=>by
     have h:=HC7.out w hp0;rw [hx] at h;exact h
    have HX:=hD (K2.out x y hc hx);go_wp2_with fail;refine (C7.out _ HB.out).mono ?_;rintro e w7 ⟨rfl,hb⟩;have HX1_1:=uH hb HX1_1;have HB:=mH HB hb;clear hb;have k4:w7.cell? ⟨bk1,0,none⟩=some (.bool nn):=by rw [Lib.cell_of_heap HX1_1.out];rfl
    cases nn
    case false =>
     have hU:=HU.out;go_wp2_with fail;clear k4;refine (C6.out _ HB.out).mono ?_;rintro e w8 ⟨rfl,hb⟩;have HX1_1:=uH hb HX1_1;have HB:=mH HB hb;clear hb;have hU:=HU.out;go_wp2_with fail;go_ret2;have h:R=.tuple #[.string X,.bool true]:=by rw [HV.out];rfl
     subst h;rw [HX.out];exact ⟨rfl,by rw [HN0.out];exact HB.out⟩
    case true =>
     have hU:=HU.out;go_wp2_with fail;clear k4;refine (C6.out _ HB.out).mono ?_;rintro e w9 ⟨rfl,hb⟩;have HX1_1:=uH hb HX1_1;have HB:=mH HB hb;clear hb;have hU:=HU.out;go_wp2_with fail;go_ret2;have h:R=.tuple #[.string X,.bool true]:=by rw [HV.out];rfl
     subst h;rw [HX.out];exact ⟨rfl,by rw [HN0.out];exact HB.out⟩
theorem parV_sz (s:ByteArray):Sz (parV s) s.size:=by
 unfold parV Sz
 split
 ·rename_i h
  unfold okP at h;simp only [Bool.and_eq_true] at h;have h1:=decF_lt s.data.toList h.2;exact Nat.lt_of_lt_of_le h1 (by
   have:s.data.toList.length=s.size:=by rw [Array.length_toList];rfl
   rw [this];exact Nat.pow_le_pow_left (by decide) _)
 ·exact Nat.pow_pos (by decide)
end Go.Proofs.YtabfjecegpaoaaaGreatDoor
