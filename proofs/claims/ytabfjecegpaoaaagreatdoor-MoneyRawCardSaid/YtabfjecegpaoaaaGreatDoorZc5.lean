/- Contracts that the proofs of this seat share. Each theorem names its conditions. -/

import Derived.Test.YtabfjecegpaoaaaGreatDoorZc4
import Derived.Test.YtabfjecegpaoaaaGreatDoorZb6
set_option maxHeartbeats 16000000
set_option linter.unusedVariables false
namespace Go.Proofs.YtabfjecegpaoaaaGreatDoor
open Go.RowKit Go.Shelf
open Dgt
def parsV:Option Rt→Value
 | some a=>.tuple #[rtV a,.bool true]
 | none=>.tuple #[.agg #[.bool false,.string ⟨#[]⟩,.string ⟨#[]⟩],.bool false]
theorem parse_n1 {l:List UInt8} (h:shapeP l=false):parseM l=none:=by unfold parseM candP;rw [h];simp
theorem parse_n2 {l:List UInt8} (h:okP (stripP l)=false):parseM l=none:=by unfold parseM candP;rw [h];simp
theorem parse_yes {l:List UInt8} (h:shapeP l=true) (h2:okP (stripP l)=true):parseM l=if accept l (low (negL l) (decV (stripP l)) 100) then some (low (negL l) (decV (stripP l)) 100) else none:=by
 unfold parseM candP;rw [h,h2,if_pos ⟨rfl,rfl⟩]
theorem list_at (S:ByteArray) {i:Nat} (h:i<S.size):S.data.toList[i]? =some (S[i]'h):=by
 rw [List.getElem?_eq_getElem (by simpa using h)];rfl
theorem list_size (S:ByteArray):S.data.toList.length=S.size:=by rw [Array.length_toList];rfl
theorem ext_list (S:ByteArray) (a b:Nat):(S.extract a b).data.toList=(S.data.toList.take b).drop a:=by
 rw [ByteArray.data_extract,Array.toList_extract,List.extract_eq_take_drop,List.take_drop];rcases Nat.le_total a b with h|h
 ·rw [Nat.add_sub_cancel' h]
 ·rw [Nat.sub_eq_zero_of_le h,Nat.add_zero,List.drop_take_self,List.drop_of_length_le (by rw [List.length_take];omega)]
theorem u8_ne {c:UInt8} {k:Nat} (hk:k<256) (h:c≠UInt8.ofNat k):((c.toNat:Int)==(k:Int))=false:=by
 rw [beq_eq_false_iff_ne];intro e;refine h (UInt8.toNat_inj.1 ?_);have h2:(UInt8.ofNat k).toNat=k:=by simp [Nat.mod_eq_of_lt hk]
 rw [h2];omega
theorem strip_zero:∀{l:List UInt8},1<l.length→l[0]? =some 48→strip l=strip (l.drop 1)
 | [],h,_=>absurd h (by simp)
 | [c],h,_=>absurd h (by simp)
 | c::d::r,_,h=>by
  have hc:c=48:=by simpa using h
  rw [strip,if_pos hc];rfl
theorem strip_one:∀{l:List UInt8},¬1<l.length→strip l=l
 | [],_=>rfl
 | [c],_=>rfl
 | c::d::r,h=>absurd (by simp) h
theorem strip_at {l:List UInt8} {c:UInt8} (h:l[0]? =some c) (hc:c≠48):strip l=l:=strip_ne (by
 cases l with
 | nil=>cases h
 | cons a r=>simp at h;simpa [h] using hc)
def szV:Value→Nat
 | .string s=>s.size
 | _=>0
theorem drop_list (S:ByteArray):(S.extract 1 S.size).data.toList=S.data.toList.drop 1:=by
 rw [ext_list,List.take_of_length_le (by rw [list_size];omega)]
theorem drop_size {S:ByteArray} (h:1<S.size):(S.extract 1 S.size).size<S.size:=by rw [ByteArray.size_extract];omega
theorem app_list (a b:ByteArray):(a++b).data.toList=a.data.toList++b.data.toList:=by simp
set_option maxRecDepth 100000 in
theorem MoParse_any (S:ByteArray) (hS:S.size≤1000) (wq:World) (htab:Lib.TabIs Tryz.prog wq "internal/strconv.uint64pow10" .u64 Lib.pow10Tab):
  Gv 31 #[.string S] wq (parsV (parseM S.data.toList)):=by
 unfold Gv;have HTB:=Lib.hid (Lib.tabBelow_of_tabIs htab);obtain ⟨l,hl⟩:∃l,S.data.toList=l:=⟨_,rfl⟩;have HL:=Lib.hid hl;have hn:l.length=S.size:=by rw [←hl];exact list_size S
 obtain ⟨R,h0⟩:∃R,parsV (parseM S.data.toList)=R:=⟨_,rfl⟩;rw [h0];have HR:=Lib.hid h0;rw [hl] at HR;have HBAD:Hid (parseM l=none→R=.tuple #[.agg #[.bool false,.string ⟨#[]⟩,.string ⟨#[]⟩],.bool false]):=Lib.hid fun h=>by rw [←HR.out,h];rfl
 have HN:=Lib.hid hn;clear h0 htab hl hn hS;have HB:=Lib.hid (Below.refl wq.heap.size wq);obtain ⟨n0,hn0⟩:∃n,n=wq.heap.size:=⟨_,rfl⟩;rw [←hn0];have HN0:=Lib.hid hn0;clear hn0;go_enter Tryz.func31,Tryz.ntmps31;obtain ⟨W1,bk2,hW1,hbk2,HX2_1,HB,HG2_1,hup⟩:=boxZ HB HN0;clear hup
 by_cases h5:S.size<5
 ·have h5' :(S.size:Int)<5:=by omega
  obtain ⟨W2,hW2,HX2_1,HB,ho,f2a,f2b,f2c,k2a,k2b,k2c⟩:=putZ HX2_1 HB HN0 HG2_1;clear ho;go_wp2_with fail;clear hW1 hbk2 f2a f2b f2c k2a k2b k2c hW2;refine bodyPost_ret (rC2 HX2_1.out) rfl ?_;have h:=HBAD.out (parse_n1 (by have:=HN.out;unfold shapeP;simp;omega));subst h;exact ⟨rfl,by rw [HN0.out];exact HB.out⟩
 ·have h5' :¬(S.size:Int)<5:=by omega
  by_cases h30:30<S.size
  ·have h30' :30<(S.size:Int):=by omega
   obtain ⟨W3,hW3,HX2_1,HB,ho,f3a,f3b,f3c,k3a,k3b,k3c⟩:=putZ HX2_1 HB HN0 HG2_1;clear ho;go_wp2_with fail;clear hW1 hbk2 f3a f3b f3c k3a k3b k3c hW3;refine bodyPost_ret (rC2 HX2_1.out) rfl ?_;have h:=HBAD.out (parse_n1 (by have:=HN.out;unfold shapeP;simp;omega));subst h;exact ⟨rfl,by rw [HN0.out];exact HB.out⟩
  ·have h30' :¬30<(S.size:Int):=by omega
   have k3:(0:Int)≤(S.size:Int)-3:=by omega
   have j3:S.size-3<S.size:=by omega
   have j1:1<S.size:=by omega
   obtain ⟨d,hd⟩:∃d,S[S.size-3]'j3=d:=⟨_,rfl⟩;obtain ⟨m,hm⟩:∃d,S[1]'j1=d:=⟨_,rfl⟩;have HD:Hid (l[l.length-3]? =some d):=Lib.hid (by rw [HN.out, ←HL.out, ←hd];exact list_at S j3);have HM:Hid (l[1]? =some m):=Lib.hid (by rw [←HL.out, ←hm];exact list_at S j1)
   by_cases hdot:d=46
   ·subst hdot;have HSH:Hid (shapeP l=true):=Lib.hid (by have:=HN.out;unfold shapeP;rw [HD.out];simp;omega);have hi:((((46:UInt8).toNat:Nat):Int)==46)=true:=rfl
    by_cases hneg:m=45
    ·subst hneg;have hmm:((((45:UInt8).toNat:Nat):Int)==45)=true:=rfl;have HNG:Hid (negL l=true):=Lib.hid (by unfold negL;rw [HM.out];simp);have HS:=Lib.hid (And.intro h5 h30);go_wp2_with fail;clear hd hm hi hmm h5 h30 h5' h30' k3 j3 j1;have k5:(5:Int)≤(S.size:Int):=by have:=HS.out.1;omega
     have k30:(S.size:Int)≤30:=by have:=HS.out.2;omega
     have hw3:IntKind.i64.wrap ((S.size:Int)-3)=(S.size:Int)-3:=IntWalk.i64_in _ (by omega);have hw2:IntKind.i64.wrap ((S.size:Int)-2)=(S.size:Int)-2:=IntWalk.i64_in _ (by omega);have q1:(0:Int)≤(S.size:Int)-3:=by omega
     have q2:(1:Int)≤(S.size:Int)-3:=by omega
     have q3:(S.size:Int)-3≤(S.size:Int):=by omega
     have q4:(0:Int)≤(S.size:Int)-2:=by omega
     have q5:(S.size:Int)-2≤(S.size:Int):=by omega
     go_quiet (fail)
     clear k5 k30 hw3 hw2 q1 q2 q3 q4 q5;obtain ⟨D,hD⟩:∃D,S.extract 1 (S.size-3)++S.extract (S.size-2) S.size=D:=⟨_,rfl⟩;have HDL:Hid (D.data.toList=dgs l):=Lib.hid (by
      rw [←hD,app_list,ext_list,ext_list,HL.out];unfold dgs;have ht:l.take S.size=l:=List.take_of_length_le (by rw [HN.out];exact Nat.le_refl _);rw [HN.out,ht])
     have HDS:Hid (D.size≤60∧1<D.size):=Lib.hid (by have h1:=HS.out.1;have h2:=HS.out.2;rw [←hD,ByteArray.size_append,ByteArray.size_extract,ByteArray.size_extract];omega);rw [hD];clear hD;have hb:=below_drewN (Below.refl W1.heap.size W1) nq;obtain ⟨w2,hw2⟩:∃w2,W1.drewN nq=w2:=⟨_,rfl⟩;rw [hw2] at hb ⊢;clear hw2;have HX2_1:=uH hb HX2_1;have HB:=mH HB hb;clear hb;have hs1:(1:Int)≤(D.size:Int):=by have:=HDS.out.2;omega
     have hs2:(0:Int)≤(1:Int):=by decide
     have hs3:(D.size:Int)≤(D.size:Int):=Int.le_refl _;go_wp2_with fail;clear hs1 hs2 hs3;obtain ⟨Y,hY⟩:∃Y,D.extract 1 D.size=Y:=⟨_,rfl⟩;have HY:Hid (strip Y.data.toList=stripP l):=Lib.hid (by rw [←hY,drop_list,HDL.out];unfold stripP;rw [HNG.out];rfl);have HYS:Hid (Y.size≤60):=Lib.hid (by have:=drop_size HDS.out.2;have:=HDS.out.1;rw [←hY];omega);rw [hY];clear hY HDL HDS
     go_loopw [5] (fun d wr=>∃X:ByteArray,d=.string X∧Hid (strip X.data.toList=stripP l)∧Hid (X.size≤60)∧Hid (wr.heap[bk2]? =some (.cells #[.bool false,.string ⟨#[]⟩,.string ⟨#[]⟩] 26 (0,0)))∧Hid (Below wq.heap.size wq wr)) (fun d _=>szV d)
     case atStart=>exact ⟨Y,rfl,HY,HYS,HX2_1,HB⟩
     case round =>
      obtain ⟨X,rfl,HY,HYS,HX2_1,HB⟩:=hrel
      by_cases hlt:1<X.size
      ·have hlt' :(1:Int)<(X.size:Int):=by omega
       have hl0:0<X.size:=by omega
       obtain ⟨c,hc⟩:∃c,X[0]'hl0=c:=⟨_,rfl⟩;have HC:Hid (X.data.toList[0]? =some c):=Lib.hid (by rw [←hc];exact list_at X hl0)
       by_cases h48:c=48
       ·subst h48;have h4:((((48:UInt8).toNat:Nat):Int)==48)=true:=rfl;have HLT:=Lib.hid hlt;have hs1:(1:Int)≤(X.size:Int):=by omega
        go_wp2_with fail
        go_roundw
        case rel=>exact ⟨_,rfl,Lib.hid (by rw [drop_list, ←HY.out];exact (strip_zero (by rw [list_size];exact HLT.out) HC.out).symm),Lib.hid (by have:=drop_size HLT.out;have:=HYS.out;omega),HX2_1,HB⟩
        case measure=>exact drop_size HLT.out
       ·have h4:((c.toNat:Int)==48)=false:=u8_ne (by decide) h48;have HZ:Hid (X.data.toList=stripP l):=Lib.hid (by rw [←HY.out];exact (strip_at HC.out h48).symm);have HP:Hid (∀w,Gv 76 #[.string X] w (.tuple #[.string (encS (parV X)),.bool (parB X)])):=Lib.hid fun w=>Parse_any X w (by have:=HYS.out;omega)
        have HPB:Hid (parB X=okP (stripP l)):=Lib.hid (by unfold parB;rw [HZ.out]);have HPV:Hid (okP (stripP l)=true→parV X=decV (stripP l)):=Lib.hid fun h=>by unfold parV;rw [HZ.out,if_pos h]
        have HPS:Hid (Sz (parV X) 60):=Lib.hid (by have:=HYS.out;exact (parV_sz X).mono this);obtain ⟨p,hp⟩:∃p,parB X=p:=⟨_,rfl⟩;obtain ⟨v,hv⟩:∃p,parV X=p:=⟨_,rfl⟩;rw [hp] at HP HPB;rw [hv] at HP HPV HPS;clear hp hv;go_wp2_with fail;clear hW1 hbk2 h4 h48 hc hl0 hlt' hlt;refine (HP.out _).mono ?_;rintro e w9 ⟨rfl,hb⟩;have HX2_1:=uH hb HX2_1;have HB:=mH HB hb;clear hb;cases p
        case false =>
         obtain ⟨W10,hW10,HX2_1,HB,ho,f4a,f4b,f4c,k4a,k4b,k4c⟩:=putZ HX2_1 HB HN0 HG2_1;clear ho;go_wp2_with fail;clear f4a f4b f4c k4a k4b k4c hW10;refine bodyPost_ret (rC2 HX2_1.out) rfl ?_;have h:=HBAD.out (parse_n2 HPB.out.symm);subst h;exact ⟨rfl,by rw [HN0.out];exact HB.out⟩
        case true =>
         go_wp2_with fail;have hv2:=HPV.out HPB.out.symm;have hgd:=parse_yes HSH.out HPB.out.symm;rw [HNG.out, ←hv2] at hgd;have hLo:(low true v 100).Ok:=low_ok _ (by decide);have hLz:Rz (low true v 100) 60:=low_sz HPS.out (show Sz 100 60 by unfold Sz;decide);have c1:=fun w=>RatMake_any true (encS v) (encS 100) w (Nat.le_trans (encS_size_lt HPS.out) (by decide)) (Nat.le_trans (encS_size_lt (show Sz 100 60 by unfold Sz;decide)) (by decide))
         have e:makeV true (encS v) (encS 100)=.tuple #[rtV (low true v 100),.bool true]:=by unfold makeV;rw [right_enc,right_enc,numS_encS,numS_encS];rfl
         rw [e] at c1;clear e;have c2:∀w,Below wq.heap.size wq w→_:=fun w h=>MoText_r hLo (hLz.mono (by decide)) w (HTB.out.on h).here
         obtain ⟨L,hL⟩:∃L,low true v 100=L:=⟨_,rfl⟩;rw [hL] at hgd c1 c2;have HGD:=Lib.hid hgd;clear hgd hv2 hLo hLz hL
         by_cases hac:accept l L=true
         ·obtain ⟨ha1,ha2⟩:=accept_iff.1 hac;rw [if_pos hac] at HGD;have hR:R=.tuple #[rtV L,.bool true]:=by rw [←HR.out,HGD.out];rfl
          have hts:(⟨(textM L).toArray⟩:ByteArray)=S:=by rw [ha2, ←HL.out]
          unfold textV at c2;simp only [if_pos ha1,hts] at c2;subst hR;have C1:Hid (∀w,Gv 72 #[.int .i64 100] w (.string (encS 100))):=Lib.hid fun w=>by
           have h:=(fun w=>Of_any 100 w (by decide)) w;exact h
          have C2:Hid (∀w,Gv 77 #[.bool true,.string (encS v),.string (encS 100)] w (.tuple #[.agg #[.bool L.neg,.string (encS L.num),.string (encS L.den)],.bool true])):=Lib.hid c1;have C3:Hid (∀w,Below wq.heap.size wq w→Gv 30 #[rtV L] w (.tuple #[.string S,.bool true])):=Lib.hid c2;clear c1 c2;go_wp2_with fail;refine (C1.out _).mono ?_;rintro e w11 ⟨rfl,hb⟩;have HX2_1:=uH hb HX2_1;have HB:=mH HB hb;clear hb;go_wp2_with fail;refine (C2.out _).mono ?_;rintro e w12 ⟨rfl,hb⟩;have HX2_1:=uH hb HX2_1;have HB:=mH HB hb;clear hb;obtain ⟨W13,bk8,hW13,hbk8,HX8_5,HB,HG8_5,hup⟩:=boxZ HB HN0;have HL8_5:=(hup _ _ HX2_1).2;have HX2_1:=(hup _ _ HX2_1).1;clear hup;obtain ⟨W14,hW14,HX8_5,HB,ho,f6a,f6b,f6c,k6a,k6b,k6c⟩:=putR HX8_5 HB HN0 HG8_5 L;have HX2_1:=ho _ _ (en1 HL8_5) HX2_1;clear ho;obtain ⟨k7a,k7b,k7c⟩:=c3 HX8_5;go_wp2_with fail;clear hW13 hbk8 f6a f6b f6c k6a k6b k6c hW14 k7a k7b k7c
          refine (C3.out _ HB.out).mono ?_;rintro e w15 ⟨rfl,hb⟩;have HX2_1:=uH hb HX2_1;have HX8_5:=uH hb HX8_5;have HB:=mH HB hb;clear hb;obtain ⟨k8a,k8b,k8c⟩:=c3 HX8_5;obtain ⟨W16,hW16,HX2_1,HB,ho,f9a,f9b,f9c,k9a,k9b,k9c⟩:=putR HX2_1 HB HN0 HG2_1 L;have HX8_5:=ho _ _ (ne1 HL8_5) HX8_5;clear ho;go_wp2_with fail;clear k8a k8b k8c f9a f9b f9c k9a k9b k9c hW16;refine bodyPost_ret (rC2 HX2_1.out) rfl ?_;exact ⟨rfl,by rw [HN0.out];exact HB.out⟩
         ·have hno:accept l L=false:=by simpa using hac
          rw [hno] at HGD;have hR:=HBAD.out HGD.out;subst hR
          by_cases ha1:centsOk L=true
          ·have hne:¬(⟨(textM L).toArray⟩:ByteArray)=S:=fun h=>hac (accept_iff.2 ⟨ha1,by rw [←HL.out, ←h]⟩)
           unfold textV at c2;simp only [if_pos ha1] at c2;obtain ⟨T,hT⟩:∃T,(⟨(textM L).toArray⟩:ByteArray)=T:=⟨_,rfl⟩;rw [hT] at hne;simp only [hT] at c2;have HNE:Hid (¬T.toList=S.toList):=Lib.hid fun h=>hne (bytes_ext.1 h)
           clear hT hne hac hno ha1;have C1:Hid (∀w,Gv 72 #[.int .i64 100] w (.string (encS 100))):=Lib.hid fun w=>by
            have h:=(fun w=>Of_any 100 w (by decide)) w;exact h
           have C2:Hid (∀w,Gv 77 #[.bool true,.string (encS v),.string (encS 100)] w (.tuple #[.agg #[.bool L.neg,.string (encS L.num),.string (encS L.den)],.bool true])):=Lib.hid c1;have C3:Hid (∀w,Below wq.heap.size wq w→Gv 30 #[rtV L] w (.tuple #[.string T,.bool true])):=Lib.hid c2;clear c1 c2;go_wp2_with fail;refine (C1.out _).mono ?_;rintro e w17 ⟨rfl,hb⟩;have HX2_1:=uH hb HX2_1;have HB:=mH HB hb;clear hb;go_wp2_with fail;refine (C2.out _).mono ?_;rintro e w18 ⟨rfl,hb⟩;have HX2_1:=uH hb HX2_1;have HB:=mH HB hb;clear hb;obtain ⟨W19,bk8,hW19,hbk8,HX8_10,HB,HG8_10,hup⟩:=boxZ HB HN0;have HL8_10:=(hup _ _ HX2_1).2;have HX2_1:=(hup _ _ HX2_1).1;clear hup;obtain ⟨W20,hW20,HX8_10,HB,ho,f11a,f11b,f11c,k11a,k11b,k11c⟩:=putR HX8_10 HB HN0 HG8_10 L;have HX2_1:=ho _ _ (en1 HL8_10) HX2_1;clear ho;obtain ⟨k12a,k12b,k12c⟩:=c3 HX8_10;go_wp2_with fail
           clear hW19 hbk8 f11a f11b f11c k11a k11b k11c hW20 k12a k12b k12c;refine (C3.out _ HB.out).mono ?_;rintro e w21 ⟨rfl,hb⟩;have HX2_1:=uH hb HX2_1;have HX8_10:=uH hb HX8_10;have HB:=mH HB hb;clear hb;have q13:=HNE.out;have q14:=(show (T.toList==S.toList)=false from by rw [beq_eq_false_iff_ne];exact HNE.out);obtain ⟨W22,hW22,HX2_1,HB,ho,f15a,f15b,f15c,k15a,k15b,k15c⟩:=putZ HX2_1 HB HN0 HG2_1;have HX8_10:=ho _ _ (ne1 HL8_10) HX8_10;clear ho;go_wp2_with fail;clear q13 q14 f15a f15b f15c k15a k15b k15c hW22;refine bodyPost_ret (rC2 HX2_1.out) rfl ?_;exact ⟨rfl,by rw [HN0.out];exact HB.out⟩
          ·unfold textV at c2;simp only [if_neg ha1] at c2;clear hac hno ha1;have C1:Hid (∀w,Gv 72 #[.int .i64 100] w (.string (encS 100))):=Lib.hid fun w=>by
            have h:=(fun w=>Of_any 100 w (by decide)) w;exact h
           have C2:Hid (∀w,Gv 77 #[.bool true,.string (encS v),.string (encS 100)] w (.tuple #[.agg #[.bool L.neg,.string (encS L.num),.string (encS L.den)],.bool true])):=Lib.hid c1;have C3:Hid (∀w,Below wq.heap.size wq w→Gv 30 #[rtV L] w (.tuple #[.string ⟨#[]⟩,.bool false])):=Lib.hid c2;clear c1 c2;go_wp2_with fail;refine (C1.out _).mono ?_;rintro e w23 ⟨rfl,hb⟩;have HX2_1:=uH hb HX2_1;have HB:=mH HB hb;clear hb;go_wp2_with fail;refine (C2.out _).mono ?_;rintro e w24 ⟨rfl,hb⟩;have HX2_1:=uH hb HX2_1;have HB:=mH HB hb;clear hb;obtain ⟨W25,bk8,hW25,hbk8,HX8_16,HB,HG8_16,hup⟩:=boxZ HB HN0;have HL8_16:=(hup _ _ HX2_1).2;have HX2_1:=(hup _ _ HX2_1).1;clear hup;obtain ⟨W26,hW26,HX8_16,HB,ho,f17a,f17b,f17c,k17a,k17b,k17c⟩:=putR HX8_16 HB HN0 HG8_16 L;have HX2_1:=ho _ _ (en1 HL8_16) HX2_1;clear ho;obtain ⟨k18a,k18b,k18c⟩:=c3 HX8_16;go_wp2_with fail
           clear hW25 hbk8 f17a f17b f17c k17a k17b k17c hW26 k18a k18b k18c;refine (C3.out _ HB.out).mono ?_;rintro e w27 ⟨rfl,hb⟩;have HX2_1:=uH hb HX2_1;have HX8_16:=uH hb HX8_16;have HB:=mH HB hb;clear hb;obtain ⟨W28,hW28,HX2_1,HB,ho,f19a,f19b,f19c,k19a,k19b,k19c⟩:=putZ HX2_1 HB HN0 HG2_1;have HX8_16:=ho _ _ (ne1 HL8_16) HX8_16;clear ho;go_wp2_with fail;clear f19a f19b f19c k19a k19b k19c hW28;refine bodyPost_ret (rC2 HX2_1.out) rfl ?_;exact ⟨rfl,by rw [HN0.out];exact HB.out⟩
      ·have hlt' :¬(1:Int)<(X.size:Int):=by omega
       have HZ:Hid (X.data.toList=stripP l):=Lib.hid (by rw [←HY.out];exact (strip_one (by rw [list_size];exact hlt)).symm);have HP:Hid (∀w,Gv 76 #[.string X] w (.tuple #[.string (encS (parV X)),.bool (parB X)])):=Lib.hid fun w=>Parse_any X w (by have:=HYS.out;omega)
       have HPB:Hid (parB X=okP (stripP l)):=Lib.hid (by unfold parB;rw [HZ.out]);have HPV:Hid (okP (stripP l)=true→parV X=decV (stripP l)):=Lib.hid fun h=>by unfold parV;rw [HZ.out,if_pos h]
       have HPS:Hid (Sz (parV X) 60):=Lib.hid (by have:=HYS.out;exact (parV_sz X).mono this);obtain ⟨p,hp⟩:∃p,parB X=p:=⟨_,rfl⟩;obtain ⟨v,hv⟩:∃p,parV X=p:=⟨_,rfl⟩;rw [hp] at HP HPB;rw [hv] at HP HPV HPS;clear hp hv;go_wp2_with fail;clear hW1 hbk2 hlt' hlt;refine (HP.out _).mono ?_;rintro e w29 ⟨rfl,hb⟩;have HX2_1:=uH hb HX2_1;have HB:=mH HB hb;clear hb;cases p
       case false =>
        obtain ⟨W30,hW30,HX2_1,HB,ho,f20a,f20b,f20c,k20a,k20b,k20c⟩:=putZ HX2_1 HB HN0 HG2_1;clear ho;go_wp2_with fail;clear f20a f20b f20c k20a k20b k20c hW30;refine bodyPost_ret (rC2 HX2_1.out) rfl ?_;have h:=HBAD.out (parse_n2 HPB.out.symm);subst h;exact ⟨rfl,by rw [HN0.out];exact HB.out⟩
       case true =>
        go_wp2_with fail;have hv2:=HPV.out HPB.out.symm;have hgd:=parse_yes HSH.out HPB.out.symm;rw [HNG.out, ←hv2] at hgd;have hLo:(low true v 100).Ok:=low_ok _ (by decide);have hLz:Rz (low true v 100) 60:=low_sz HPS.out (show Sz 100 60 by unfold Sz;decide);have c1:=fun w=>RatMake_any true (encS v) (encS 100) w (Nat.le_trans (encS_size_lt HPS.out) (by decide)) (Nat.le_trans (encS_size_lt (show Sz 100 60 by unfold Sz;decide)) (by decide))
        have e:makeV true (encS v) (encS 100)=.tuple #[rtV (low true v 100),.bool true]:=by unfold makeV;rw [right_enc,right_enc,numS_encS,numS_encS];rfl
        rw [e] at c1;clear e;have c2:∀w,Below wq.heap.size wq w→_:=fun w h=>MoText_r hLo (hLz.mono (by decide)) w (HTB.out.on h).here
        obtain ⟨L,hL⟩:∃L,low true v 100=L:=⟨_,rfl⟩;rw [hL] at hgd c1 c2;have HGD:=Lib.hid hgd;clear hgd hv2 hLo hLz hL
        by_cases hac:accept l L=true
        ·obtain ⟨ha1,ha2⟩:=accept_iff.1 hac;rw [if_pos hac] at HGD;have hR:R=.tuple #[rtV L,.bool true]:=by rw [←HR.out,HGD.out];rfl
         have hts:(⟨(textM L).toArray⟩:ByteArray)=S:=by rw [ha2, ←HL.out]
         unfold textV at c2;simp only [if_pos ha1,hts] at c2;subst hR;have C1:Hid (∀w,Gv 72 #[.int .i64 100] w (.string (encS 100))):=Lib.hid fun w=>by
          have h:=(fun w=>Of_any 100 w (by decide)) w;exact h
         have C2:Hid (∀w,Gv 77 #[.bool true,.string (encS v),.string (encS 100)] w (.tuple #[.agg #[.bool L.neg,.string (encS L.num),.string (encS L.den)],.bool true])):=Lib.hid c1;have C3:Hid (∀w,Below wq.heap.size wq w→Gv 30 #[rtV L] w (.tuple #[.string S,.bool true])):=Lib.hid c2;clear c1 c2;go_wp2_with fail;refine (C1.out _).mono ?_;rintro e w31 ⟨rfl,hb⟩;have HX2_1:=uH hb HX2_1;have HB:=mH HB hb;clear hb;go_wp2_with fail;refine (C2.out _).mono ?_;rintro e w32 ⟨rfl,hb⟩;have HX2_1:=uH hb HX2_1;have HB:=mH HB hb;clear hb;obtain ⟨W33,bk8,hW33,hbk8,HX8_21,HB,HG8_21,hup⟩:=boxZ HB HN0;have HL8_21:=(hup _ _ HX2_1).2;have HX2_1:=(hup _ _ HX2_1).1;clear hup;obtain ⟨W34,hW34,HX8_21,HB,ho,f22a,f22b,f22c,k22a,k22b,k22c⟩:=putR HX8_21 HB HN0 HG8_21 L;have HX2_1:=ho _ _ (en1 HL8_21) HX2_1;clear ho;obtain ⟨k23a,k23b,k23c⟩:=c3 HX8_21;go_wp2_with fail
         clear hW33 hbk8 f22a f22b f22c k22a k22b k22c hW34 k23a k23b k23c;refine (C3.out _ HB.out).mono ?_;rintro e w35 ⟨rfl,hb⟩;have HX2_1:=uH hb HX2_1;have HX8_21:=uH hb HX8_21;have HB:=mH HB hb;clear hb;obtain ⟨k24a,k24b,k24c⟩:=c3 HX8_21;obtain ⟨W36,hW36,HX2_1,HB,ho,f25a,f25b,f25c,k25a,k25b,k25c⟩:=putR HX2_1 HB HN0 HG2_1 L;have HX8_21:=ho _ _ (ne1 HL8_21) HX8_21;clear ho;go_wp2_with fail;clear k24a k24b k24c f25a f25b f25c k25a k25b k25c hW36;refine bodyPost_ret (rC2 HX2_1.out) rfl ?_;exact ⟨rfl,by rw [HN0.out];exact HB.out⟩
        ·have hno:accept l L=false:=by simpa using hac
         rw [hno] at HGD;have hR:=HBAD.out HGD.out;subst hR
         by_cases ha1:centsOk L=true
         ·have hne:¬(⟨(textM L).toArray⟩:ByteArray)=S:=fun h=>hac (accept_iff.2 ⟨ha1,by rw [←HL.out, ←h]⟩)
          unfold textV at c2;simp only [if_pos ha1] at c2;obtain ⟨T,hT⟩:∃T,(⟨(textM L).toArray⟩:ByteArray)=T:=⟨_,rfl⟩;rw [hT] at hne;simp only [hT] at c2;have HNE:Hid (¬T.toList=S.toList):=Lib.hid fun h=>hne (bytes_ext.1 h)
          clear hT hne hac hno ha1;have C1:Hid (∀w,Gv 72 #[.int .i64 100] w (.string (encS 100))):=Lib.hid fun w=>by
           have h:=(fun w=>Of_any 100 w (by decide)) w;exact h
          have C2:Hid (∀w,Gv 77 #[.bool true,.string (encS v),.string (encS 100)] w (.tuple #[.agg #[.bool L.neg,.string (encS L.num),.string (encS L.den)],.bool true])):=Lib.hid c1;have C3:Hid (∀w,Below wq.heap.size wq w→Gv 30 #[rtV L] w (.tuple #[.string T,.bool true])):=Lib.hid c2;clear c1 c2;go_wp2_with fail;refine (C1.out _).mono ?_;rintro e w37 ⟨rfl,hb⟩;have HX2_1:=uH hb HX2_1;have HB:=mH HB hb;clear hb;go_wp2_with fail;refine (C2.out _).mono ?_;rintro e w38 ⟨rfl,hb⟩;have HX2_1:=uH hb HX2_1;have HB:=mH HB hb;clear hb;obtain ⟨W39,bk8,hW39,hbk8,HX8_26,HB,HG8_26,hup⟩:=boxZ HB HN0;have HL8_26:=(hup _ _ HX2_1).2;have HX2_1:=(hup _ _ HX2_1).1;clear hup;obtain ⟨W40,hW40,HX8_26,HB,ho,f27a,f27b,f27c,k27a,k27b,k27c⟩:=putR HX8_26 HB HN0 HG8_26 L;have HX2_1:=ho _ _ (en1 HL8_26) HX2_1;clear ho;obtain ⟨k28a,k28b,k28c⟩:=c3 HX8_26;go_wp2_with fail
          clear hW39 hbk8 f27a f27b f27c k27a k27b k27c hW40 k28a k28b k28c;refine (C3.out _ HB.out).mono ?_;rintro e w41 ⟨rfl,hb⟩;have HX2_1:=uH hb HX2_1;have HX8_26:=uH hb HX8_26;have HB:=mH HB hb;clear hb;have q29:=HNE.out;have q30:=(show (T.toList==S.toList)=false from by rw [beq_eq_false_iff_ne];exact HNE.out);obtain ⟨W42,hW42,HX2_1,HB,ho,f31a,f31b,f31c,k31a,k31b,k31c⟩:=putZ HX2_1 HB HN0 HG2_1;have HX8_26:=ho _ _ (ne1 HL8_26) HX8_26;clear ho;go_wp2_with fail;clear q29 q30 f31a f31b f31c k31a k31b k31c hW42;refine bodyPost_ret (rC2 HX2_1.out) rfl ?_;exact ⟨rfl,by rw [HN0.out];exact HB.out⟩
         ·unfold textV at c2;simp only [if_neg ha1] at c2;clear hac hno ha1;have C1:Hid (∀w,Gv 72 #[.int .i64 100] w (.string (encS 100))):=Lib.hid fun w=>by
           have h:=(fun w=>Of_any 100 w (by decide)) w;exact h
          have C2:Hid (∀w,Gv 77 #[.bool true,.string (encS v),.string (encS 100)] w (.tuple #[.agg #[.bool L.neg,.string (encS L.num),.string (encS L.den)],.bool true])):=Lib.hid c1;have C3:Hid (∀w,Below wq.heap.size wq w→Gv 30 #[rtV L] w (.tuple #[.string ⟨#[]⟩,.bool false])):=Lib.hid c2;clear c1 c2;go_wp2_with fail;refine (C1.out _).mono ?_;rintro e w43 ⟨rfl,hb⟩;have HX2_1:=uH hb HX2_1;have HB:=mH HB hb;clear hb;go_wp2_with fail;refine (C2.out _).mono ?_;rintro e w44 ⟨rfl,hb⟩;have HX2_1:=uH hb HX2_1;have HB:=mH HB hb;clear hb;obtain ⟨W45,bk8,hW45,hbk8,HX8_32,HB,HG8_32,hup⟩:=boxZ HB HN0;have HL8_32:=(hup _ _ HX2_1).2;have HX2_1:=(hup _ _ HX2_1).1;clear hup;obtain ⟨W46,hW46,HX8_32,HB,ho,f33a,f33b,f33c,k33a,k33b,k33c⟩:=putR HX8_32 HB HN0 HG8_32 L;have HX2_1:=ho _ _ (en1 HL8_32) HX2_1;clear ho;obtain ⟨k34a,k34b,k34c⟩:=c3 HX8_32;go_wp2_with fail
          clear hW45 hbk8 f33a f33b f33c k33a k33b k33c hW46 k34a k34b k34c;refine (C3.out _ HB.out).mono ?_;rintro e w47 ⟨rfl,hb⟩;have HX2_1:=uH hb HX2_1;have HX8_32:=uH hb HX8_32;have HB:=mH HB hb;clear hb;obtain ⟨W48,hW48,HX2_1,HB,ho,f35a,f35b,f35c,k35a,k35b,k35c⟩:=putZ HX2_1 HB HN0 HG2_1;have HX8_32:=ho _ _ (ne1 HL8_32) HX8_32;clear ho;go_wp2_with fail;clear f35a f35b f35c k35a k35b k35c hW48;refine bodyPost_ret (rC2 HX2_1.out) rfl ?_;exact ⟨rfl,by rw [HN0.out];exact HB.out⟩
    ·have hmm:((m.toNat:Int)==45)=false:=u8_ne (by decide) hneg;have HNG:Hid (negL l=false):=Lib.hid (by unfold negL;rw [HM.out];simp [hneg]);have HS:=Lib.hid (And.intro h5 h30);go_wp2_with fail;clear hd hm hi hmm h5 h30 h5' h30' k3 j3 j1 hneg;have k5:(5:Int)≤(S.size:Int):=by have:=HS.out.1;omega
     have k30:(S.size:Int)≤30:=by have:=HS.out.2;omega
     have hw3:IntKind.i64.wrap ((S.size:Int)-3)=(S.size:Int)-3:=IntWalk.i64_in _ (by omega);have hw2:IntKind.i64.wrap ((S.size:Int)-2)=(S.size:Int)-2:=IntWalk.i64_in _ (by omega);have q1:(0:Int)≤(S.size:Int)-3:=by omega
     have q2:(1:Int)≤(S.size:Int)-3:=by omega
     have q3:(S.size:Int)-3≤(S.size:Int):=by omega
     have q4:(0:Int)≤(S.size:Int)-2:=by omega
     have q5:(S.size:Int)-2≤(S.size:Int):=by omega
     go_quiet (fail)
     clear k5 k30 hw3 hw2 q1 q2 q3 q4 q5;obtain ⟨D,hD⟩:∃D,S.extract 1 (S.size-3)++S.extract (S.size-2) S.size=D:=⟨_,rfl⟩;have HDL:Hid (D.data.toList=dgs l):=Lib.hid (by
      rw [←hD,app_list,ext_list,ext_list,HL.out];unfold dgs;have ht:l.take S.size=l:=List.take_of_length_le (by rw [HN.out];exact Nat.le_refl _);rw [HN.out,ht])
     have HDS:Hid (D.size≤60∧1<D.size):=Lib.hid (by have h1:=HS.out.1;have h2:=HS.out.2;rw [←hD,ByteArray.size_append,ByteArray.size_extract,ByteArray.size_extract];omega);rw [hD];clear hD;have hb:=below_drewN (Below.refl W1.heap.size W1) nq;obtain ⟨w2,hw2⟩:∃w2,W1.drewN nq=w2:=⟨_,rfl⟩;rw [hw2] at hb ⊢;clear hw2;have HX2_1:=uH hb HX2_1;have HB:=mH HB hb;clear hb;go_wp2_with fail;obtain ⟨Y,hY⟩:∃Y,D=Y:=⟨_,rfl⟩;have HY:Hid (strip Y.data.toList=stripP l):=Lib.hid (by rw [←hY,HDL.out];unfold stripP;rw [HNG.out];rfl);have HYS:Hid (Y.size≤60):=Lib.hid (by have:=HDS.out.1;rw [←hY];omega);rw [hY];clear hY HDL HDS
     go_loopw [5] (fun d wr=>∃X:ByteArray,d=.string X∧Hid (strip X.data.toList=stripP l)∧Hid (X.size≤60)∧Hid (wr.heap[bk2]? =some (.cells #[.bool false,.string ⟨#[]⟩,.string ⟨#[]⟩] 26 (0,0)))∧Hid (Below wq.heap.size wq wr)) (fun d _=>szV d)
     case atStart=>exact ⟨Y,rfl,HY,HYS,HX2_1,HB⟩
     case round =>
      obtain ⟨X,rfl,HY,HYS,HX2_1,HB⟩:=hrel
      by_cases hlt:1<X.size
      ·have hlt' :(1:Int)<(X.size:Int):=by omega
       have hl0:0<X.size:=by omega
       obtain ⟨c,hc⟩:∃c,X[0]'hl0=c:=⟨_,rfl⟩;have HC:Hid (X.data.toList[0]? =some c):=Lib.hid (by rw [←hc];exact list_at X hl0)
       by_cases h48:c=48
       ·subst h48;have h4:((((48:UInt8).toNat:Nat):Int)==48)=true:=rfl;have HLT:=Lib.hid hlt;have hs1:(1:Int)≤(X.size:Int):=by omega
        go_wp2_with fail
        go_roundw
        case rel=>exact ⟨_,rfl,Lib.hid (by rw [drop_list, ←HY.out];exact (strip_zero (by rw [list_size];exact HLT.out) HC.out).symm),Lib.hid (by have:=drop_size HLT.out;have:=HYS.out;omega),HX2_1,HB⟩
        case measure=>exact drop_size HLT.out
       ·have h4:((c.toNat:Int)==48)=false:=u8_ne (by decide) h48;have HZ:Hid (X.data.toList=stripP l):=Lib.hid (by rw [←HY.out];exact (strip_at HC.out h48).symm);have HP:Hid (∀w,Gv 76 #[.string X] w (.tuple #[.string (encS (parV X)),.bool (parB X)])):=Lib.hid fun w=>Parse_any X w (by have:=HYS.out;omega)
        have HPB:Hid (parB X=okP (stripP l)):=Lib.hid (by unfold parB;rw [HZ.out]);have HPV:Hid (okP (stripP l)=true→parV X=decV (stripP l)):=Lib.hid fun h=>by unfold parV;rw [HZ.out,if_pos h]
        have HPS:Hid (Sz (parV X) 60):=Lib.hid (by have:=HYS.out;exact (parV_sz X).mono this);obtain ⟨p,hp⟩:∃p,parB X=p:=⟨_,rfl⟩;obtain ⟨v,hv⟩:∃p,parV X=p:=⟨_,rfl⟩;rw [hp] at HP HPB;rw [hv] at HP HPV HPS;clear hp hv;go_wp2_with fail;clear hW1 hbk2 h4 h48 hc hl0 hlt' hlt;refine (HP.out _).mono ?_;rintro e w54 ⟨rfl,hb⟩;have HX2_1:=uH hb HX2_1;have HB:=mH HB hb;clear hb;cases p
        case false =>
         obtain ⟨W55,hW55,HX2_1,HB,ho,f36a,f36b,f36c,k36a,k36b,k36c⟩:=putZ HX2_1 HB HN0 HG2_1;clear ho;go_wp2_with fail;clear f36a f36b f36c k36a k36b k36c hW55;refine bodyPost_ret (rC2 HX2_1.out) rfl ?_;have h:=HBAD.out (parse_n2 HPB.out.symm);subst h;exact ⟨rfl,by rw [HN0.out];exact HB.out⟩
        case true =>
         go_wp2_with fail;have hv2:=HPV.out HPB.out.symm;have hgd:=parse_yes HSH.out HPB.out.symm;rw [HNG.out, ←hv2] at hgd;have hLo:(low false v 100).Ok:=low_ok _ (by decide);have hLz:Rz (low false v 100) 60:=low_sz HPS.out (show Sz 100 60 by unfold Sz;decide);have c1:=fun w=>RatMake_any false (encS v) (encS 100) w (Nat.le_trans (encS_size_lt HPS.out) (by decide)) (Nat.le_trans (encS_size_lt (show Sz 100 60 by unfold Sz;decide)) (by decide))
         have e:makeV false (encS v) (encS 100)=.tuple #[rtV (low false v 100),.bool true]:=by unfold makeV;rw [right_enc,right_enc,numS_encS,numS_encS];rfl
         rw [e] at c1;clear e;have c2:∀w,Below wq.heap.size wq w→_:=fun w h=>MoText_r hLo (hLz.mono (by decide)) w (HTB.out.on h).here
         obtain ⟨L,hL⟩:∃L,low false v 100=L:=⟨_,rfl⟩;rw [hL] at hgd c1 c2;have HGD:=Lib.hid hgd;clear hgd hv2 hLo hLz hL
         by_cases hac:accept l L=true
         ·obtain ⟨ha1,ha2⟩:=accept_iff.1 hac;rw [if_pos hac] at HGD;have hR:R=.tuple #[rtV L,.bool true]:=by rw [←HR.out,HGD.out];rfl
          have hts:(⟨(textM L).toArray⟩:ByteArray)=S:=by rw [ha2, ←HL.out]
          unfold textV at c2;simp only [if_pos ha1,hts] at c2;subst hR;have C1:Hid (∀w,Gv 72 #[.int .i64 100] w (.string (encS 100))):=Lib.hid fun w=>by
           have h:=(fun w=>Of_any 100 w (by decide)) w;exact h
          have C2:Hid (∀w,Gv 77 #[.bool false,.string (encS v),.string (encS 100)] w (.tuple #[.agg #[.bool L.neg,.string (encS L.num),.string (encS L.den)],.bool true])):=Lib.hid c1;have C3:Hid (∀w,Below wq.heap.size wq w→Gv 30 #[rtV L] w (.tuple #[.string S,.bool true])):=Lib.hid c2;clear c1 c2;go_wp2_with fail;refine (C1.out _).mono ?_;rintro e w56 ⟨rfl,hb⟩;have HX2_1:=uH hb HX2_1;have HB:=mH HB hb;clear hb;go_wp2_with fail;refine (C2.out _).mono ?_;rintro e w57 ⟨rfl,hb⟩;have HX2_1:=uH hb HX2_1;have HB:=mH HB hb;clear hb;obtain ⟨W58,bk8,hW58,hbk8,HX8_37,HB,HG8_37,hup⟩:=boxZ HB HN0;have HL8_37:=(hup _ _ HX2_1).2;have HX2_1:=(hup _ _ HX2_1).1;clear hup;obtain ⟨W59,hW59,HX8_37,HB,ho,f38a,f38b,f38c,k38a,k38b,k38c⟩:=putR HX8_37 HB HN0 HG8_37 L;have HX2_1:=ho _ _ (en1 HL8_37) HX2_1;clear ho;obtain ⟨k39a,k39b,k39c⟩:=c3 HX8_37;go_wp2_with fail
          clear hW58 hbk8 f38a f38b f38c k38a k38b k38c hW59 k39a k39b k39c;refine (C3.out _ HB.out).mono ?_;rintro e w60 ⟨rfl,hb⟩;have HX2_1:=uH hb HX2_1;have HX8_37:=uH hb HX8_37;have HB:=mH HB hb;clear hb;obtain ⟨k40a,k40b,k40c⟩:=c3 HX8_37;obtain ⟨W61,hW61,HX2_1,HB,ho,f41a,f41b,f41c,k41a,k41b,k41c⟩:=putR HX2_1 HB HN0 HG2_1 L;have HX8_37:=ho _ _ (ne1 HL8_37) HX8_37;clear ho;go_wp2_with fail;clear k40a k40b k40c f41a f41b f41c k41a k41b k41c hW61;refine bodyPost_ret (rC2 HX2_1.out) rfl ?_;exact ⟨rfl,by rw [HN0.out];exact HB.out⟩
         ·have hno:accept l L=false:=by simpa using hac
          rw [hno] at HGD;have hR:=HBAD.out HGD.out;subst hR
          by_cases ha1:centsOk L=true
          ·have hne:¬(⟨(textM L).toArray⟩:ByteArray)=S:=fun h=>hac (accept_iff.2 ⟨ha1,by rw [←HL.out, ←h]⟩)
           unfold textV at c2;simp only [if_pos ha1] at c2;obtain ⟨T,hT⟩:∃T,(⟨(textM L).toArray⟩:ByteArray)=T:=⟨_,rfl⟩;rw [hT] at hne;simp only [hT] at c2;have HNE:Hid (¬T.toList=S.toList):=Lib.hid fun h=>hne (bytes_ext.1 h)
           clear hT hne hac hno ha1;have C1:Hid (∀w,Gv 72 #[.int .i64 100] w (.string (encS 100))):=Lib.hid fun w=>by
            have h:=(fun w=>Of_any 100 w (by decide)) w;exact h
           have C2:Hid (∀w,Gv 77 #[.bool false,.string (encS v),.string (encS 100)] w (.tuple #[.agg #[.bool L.neg,.string (encS L.num),.string (encS L.den)],.bool true])):=Lib.hid c1;have C3:Hid (∀w,Below wq.heap.size wq w→Gv 30 #[rtV L] w (.tuple #[.string T,.bool true])):=Lib.hid c2;clear c1 c2;go_wp2_with fail;refine (C1.out _).mono ?_;rintro e w62 ⟨rfl,hb⟩;have HX2_1:=uH hb HX2_1;have HB:=mH HB hb;clear hb;go_wp2_with fail;refine (C2.out _).mono ?_;rintro e w63 ⟨rfl,hb⟩;have HX2_1:=uH hb HX2_1;have HB:=mH HB hb;clear hb;obtain ⟨W64,bk8,hW64,hbk8,HX8_42,HB,HG8_42,hup⟩:=boxZ HB HN0;have HL8_42:=(hup _ _ HX2_1).2;have HX2_1:=(hup _ _ HX2_1).1;clear hup;obtain ⟨W65,hW65,HX8_42,HB,ho,f43a,f43b,f43c,k43a,k43b,k43c⟩:=putR HX8_42 HB HN0 HG8_42 L;have HX2_1:=ho _ _ (en1 HL8_42) HX2_1;clear ho;obtain ⟨k44a,k44b,k44c⟩:=c3 HX8_42;go_wp2_with fail
           clear hW64 hbk8 f43a f43b f43c k43a k43b k43c hW65 k44a k44b k44c;refine (C3.out _ HB.out).mono ?_;rintro e w66 ⟨rfl,hb⟩;have HX2_1:=uH hb HX2_1;have HX8_42:=uH hb HX8_42;have HB:=mH HB hb;clear hb;have q45:=HNE.out;have q46:=(show (T.toList==S.toList)=false from by rw [beq_eq_false_iff_ne];exact HNE.out);obtain ⟨W67,hW67,HX2_1,HB,ho,f47a,f47b,f47c,k47a,k47b,k47c⟩:=putZ HX2_1 HB HN0 HG2_1;have HX8_42:=ho _ _ (ne1 HL8_42) HX8_42;clear ho;go_wp2_with fail;clear q45 q46 f47a f47b f47c k47a k47b k47c hW67;refine bodyPost_ret (rC2 HX2_1.out) rfl ?_;exact ⟨rfl,by rw [HN0.out];exact HB.out⟩
          ·unfold textV at c2;simp only [if_neg ha1] at c2;clear hac hno ha1;have C1:Hid (∀w,Gv 72 #[.int .i64 100] w (.string (encS 100))):=Lib.hid fun w=>by
            have h:=(fun w=>Of_any 100 w (by decide)) w;exact h
           have C2:Hid (∀w,Gv 77 #[.bool false,.string (encS v),.string (encS 100)] w (.tuple #[.agg #[.bool L.neg,.string (encS L.num),.string (encS L.den)],.bool true])):=Lib.hid c1;have C3:Hid (∀w,Below wq.heap.size wq w→Gv 30 #[rtV L] w (.tuple #[.string ⟨#[]⟩,.bool false])):=Lib.hid c2;clear c1 c2;go_wp2_with fail;refine (C1.out _).mono ?_;rintro e w68 ⟨rfl,hb⟩;have HX2_1:=uH hb HX2_1;have HB:=mH HB hb;clear hb;go_wp2_with fail;refine (C2.out _).mono ?_;rintro e w69 ⟨rfl,hb⟩;have HX2_1:=uH hb HX2_1;have HB:=mH HB hb;clear hb;obtain ⟨W70,bk8,hW70,hbk8,HX8_48,HB,HG8_48,hup⟩:=boxZ HB HN0;have HL8_48:=(hup _ _ HX2_1).2;have HX2_1:=(hup _ _ HX2_1).1;clear hup;obtain ⟨W71,hW71,HX8_48,HB,ho,f49a,f49b,f49c,k49a,k49b,k49c⟩:=putR HX8_48 HB HN0 HG8_48 L;have HX2_1:=ho _ _ (en1 HL8_48) HX2_1;clear ho;obtain ⟨k50a,k50b,k50c⟩:=c3 HX8_48;go_wp2_with fail
           clear hW70 hbk8 f49a f49b f49c k49a k49b k49c hW71 k50a k50b k50c;refine (C3.out _ HB.out).mono ?_;rintro e w72 ⟨rfl,hb⟩;have HX2_1:=uH hb HX2_1;have HX8_48:=uH hb HX8_48;have HB:=mH HB hb;clear hb;obtain ⟨W73,hW73,HX2_1,HB,ho,f51a,f51b,f51c,k51a,k51b,k51c⟩:=putZ HX2_1 HB HN0 HG2_1;have HX8_48:=ho _ _ (ne1 HL8_48) HX8_48;clear ho;go_wp2_with fail;clear f51a f51b f51c k51a k51b k51c hW73;refine bodyPost_ret (rC2 HX2_1.out) rfl ?_;exact ⟨rfl,by rw [HN0.out];exact HB.out⟩
      ·have hlt' :¬(1:Int)<(X.size:Int):=by omega
       have HZ:Hid (X.data.toList=stripP l):=Lib.hid (by rw [←HY.out];exact (strip_one (by rw [list_size];exact hlt)).symm);have HP:Hid (∀w,Gv 76 #[.string X] w (.tuple #[.string (encS (parV X)),.bool (parB X)])):=Lib.hid fun w=>Parse_any X w (by have:=HYS.out;omega)
       have HPB:Hid (parB X=okP (stripP l)):=Lib.hid (by unfold parB;rw [HZ.out]);have HPV:Hid (okP (stripP l)=true→parV X=decV (stripP l)):=Lib.hid fun h=>by unfold parV;rw [HZ.out,if_pos h]
       have HPS:Hid (Sz (parV X) 60):=Lib.hid (by have:=HYS.out;exact (parV_sz X).mono this);obtain ⟨p,hp⟩:∃p,parB X=p:=⟨_,rfl⟩;obtain ⟨v,hv⟩:∃p,parV X=p:=⟨_,rfl⟩;rw [hp] at HP HPB;rw [hv] at HP HPV HPS;clear hp hv;go_wp2_with fail;clear hW1 hbk2 hlt' hlt;refine (HP.out _).mono ?_;rintro e w74 ⟨rfl,hb⟩;have HX2_1:=uH hb HX2_1;have HB:=mH HB hb;clear hb;cases p
       case false =>
        obtain ⟨W75,hW75,HX2_1,HB,ho,f52a,f52b,f52c,k52a,k52b,k52c⟩:=putZ HX2_1 HB HN0 HG2_1;clear ho;go_wp2_with fail;clear f52a f52b f52c k52a k52b k52c hW75;refine bodyPost_ret (rC2 HX2_1.out) rfl ?_;have h:=HBAD.out (parse_n2 HPB.out.symm);subst h;exact ⟨rfl,by rw [HN0.out];exact HB.out⟩
       case true =>
        go_wp2_with fail;have hv2:=HPV.out HPB.out.symm;have hgd:=parse_yes HSH.out HPB.out.symm;rw [HNG.out, ←hv2] at hgd;have hLo:(low false v 100).Ok:=low_ok _ (by decide);have hLz:Rz (low false v 100) 60:=low_sz HPS.out (show Sz 100 60 by unfold Sz;decide);have c1:=fun w=>RatMake_any false (encS v) (encS 100) w (Nat.le_trans (encS_size_lt HPS.out) (by decide)) (Nat.le_trans (encS_size_lt (show Sz 100 60 by unfold Sz;decide)) (by decide))
        have e:makeV false (encS v) (encS 100)=.tuple #[rtV (low false v 100),.bool true]:=by unfold makeV;rw [right_enc,right_enc,numS_encS,numS_encS];rfl
        rw [e] at c1;clear e;have c2:∀w,Below wq.heap.size wq w→_:=fun w h=>MoText_r hLo (hLz.mono (by decide)) w (HTB.out.on h).here
        obtain ⟨L,hL⟩:∃L,low false v 100=L:=⟨_,rfl⟩;rw [hL] at hgd c1 c2;have HGD:=Lib.hid hgd;clear hgd hv2 hLo hLz hL
        by_cases hac:accept l L=true
        ·obtain ⟨ha1,ha2⟩:=accept_iff.1 hac;rw [if_pos hac] at HGD;have hR:R=.tuple #[rtV L,.bool true]:=by rw [←HR.out,HGD.out];rfl
         have hts:(⟨(textM L).toArray⟩:ByteArray)=S:=by rw [ha2, ←HL.out]
         unfold textV at c2;simp only [if_pos ha1,hts] at c2;subst hR;have C1:Hid (∀w,Gv 72 #[.int .i64 100] w (.string (encS 100))):=Lib.hid fun w=>by
          have h:=(fun w=>Of_any 100 w (by decide)) w;exact h
         have C2:Hid (∀w,Gv 77 #[.bool false,.string (encS v),.string (encS 100)] w (.tuple #[.agg #[.bool L.neg,.string (encS L.num),.string (encS L.den)],.bool true])):=Lib.hid c1;have C3:Hid (∀w,Below wq.heap.size wq w→Gv 30 #[rtV L] w (.tuple #[.string S,.bool true])):=Lib.hid c2;clear c1 c2;go_wp2_with fail;refine (C1.out _).mono ?_;rintro e w76 ⟨rfl,hb⟩;have HX2_1:=uH hb HX2_1;have HB:=mH HB hb;clear hb;go_wp2_with fail;refine (C2.out _).mono ?_;rintro e w77 ⟨rfl,hb⟩;have HX2_1:=uH hb HX2_1;have HB:=mH HB hb;clear hb;obtain ⟨W78,bk8,hW78,hbk8,HX8_53,HB,HG8_53,hup⟩:=boxZ HB HN0;have HL8_53:=(hup _ _ HX2_1).2;have HX2_1:=(hup _ _ HX2_1).1;clear hup;obtain ⟨W79,hW79,HX8_53,HB,ho,f54a,f54b,f54c,k54a,k54b,k54c⟩:=putR HX8_53 HB HN0 HG8_53 L;have HX2_1:=ho _ _ (en1 HL8_53) HX2_1;clear ho;obtain ⟨k55a,k55b,k55c⟩:=c3 HX8_53;go_wp2_with fail
         clear hW78 hbk8 f54a f54b f54c k54a k54b k54c hW79 k55a k55b k55c;refine (C3.out _ HB.out).mono ?_;rintro e w80 ⟨rfl,hb⟩;have HX2_1:=uH hb HX2_1;have HX8_53:=uH hb HX8_53;have HB:=mH HB hb;clear hb;obtain ⟨k56a,k56b,k56c⟩:=c3 HX8_53;obtain ⟨W81,hW81,HX2_1,HB,ho,f57a,f57b,f57c,k57a,k57b,k57c⟩:=putR HX2_1 HB HN0 HG2_1 L;have HX8_53:=ho _ _ (ne1 HL8_53) HX8_53;clear ho;go_wp2_with fail;clear k56a k56b k56c f57a f57b f57c k57a k57b k57c hW81;refine bodyPost_ret (rC2 HX2_1.out) rfl ?_;exact ⟨rfl,by rw [HN0.out];exact HB.out⟩
        ·have hno:accept l L=false:=by simpa using hac
         rw [hno] at HGD;have hR:=HBAD.out HGD.out;subst hR
         by_cases ha1:centsOk L=true
         ·have hne:¬(⟨(textM L).toArray⟩:ByteArray)=S:=fun h=>hac (accept_iff.2 ⟨ha1,by rw [←HL.out, ←h]⟩)
          unfold textV at c2;simp only [if_pos ha1] at c2;obtain ⟨T,hT⟩:∃T,(⟨(textM L).toArray⟩:ByteArray)=T:=⟨_,rfl⟩;rw [hT] at hne;simp only [hT] at c2;have HNE:Hid (¬T.toList=S.toList):=Lib.hid fun h=>hne (bytes_ext.1 h)
          clear hT hne hac hno ha1;have C1:Hid (∀w,Gv 72 #[.int .i64 100] w (.string (encS 100))):=Lib.hid fun w=>by
           have h:=(fun w=>Of_any 100 w (by decide)) w;exact h
          have C2:Hid (∀w,Gv 77 #[.bool false,.string (encS v),.string (encS 100)] w (.tuple #[.agg #[.bool L.neg,.string (encS L.num),.string (encS L.den)],.bool true])):=Lib.hid c1;have C3:Hid (∀w,Below wq.heap.size wq w→Gv 30 #[rtV L] w (.tuple #[.string T,.bool true])):=Lib.hid c2;clear c1 c2;go_wp2_with fail;refine (C1.out _).mono ?_;rintro e w82 ⟨rfl,hb⟩;have HX2_1:=uH hb HX2_1;have HB:=mH HB hb;clear hb;go_wp2_with fail;refine (C2.out _).mono ?_;rintro e w83 ⟨rfl,hb⟩;have HX2_1:=uH hb HX2_1;have HB:=mH HB hb;clear hb;obtain ⟨W84,bk8,hW84,hbk8,HX8_58,HB,HG8_58,hup⟩:=boxZ HB HN0;have HL8_58:=(hup _ _ HX2_1).2;have HX2_1:=(hup _ _ HX2_1).1;clear hup;obtain ⟨W85,hW85,HX8_58,HB,ho,f59a,f59b,f59c,k59a,k59b,k59c⟩:=putR HX8_58 HB HN0 HG8_58 L;have HX2_1:=ho _ _ (en1 HL8_58) HX2_1;clear ho;obtain ⟨k60a,k60b,k60c⟩:=c3 HX8_58;go_wp2_with fail
          clear hW84 hbk8 f59a f59b f59c k59a k59b k59c hW85 k60a k60b k60c;refine (C3.out _ HB.out).mono ?_;rintro e w86 ⟨rfl,hb⟩;have HX2_1:=uH hb HX2_1;have HX8_58:=uH hb HX8_58;have HB:=mH HB hb;clear hb;have q61:=HNE.out;have q62:=(show (T.toList==S.toList)=false from by rw [beq_eq_false_iff_ne];exact HNE.out);obtain ⟨W87,hW87,HX2_1,HB,ho,f63a,f63b,f63c,k63a,k63b,k63c⟩:=putZ HX2_1 HB HN0 HG2_1;have HX8_58:=ho _ _ (ne1 HL8_58) HX8_58;clear ho;go_wp2_with fail;clear q61 q62 f63a f63b f63c k63a k63b k63c hW87;refine bodyPost_ret (rC2 HX2_1.out) rfl ?_;exact ⟨rfl,by rw [HN0.out];exact HB.out⟩
         ·unfold textV at c2;simp only [if_neg ha1] at c2;clear hac hno ha1;have C1:Hid (∀w,Gv 72 #[.int .i64 100] w (.string (encS 100))):=Lib.hid fun w=>by
           have h:=(fun w=>Of_any 100 w (by decide)) w;exact h
          have C2:Hid (∀w,Gv 77 #[.bool false,.string (encS v),.string (encS 100)] w (.tuple #[.agg #[.bool L.neg,.string (encS L.num),.string (encS L.den)],.bool true])):=Lib.hid c1;have C3:Hid (∀w,Below wq.heap.size wq w→Gv 30 #[rtV L] w (.tuple #[.string ⟨#[]⟩,.bool false])):=Lib.hid c2;clear c1 c2;go_wp2_with fail;refine (C1.out _).mono ?_;rintro e w88 ⟨rfl,hb⟩;have HX2_1:=uH hb HX2_1;have HB:=mH HB hb;clear hb;go_wp2_with fail;refine (C2.out _).mono ?_;rintro e w89 ⟨rfl,hb⟩;have HX2_1:=uH hb HX2_1;have HB:=mH HB hb;clear hb;obtain ⟨W90,bk8,hW90,hbk8,HX8_64,HB,HG8_64,hup⟩:=boxZ HB HN0;have HL8_64:=(hup _ _ HX2_1).2;have HX2_1:=(hup _ _ HX2_1).1;clear hup;obtain ⟨W91,hW91,HX8_64,HB,ho,f65a,f65b,f65c,k65a,k65b,k65c⟩:=putR HX8_64 HB HN0 HG8_64 L;have HX2_1:=ho _ _ (en1 HL8_64) HX2_1;clear ho;obtain ⟨k66a,k66b,k66c⟩:=c3 HX8_64;go_wp2_with fail
          clear hW90 hbk8 f65a f65b f65c k65a k65b k65c hW91 k66a k66b k66c;refine (C3.out _ HB.out).mono ?_;rintro e w92 ⟨rfl,hb⟩;have HX2_1:=uH hb HX2_1;have HX8_64:=uH hb HX8_64;have HB:=mH HB hb;clear hb;obtain ⟨W93,hW93,HX2_1,HB,ho,f67a,f67b,f67c,k67a,k67b,k67c⟩:=putZ HX2_1 HB HN0 HG2_1;have HX8_64:=ho _ _ (ne1 HL8_64) HX8_64;clear ho;go_wp2_with fail;clear f67a f67b f67c k67a k67b k67c hW93;refine bodyPost_ret (rC2 HX2_1.out) rfl ?_;exact ⟨rfl,by rw [HN0.out];exact HB.out⟩
   ·have hd2:((d.toNat:Int)==46)=false:=u8_ne (by decide) hdot;obtain ⟨W94,hW94,HX2_1,HB,ho,f68a,f68b,f68c,k68a,k68b,k68c⟩:=putZ HX2_1 HB HN0 HG2_1;clear ho;go_wp2_with fail;clear hW1 hbk2 f68a f68b f68c k68a k68b k68c hW94;refine bodyPost_ret (rC2 HX2_1.out) rfl ?_;have h:=HBAD.out (parse_n1 (by unfold shapeP;rw [HD.out];simp [hdot]));subst h;exact ⟨rfl,by rw [HN0.out];exact HB.out⟩
end Go.Proofs.YtabfjecegpaoaaaGreatDoor
