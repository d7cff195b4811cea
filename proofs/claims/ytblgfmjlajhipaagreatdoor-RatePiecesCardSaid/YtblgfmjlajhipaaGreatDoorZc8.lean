/- Contracts that the proofs of this seat share. Each theorem names its conditions. -/
import Derived.OwnWalkIn
import Derived.TacticsInMore
import Derived.LoopNIn
import Derived.LoopIn
import Derived.Test.YtblgfmjlajhipaaGreatDoorZc7
import Derived.Test.YtblgfmjlajhipaaGreatDoorZa1
import Derived.Test.YtblgfmjlajhipaaGreatDoorZb5
set_option maxHeartbeats 16000000
set_option linter.unusedVariables false
namespace Go.Proofs.YtblgfmjlajhipaaGreatDoor
open Go.RowKit Go.Shelf Go.Maps
open Dgt
attribute [local go_sem] Oper.semAt_some
theorem pieces_any (p:Option Addr) (q c:Nat) (fr tp:Int) (w:World):Calls Tryz.prog 80 #[.slice p q c,.agg #[.int .i64 fr,.int .i64 tp]] w fun e w' =>e=.returned (.func (Fn.func 111) #[] #[.pointer (some ⟨w.heap.size,0,none⟩),.pointer (some ⟨(w.alloc (.cells #[.slice p q c] 56)).heap.size,0,none⟩)])∧w' =(w.alloc (.cells #[.slice p q c] 56)).alloc (.cells #[.int .i64 fr,.int .i64 tp] 68):=by
 go_enter Tryz.func80,Tryz.ntmps80;go_wp2_with fail;go_ret;exact ⟨by rw [World.size_alloc];rfl,rfl⟩
theorem piece_pre (n:List DR) (fr tp:Int) {j:Nat}:∀{k:Nat},j≤k→∃r,pieceK n fr tp k=pieceK n fr tp j++r
 | 0,h=>⟨[],by rw [show j=0 by omega];rfl⟩
 | k+1,h=>by
  by_cases he:j=k+1
  ·exact ⟨[],by rw [he,List.append_nil]⟩
  ·obtain ⟨r,hr⟩:=piece_pre n fr tp (show j≤k by omega);rw [pieceK_s]
   split
   ·exact ⟨r++[_],by rw [hr,List.append_assoc]⟩
   ·exact ⟨r,hr⟩
theorem span_parts {fr tp:Int} (h:spanB fr tp=true):0≤fr∧fr<tp∧tp≤3652059:=by
 unfold spanB at h;simp only [Bool.and_eq_true,decide_eq_true_eq] at h;omega
def encP (p:DR):Array Value:=#[Value.int .i64 p.1,.agg #[.bool p.2.neg,.string (encS p.2.num),.string (encS p.2.den)]]
set_option maxRecDepth 100000 in
theorem pieces_iter (v:Value) (l:List Dk) (fr tp:Int) (b1 b2:Nat) (w0:World) (hz:SzD l 1100000) (hl:LstD w0 v l) (h1:w0.heap[b1]? =some (.cells #[v] 56 (0,0))) (h2:w0.heap[b2]? =some (.cells #[.int .i64 fr,.int .i64 tp] 68 (0,0))) (hs:spanB fr tp=true) :
  IterC Tryz.prog 111 #[.pointer (some ⟨b1,0,none⟩),.pointer (some ⟨b2,0,none⟩)] encP (pieceK (normG (drs l)) fr tp (normG (drs l)).length) (fun b=>b=b1∨b=b2) w0:=by
 intro l9 J Jx m0 W hW hJ hJlt hround h0;have hlW:=hl.up hW;have hb1:=hpU hW h1;have hb2:=hpU hW h2;have k1:W.cell? ⟨b1,0,none⟩=some v:=by rw [Lib.cell_of_heap hb1];rfl
 have HB2:=hD hb2;have HSP:=hD (span_parts hs);have HDY:=hD (norm_gr (drs_gr l)).day;have hle:=normG_le l;have HLN:Hid ((normG (drs l)).length≤1000):=hD (by obtain ⟨_,_,_,-,h,-⟩:=hl.open;omega);have HR:=hD hround;have HJ:=hD @hJ;have HJL:=hD hJlt;have H0:=hD h0;have HN9:=hD (Norm_own v l hz W hlW);clear hround hJ hJlt h0 hl h1 h2 hs hle hz hlW hb1 hb2 hW;obtain ⟨n,hn⟩:∃n,normG (drs l)=n:=⟨_,rfl⟩;rw [hn] at HDY HLN HR HN9 ⊢;clear hn;refine callsIn_of_wp Tryz.func111 rfl trivial ?_ rfl;simp only [Tryz.ntmps111,List.size_toArray,List.length_cons,List.length_nil,Nat.reduceAdd,Nat.reduceSub,Array.replicate_succ,Array.replicate_zero,List.push_toArray,List.append_toArray,List.nil_append,List.cons_append]
 gi_wp2_with fail
 refine ⟨trivial,rfl,?_⟩;refine (callsIn_wide.2 HN9.out).mono ?_;rintro e wS ⟨v',rfl,hln,hb⟩;have HJ0:=hD (HJ.out _ _ _ _ H0.out (Fr.of_new hb _));have HB2S:=uH hb HB2;have HFW:Hid (∀b,m0 b→b<W.heap.size∧¬(b=b1∨b=b2)):=hD (fun b h=>HJL.out _ _ _ _ H0.out h);have HWS:Hid (W.heap.size≤wS.heap.size):=hD hb.size;have HLB2:Hid (b2<W.heap.size):=hD (Array.getElem?_eq_some_iff.1 HB2.out).1;have HFS:=hD (Fr.of_new hb (fun b=>m0 b∨(b=b1∨b=b2)));clear hb k1 H0 HN9 HB2;rcases hln.2 with ⟨rfl,hn0⟩|⟨g9,cap,cur,rfl,hg9,hgh,hc1,hc2,hc3,hc4⟩
 ·have HL0:Hid (n.length=0):=hD hn0;clear hln hn0
  gi_wp2_with fail
  gi_loopw [13] (fun u13 wr=>∃(k:Nat) (m:Nat→Prop),k≤n.length∧u13=.int .i64 (k:Int)∧Hid (J (pieceK n fr tp k) m wr)∧Hid (Fr m0 wS wr)∧Hid (∀b,m b→m0 b∨wS.heap.size≤b)) (fun u13 _=>n.length-(intOf u13).toNat)
  case atStart=>exact ⟨0,m0,by omega,by first|rfl|go_num,HJ0,hD (Fr.refl _ _),hD (fun b h=>.inl h)⟩
  case round =>
   obtain ⟨k,m,hk,rfl,HJK,HF,HM⟩:=hrel;have hk0:k=0:=by have:=HL0.out;omega
   have hge:¬(k:Int)<0:=by omega
   gi_wp2_with fail
   go_end0
   have hk9:=HL0.out;exact ⟨⟨_,rfl⟩,HFS.out.trans' HF.out (fun b h=>.inl (.inl h)),.inl ⟨m,by have h:=HJK.out;rwa [show k=n.length by omega] at h⟩⟩
 ·have HX9S:=hD hgh;have HG9:Hid (W.heap.size≤g9):=hD hg9;have HOC:Hid (∀W:World,W.heap[g9]? =some (.cells cur 64 (0,0))→∀j (h:j<n.length),AtE W g9 (j*4) n[j].1 n[j].2):=hD (fun W h j hj=>by
   have h5:=own_lstD (W:=W) (v:=.slice (some ⟨g9,0,none⟩) n.length cap) (l:=n.map rawD) (base:=0) (by rw [List.length_map];exact ⟨hln.1,.inr ⟨g9,cap,cur,rfl,Nat.zero_le _,h,hc1,hc2,hc3,hc4⟩⟩) (by rw [List.length_map];exact HLN.out);obtain ⟨pn,cn,e1,-,-,hat⟩:=h5.open;rw [Value.slice.injEq] at e1;obtain ⟨g,off,e3,h4⟩:=hat j (by rw [List.length_map];exact hj);rw [←e1.1] at e3;simp only [Option.some.injEq,Addr.mk.injEq,and_true] at e3;rw [List.getElem_map, ←e3.1, ←e3.2,Nat.zero_add] at h4;exact h4)
  clear hg9 hgh hc1 hc2 hc3 hc4 hln
  gi_wp2_with fail
  gi_loopw [13] (fun u13 wr=>∃(k:Nat) (m:Nat→Prop),k≤n.length∧u13=.int .i64 (k:Int)∧Hid (J (pieceK n fr tp k) m wr)∧Hid (Fr m0 wS wr)∧Hid (∀b,m b→m0 b∨wS.heap.size≤b)) (fun u13 _=>n.length-(intOf u13).toNat)
  case atStart=>exact ⟨0,m0,by omega,by first|rfl|go_num,HJ0,hD (Fr.refl _ _),hD (fun b h=>.inl h)⟩
  case round =>
   obtain ⟨k,m,hk,rfl,HJK,HF,HM⟩:=hrel
   by_cases hlt:k<n.length
   ·have hlt' :(k:Int)<(n.length:Int):=by omega
    have HX2:Hid (wr.heap[b2]? =some (.cells #[.int .i64 fr,.int .i64 tp] 68 (0,0))):=hD (HF.out.heap HB2S.out (fun h=>(HFW.out _ h).2 (.inr rfl)));have HX9:Hid (wr.heap[g9]? =some (.cells cur 64 (0,0))):=hD (HF.out.heap HX9S.out (fun h=>by have:=(HFW.out _ h).1;have:=HG9.out;omega));have HL9:Hid (b2<g9):=hD (by have:=HLB2.out;have:=HG9.out;omega);have HB:=hD (Below.refl wr.heap.size wr);obtain ⟨n0,hn0⟩:∃n,n=wr.heap.size:=⟨_,rfl⟩;have HN0:=hD hn0;clear hn0;obtain ⟨j,hj⟩:∃j,k+1=j:=⟨_,rfl⟩;have HJ1:Hid (IntKind.i64.wrap ((k:Int)+1)=(j:Int)):=hD (by rw [IntWalk.i64_in _ (by have:=HLN.out;omega)];omega);have hat:=HOC.out wr HX9.out k hlt;obtain ⟨⟨dx,x⟩,he⟩:∃e,n[k]=e:=⟨_,rfl⟩;rw [he] at hat;change AtE wr g9 (k*4) dx x at hat;have hdx:=HDY.out (dx,x) (by rw [←he];exact List.getElem_mem hlt);have hgk:n[k]? =some (dx,x):=by rw [List.getElem?_eq_getElem hlt,he]
    obtain ⟨dd,hdd⟩:∃d,dayAt n fr tp k=d:=⟨_,rfl⟩;have HPK:Hid (pieceK n fr tp j=if 0<dd then pieceK n fr tp k++[(dd,x)] else pieceK n fr tp k):=hD (by rw [←hj,pieceK_s,hdd];unfold rtAt;rw [hgk]);have HDD:Hid (dd=(match n[j]? with|none=>tp|some e2=>min tp e2.1)-max dx fr):=hD (by rw [←hdd, ←hj];unfold dayAt;rw [hgk];rfl);have HPR:=hD (piece_pre n fr tp (show j≤n.length by omega));have HE:=hD hat;have HDX:Hid (0≤dx∧dx≤3652058):=hD hdx;have HLT:=hD hlt;have HKJ:=hD hj;clear hat he hgk hdd hdx hlt hk hj;obtain ⟨k1e0,k1e1,k1e2,k1e3⟩:=HE.out _ HB.out;obtain ⟨W1,bk6,hW1,hbk6,HX6_2,HB,HG6_2,hup⟩:=boxn HB HN0 (.cells #[.int .i64 0,.bool false,.string ⟨#[]⟩,.string ⟨#[]⟩] 64);have HL6_2:=(hup _ _ HX9).2;have HX2:=(hup _ _ HX2).1;have HX9:=(hup _ _ HX9).1;clear hup;have f3:W1.frozen? ⟨bk6,0,none⟩=false:=frz0 HX6_2.out 0;have f4:W1.frozen? ⟨bk6,1,none⟩=false:=frz0 HX6_2.out 1
    have f5:W1.frozen? ⟨bk6,2,none⟩=false:=frz0 HX6_2.out 2;have f6:W1.frozen? ⟨bk6,3,none⟩=false:=frz0 HX6_2.out 3;have k7:W1.cell? ⟨bk6,0,none⟩=some (.int .i64 0):=by rw [Lib.cell_of_heap HX6_2.out];rfl
    have k8:W1.cell? ⟨bk6,1,none⟩=some (.bool false):=by rw [Lib.cell_of_heap HX6_2.out];rfl
    have k9:W1.cell? ⟨bk6,2,none⟩=some (.string ⟨#[]⟩):=by rw [Lib.cell_of_heap HX6_2.out];rfl
    have k10:W1.cell? ⟨bk6,3,none⟩=some (.string ⟨#[]⟩):=by rw [Lib.cell_of_heap HX6_2.out];rfl
    have hB:=((((HB.out.setCell (p:=⟨bk6,0,none⟩) (by rw [←HN0.out];exact HG6_2.out) (.int .i64 dx)).setCell (p:=⟨bk6,1,none⟩) (by rw [←HN0.out];exact HG6_2.out) (.bool x.neg)).setCell (p:=⟨bk6,2,none⟩) (by rw [←HN0.out];exact HG6_2.out) (.string (encS x.num))).setCell (p:=⟨bk6,3,none⟩) (by rw [←HN0.out];exact HG6_2.out) (.string (encS x.den)));have hN:((((W1.setCell ⟨bk6,0,none⟩ (.int .i64 dx)).setCell ⟨bk6,1,none⟩ (.bool x.neg)).setCell ⟨bk6,2,none⟩ (.string (encS x.num))).setCell ⟨bk6,3,none⟩ (.string (encS x.den))).heap[bk6]? =some (.cells #[.int .i64 dx,.bool x.neg,.string (encS x.num),.string (encS x.den)] 64 (0,0)):=by simp [World.setCell,Array.getElem?_modify,HX6_2.out]
    have hx2:((((W1.setCell ⟨bk6,0,none⟩ (.int .i64 dx)).setCell ⟨bk6,1,none⟩ (.bool x.neg)).setCell ⟨bk6,2,none⟩ (.string (encS x.num))).setCell ⟨bk6,3,none⟩ (.string (encS x.den))).heap[b2]? =_:=(row_else (row_else (row_else (row_else HX2.out (en2 HL9 HL6_2) _) (en2 HL9 HL6_2) _) (en2 HL9 HL6_2) _) (en2 HL9 HL6_2) _);have HX2:=hD hx2;clear hx2;have hx9:((((W1.setCell ⟨bk6,0,none⟩ (.int .i64 dx)).setCell ⟨bk6,1,none⟩ (.bool x.neg)).setCell ⟨bk6,2,none⟩ (.string (encS x.num))).setCell ⟨bk6,3,none⟩ (.string (encS x.den))).heap[g9]? =_:=(row_else (row_else (row_else (row_else HX9.out (en1 HL6_2) _) (en1 HL6_2) _) (en1 HL6_2) _) (en1 HL6_2) _);have HX9:=hD hx9;clear hx9;obtain ⟨W2,hW2⟩:∃W,((((W1.setCell ⟨bk6,0,none⟩ (.int .i64 dx)).setCell ⟨bk6,1,none⟩ (.bool x.neg)).setCell ⟨bk6,2,none⟩ (.string (encS x.num))).setCell ⟨bk6,3,none⟩ (.string (encS x.den)))=W:=⟨_,rfl⟩
    rw [hW2] at hN hB HX2 HX9;have HX6_2:=hD hN;have HB:=hD hB;clear hN hB;have k11:W2.cell? ⟨b2,1,none⟩=some (.int .i64 tp):=by rw [Lib.cell_of_heap HX2.out];rfl
    have hj1:=HJ1.out
    by_cases hjn:j<n.length
    ·have hjn' :(j:Int)<(n.length:Int):=by omega
     have hat2:=HOC.out wr (show wr.heap[g9]? =_ from HF.out.heap HX9S.out (fun h=>by have:=(HFW.out _ h).1;have:=HG9.out;omega)) j hjn;obtain ⟨⟨d2,x2⟩,he2⟩:∃e,n[j]=e:=⟨_,rfl⟩;rw [he2] at hat2;change AtE wr g9 (j*4) d2 x2 at hat2;have HE2:=hD hat2;have hd2:=HDY.out (d2,x2) (by rw [←he2];exact List.getElem_mem hjn);have HWD:Hid (IntKind.i64.wrap (min tp d2-max dx fr)=dd):=hD (by
      have h:=HDD.out;rw [List.getElem?_eq_getElem hjn,he2] at h
      change dd=min tp d2-max dx fr at h
      have:=HSP.out;have:=HDX.out
      change 0≤d2∧d2≤3652058 at hd2
      rw [IntWalk.i64_in _ (by omega)];exact h.symm)
     clear hat2 he2 hd2 hjn;obtain ⟨k12e0,k12e1,k12e2,k12e3⟩:=HE2.out _ HB.out;have k13:W2.cell? ⟨bk6,0,none⟩=some (.int .i64 dx):=by rw [Lib.cell_of_heap HX6_2.out];rfl
     have k14:W2.cell? ⟨b2,0,none⟩=some (.int .i64 fr):=by rw [Lib.cell_of_heap HX2.out];rfl
     have hdd:=HWD.out;obtain ⟨td,htd⟩:∃xq,decide (0<dd)=xq:=⟨_,rfl⟩;have Htd:=hD htd;clear htd;cases td
     case false =>
      have q15:=Htd.out;have HJK2:Hid (J (pieceK n fr tp j) m W2):=hD (by rw [HPK.out,if_neg (by have:=Htd.out;simpa using this)];exact HJ.out _ _ _ _ HJK.out (Fr.of_new HB.out _));have HF2:Hid (Fr m0 wS W2):=hD (HF.out.trans (Fr.of_new HB.out _))
      gi_wp2_with fail
      clear hlt' k1e0 k1e1 k1e2 k1e3 hW1 hbk6 f3 f4 f5 f6 k7 k8 k9 k10 hW2 k11 hj1 hjn' k12e0 k12e1 k12e2 k12e3 k13 k14 hdd q15;refine ⟨fun _ h=>(by cases h),?_⟩;have hj1:=HJ1.out
      gi_wp2_with fail
      clear hj1
      go_roundw
      case rel=>exact ⟨j,m,by have:=HLT.out;have:=HKJ.out;omega,by first|rfl|go_num,HJK2,HF2,HM⟩
      case measure=>have:=HLT.out;have:=HKJ.out;simp [intOf];omega
     case true =>
      have q16:=Htd.out;have k17:W2.cell? ⟨bk6,1,none⟩=some (.bool x.neg):=by rw [Lib.cell_of_heap HX6_2.out];rfl
      have k18:W2.cell? ⟨bk6,2,none⟩=some (.string (encS x.num)):=by rw [Lib.cell_of_heap HX6_2.out];rfl
      have k19:W2.cell? ⟨bk6,3,none⟩=some (.string (encS x.den)):=by rw [Lib.cell_of_heap HX6_2.out];rfl
      obtain ⟨rest,hrest⟩:=HPR.out;rw [HPK.out,if_pos (by have:=Htd.out;simpa using this),List.append_assoc] at hrest;have HPK2:Hid (pieceK n fr tp j=pieceK n fr tp k++[(dd,x)]):=hD (by rw [HPK.out,if_pos (by have:=Htd.out;simpa using this)]);obtain ⟨fn,tmps,assign,body,hy,hR⟩:=HR.out (pieceK n fr tp k) (dd,x) rest m W2 hrest (HJ.out _ _ _ _ HJK.out (Fr.of_new HB.out _));simp only [encP] at hy;have HR2:=hD hR;have HF2:Hid (Fr m0 wS W2):=hD (HF.out.trans (Fr.of_new HB.out _));clear hR hrest
      gi_wp2_with fail
      clear hlt' k1e0 k1e1 k1e2 k1e3 hW1 hbk6 f3 f4 f5 f6 k7 k8 k9 k10 hW2 k11 hj1 hjn' k12e0 k12e1 k12e2 k12e3 k13 k14 hdd q16 k17 k18 k19 hy;refine ⟨rfl,?_⟩;refine HR2.out.mono ?_;rintro e W3 (⟨rfl,m',hJ3,hf3,hg3⟩|⟨rfl,hJx3,hf3⟩)
      ·have HJ3:Hid (J (pieceK n fr tp j) m' W3):=hD (by rw [HPK2.out];exact hJ3);have HF3:Hid (Fr m0 wS W3):=hD (HF2.out.trans' hf3 HM.out);have HM3:Hid (∀b,m' b→m0 b∨wS.heap.size≤b):=hD (fun b hb=>(hg3 b hb).elim (HM.out b) (fun h=>.inr (Nat.le_trans HF2.out.size h)));have hj1:=HJ1.out;clear hJ3 hf3 hg3
       gi_wp2_with fail
       clear hj1
       go_roundw
       case rel=>exact ⟨j,m',by have:=HLT.out;have:=HKJ.out;omega,by first|rfl|go_num,HJ3,HF3,HM3⟩
       case measure=>have:=HLT.out;have:=HKJ.out;simp [intOf];omega
      ·have HF3:Hid (Fr m0 wS W3):=hD (HF2.out.trans' hf3 HM.out)
       gi_wp2_with fail
       refine bodyPost_ret (results_none rfl _ _ _) rfl ?_;exact ⟨⟨_,rfl⟩,HFS.out.trans' HF3.out (fun b h=>.inl (.inl h)),.inr ⟨_,hJx3⟩⟩
    ·have hjn' :¬(j:Int)<(n.length:Int):=by omega
     have HWD:Hid (IntKind.i64.wrap (tp-max dx fr)=dd):=hD (by
      have h:=HDD.out;rw [List.getElem?_eq_none (by omega)] at h
      change dd=tp-max dx fr at h
      have:=HSP.out;have:=HDX.out;rw [IntWalk.i64_in _ (by omega)];exact h.symm)
     clear hjn;have k20:W2.cell? ⟨bk6,0,none⟩=some (.int .i64 dx):=by rw [Lib.cell_of_heap HX6_2.out];rfl
     have k21:W2.cell? ⟨b2,0,none⟩=some (.int .i64 fr):=by rw [Lib.cell_of_heap HX2.out];rfl
     have hdd:=HWD.out;obtain ⟨td,htd⟩:∃xq,decide (0<dd)=xq:=⟨_,rfl⟩;have Htd:=hD htd;clear htd;cases td
     case false =>
      have q22:=Htd.out;have HJK2:Hid (J (pieceK n fr tp j) m W2):=hD (by rw [HPK.out,if_neg (by have:=Htd.out;simpa using this)];exact HJ.out _ _ _ _ HJK.out (Fr.of_new HB.out _));have HF2:Hid (Fr m0 wS W2):=hD (HF.out.trans (Fr.of_new HB.out _))
      gi_wp2_with fail
      clear hlt' k1e0 k1e1 k1e2 k1e3 hW1 hbk6 f3 f4 f5 f6 k7 k8 k9 k10 hW2 k11 hj1 hjn' k20 k21 hdd q22;refine ⟨fun _ h=>(by cases h),?_⟩;have hj1:=HJ1.out
      gi_wp2_with fail
      clear hj1
      go_roundw
      case rel=>exact ⟨j,m,by have:=HLT.out;have:=HKJ.out;omega,by first|rfl|go_num,HJK2,HF2,HM⟩
      case measure=>have:=HLT.out;have:=HKJ.out;simp [intOf];omega
     case true =>
      have q23:=Htd.out;have k24:W2.cell? ⟨bk6,1,none⟩=some (.bool x.neg):=by rw [Lib.cell_of_heap HX6_2.out];rfl
      have k25:W2.cell? ⟨bk6,2,none⟩=some (.string (encS x.num)):=by rw [Lib.cell_of_heap HX6_2.out];rfl
      have k26:W2.cell? ⟨bk6,3,none⟩=some (.string (encS x.den)):=by rw [Lib.cell_of_heap HX6_2.out];rfl
      obtain ⟨rest,hrest⟩:=HPR.out;rw [HPK.out,if_pos (by have:=Htd.out;simpa using this),List.append_assoc] at hrest;have HPK2:Hid (pieceK n fr tp j=pieceK n fr tp k++[(dd,x)]):=hD (by rw [HPK.out,if_pos (by have:=Htd.out;simpa using this)]);obtain ⟨fn,tmps,assign,body,hy,hR⟩:=HR.out (pieceK n fr tp k) (dd,x) rest m W2 hrest (HJ.out _ _ _ _ HJK.out (Fr.of_new HB.out _));simp only [encP] at hy;have HR2:=hD hR;have HF2:Hid (Fr m0 wS W2):=hD (HF.out.trans (Fr.of_new HB.out _));clear hR hrest
      gi_wp2_with fail
      clear hlt' k1e0 k1e1 k1e2 k1e3 hW1 hbk6 f3 f4 f5 f6 k7 k8 k9 k10 hW2 k11 hj1 hjn' k20 k21 hdd q23 k24 k25 k26 hy;refine ⟨rfl,?_⟩;refine HR2.out.mono ?_;rintro e W3 (⟨rfl,m',hJ3,hf3,hg3⟩|⟨rfl,hJx3,hf3⟩)
      ·have HJ3:Hid (J (pieceK n fr tp j) m' W3):=hD (by rw [HPK2.out];exact hJ3);have HF3:Hid (Fr m0 wS W3):=hD (HF2.out.trans' hf3 HM.out);have HM3:Hid (∀b,m' b→m0 b∨wS.heap.size≤b):=hD (fun b hb=>(hg3 b hb).elim (HM.out b) (fun h=>.inr (Nat.le_trans HF2.out.size h)));have hj1:=HJ1.out;clear hJ3 hf3 hg3
       gi_wp2_with fail
       clear hj1
       go_roundw
       case rel=>exact ⟨j,m',by have:=HLT.out;have:=HKJ.out;omega,by first|rfl|go_num,HJ3,HF3,HM3⟩
       case measure=>have:=HLT.out;have:=HKJ.out;simp [intOf];omega
      ·have HF3:Hid (Fr m0 wS W3):=hD (HF2.out.trans' hf3 HM.out)
       gi_wp2_with fail
       refine bodyPost_ret (results_none rfl _ _ _) rfl ?_;exact ⟨⟨_,rfl⟩,HFS.out.trans' HF3.out (fun b h=>.inl (.inl h)),.inr ⟨_,hJx3⟩⟩
   ·have hge:¬(k:Int)<(n.length:Int):=by omega
    gi_wp2_with fail
    go_end0
    exact ⟨⟨_,rfl⟩,HFS.out.trans' HF.out (fun b h=>.inl (.inl h)),.inl ⟨m,by have h:=HJK.out;rwa [show k=n.length by omega] at h⟩⟩
end Go.Proofs.YtblgfmjlajhipaaGreatDoor
