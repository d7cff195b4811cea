/- Contracts that the proofs of this seat share. Each theorem names its conditions. -/

import Derived.Test.YtblgfmjlajhipaaGreatDoorZb7
import Derived.Test.YtblgfmjlajhipaaGreatDoorZc4
import Derived.Test.YtblgfmjlajhipaaGreatDoorZb9
import Derived.Test.YtblgfmjlajhipaaGreatDoorZb5
set_option maxHeartbeats 16000000
set_option linter.unusedVariables false
namespace Go.Proofs.YtblgfmjlajhipaaGreatDoor
open Go.RowKit Go.Shelf Go.Maps
open Dgt
theorem own_new_row {W:World} {B:Nat} {e:TypeId} {n:Nat}:W.ownsRow B e n (.slice none 0 0) 0 []:=⟨by simp,.inl ⟨rfl,rfl⟩⟩
theorem own_low {W:World} {B B2 size n:Nat} {e:TypeId} {v:Value} {xs:List Value} (h:W.ownsRow B e size v n xs) (hb:B2≤B):W.ownsRow B2 e size v n xs:=by
 refine ⟨h.1,?_⟩;rcases h.2 with h|⟨g,cap,cur,h1,h2,h3⟩
 ·exact .inl h
 ·exact .inr ⟨g,cap,cur,h1,Nat.le_trans hb h2,h3⟩
theorem good_day {d:Dk} (h:goodD d=true): -9223372036854775808≤d.day∧d.day≤9223372036854775807:=by
 unfold goodD at h;simp only [Bool.and_eq_true,decide_eq_true_eq] at h;omega
set_option maxRecDepth 100000 in
theorem Norm_own (v:Value) (l:List Dk) (hz:SzD l 1100000) (wq:World) (hl:LstD wq v l) :
  Calls Tryz.prog 34 #[v] wq fun e w' =>∃v',e=.returned v' ∧w'.ownsRow wq.heap.size 64 4 v' (normG (drs l)).length (cells4 ((normG (drs l)).map rawD))∧Below wq.heap.size wq w' :=by
 obtain ⟨ps,ca,rfl,-,hla,hca⟩:=hl.open;have HAT:=hD hca;have HLA:=hD hla;have HZ:=hD hz;have hmk:=run_makeMap (P:=Tryz.prog) 94;have c1:=fun w=>RatOf_any 0 w (by decide) (by decide)
 have HZ0:Hid (zeroR=ofR 0):=hD rfl;obtain ⟨z0,hz0⟩:∃a,ofR 0=a:=⟨_,rfl⟩;rw [hz0] at c1 HZ0;clear hca hla hl hz hz0;have C1:Hid (∀w,Gv 58 #[.int .i64 0] w (.agg #[.bool z0.neg,.string (encS z0.num),.string (encS z0.den)])):=hD c1;clear c1;have HB:=hD (Below.refl wq.heap.size wq);obtain ⟨n0,hn0⟩:∃n,n=wq.heap.size:=⟨_,rfl⟩;rw [←hn0];have HN0:=hD hn0;clear hn0;go_enter Tryz.func34,Tryz.ntmps34;obtain ⟨W1m,bk10,hW1m,hbk10,HXm,HB,HGm,hup⟩:=boxn HB HN0 (.map #[] 0);clear hup;go_wp2_with fail;clear hW1m hbk10;clear hmk
 go_loopw [13] (fun u13 wr=>∃(k:Nat) (es:Array MapEntry) (ck:Nat),k≤l.length∧u13=.int .i64 (k:Int)∧Hid (MapIs es ck k (mapD (drs (l.take k))))∧Hid (wr.heap[bk10]? =some (.map es ck))∧Hid (Below wq.heap.size wq wr)) (fun u13 _=>l.length-(intOf u13).toNat)
 case atStart=>exact ⟨0,#[],0,by omega,by first|rfl|go_num,hD map_nil,HXm,HB⟩
 case round =>
  obtain ⟨k,es,ck,hk,rfl,HM,HXm,HB⟩:=hrel
  by_cases hlt:k<l.length
  ·have hlt' :(k:Int)<(l.length:Int):=by omega
   obtain ⟨gl,off,rfl,hat⟩:=HAT.out k hlt;have HE:=hD hat;have c1:=fun w=>right_any l[k] (HZ.out _ (List.getElem_mem hlt)) w
   have HST:=hD (drs_take hlt);have HGR:=hD (fun h:goodD l[k]=true=>And.intro (good_right h) (good_day h));obtain ⟨d,hd⟩:∃d,l[k]=d:=⟨_,rfl⟩;rw [hd] at HE c1 HST HGR;obtain ⟨Q,hQ⟩:∃b,goodD d=b:=⟨_,rfl⟩;rw [hQ] at c1 HST HGR;have HLT:=hD hlt;have C2:Hid (∀w,Gv 74 #[.agg #[.int .i64 d.day,.bool d.rt.neg,.string d.rt.n,.string d.rt.d]] w (.bool Q)):=hD c1;clear c1 hat hd hQ hlt hk;have HWI:Hid (IntKind.i64.wrap ((k:Int)+1)=((k+1:Nat):Int)):=hD (by rw [IntWalk.i64_in _ (by have:=HLT.out;have:=HLA.out;omega)];omega);obtain ⟨k1e0,k1e1,k1e2,k1e3⟩:=HE.out _ HB.out;obtain ⟨W1,bk5,hW1,hbk5,HX5_2,HB,HG5_2,hup⟩:=boxn HB HN0 (.cells #[.int .i64 0,.bool false,.string ⟨#[]⟩,.string ⟨#[]⟩] 64);have HL5_2:=(hup _ _ HXm).2;have HXm:=(hup _ _ HXm).1;clear hup;have f3:W1.frozen? ⟨bk5,0,none⟩=false:=frz0 HX5_2.out 0;have f4:W1.frozen? ⟨bk5,1,none⟩=false:=frz0 HX5_2.out 1
   have f5:W1.frozen? ⟨bk5,2,none⟩=false:=frz0 HX5_2.out 2;have f6:W1.frozen? ⟨bk5,3,none⟩=false:=frz0 HX5_2.out 3;have k7:W1.cell? ⟨bk5,0,none⟩=some (.int .i64 0):=by rw [Lib.cell_of_heap HX5_2.out];rfl
   have k8:W1.cell? ⟨bk5,1,none⟩=some (.bool false):=by rw [Lib.cell_of_heap HX5_2.out];rfl
   have k9:W1.cell? ⟨bk5,2,none⟩=some (.string ⟨#[]⟩):=by rw [Lib.cell_of_heap HX5_2.out];rfl
   have k10:W1.cell? ⟨bk5,3,none⟩=some (.string ⟨#[]⟩):=by rw [Lib.cell_of_heap HX5_2.out];rfl
   have hB:=((((HB.out.setCell (p:=⟨bk5,0,none⟩) (by rw [←HN0.out];exact HG5_2.out) (.int .i64 d.day)).setCell (p:=⟨bk5,1,none⟩) (by rw [←HN0.out];exact HG5_2.out) (.bool d.rt.neg)).setCell (p:=⟨bk5,2,none⟩) (by rw [←HN0.out];exact HG5_2.out) (.string d.rt.n)).setCell (p:=⟨bk5,3,none⟩) (by rw [←HN0.out];exact HG5_2.out) (.string d.rt.d));have hN:((((W1.setCell ⟨bk5,0,none⟩ (.int .i64 d.day)).setCell ⟨bk5,1,none⟩ (.bool d.rt.neg)).setCell ⟨bk5,2,none⟩ (.string d.rt.n)).setCell ⟨bk5,3,none⟩ (.string d.rt.d)).heap[bk5]? =some (.cells #[.int .i64 d.day,.bool d.rt.neg,.string d.rt.n,.string d.rt.d] 64 (0,0)):=by simp [World.setCell,Array.getElem?_modify,HX5_2.out]
   have hxm:((((W1.setCell ⟨bk5,0,none⟩ (.int .i64 d.day)).setCell ⟨bk5,1,none⟩ (.bool d.rt.neg)).setCell ⟨bk5,2,none⟩ (.string d.rt.n)).setCell ⟨bk5,3,none⟩ (.string d.rt.d)).heap[bk10]? =_:=(row_else (row_else (row_else (row_else HXm.out (en1 HL5_2) _) (en1 HL5_2) _) (en1 HL5_2) _) (en1 HL5_2) _);have HXm:=hD hxm;clear hxm;obtain ⟨W2,hW2⟩:∃W,((((W1.setCell ⟨bk5,0,none⟩ (.int .i64 d.day)).setCell ⟨bk5,1,none⟩ (.bool d.rt.neg)).setCell ⟨bk5,2,none⟩ (.string d.rt.n)).setCell ⟨bk5,3,none⟩ (.string d.rt.d))=W:=⟨_,rfl⟩;rw [hW2] at hN hB HXm;have HX5_2:=hD hN;have HB:=hD hB;clear hN hB;have k11:W2.cell? ⟨bk5,0,none⟩=some (.int .i64 d.day):=by rw [Lib.cell_of_heap HX5_2.out];rfl
   have k12:W2.cell? ⟨bk5,1,none⟩=some (.bool d.rt.neg):=by rw [Lib.cell_of_heap HX5_2.out];rfl
   have k13:W2.cell? ⟨bk5,2,none⟩=some (.string d.rt.n):=by rw [Lib.cell_of_heap HX5_2.out];rfl
   have k14:W2.cell? ⟨bk5,3,none⟩=some (.string d.rt.d):=by rw [Lib.cell_of_heap HX5_2.out];rfl
   go_wp2_with fail;clear hlt' k1e0 k1e1 k1e2 k1e3 hW1 hbk5 f3 f4 f5 f6 k7 k8 k9 k10 hW2 k11 k12 k13 k14;refine (C2.out _).mono ?_;rintro e w3 ⟨rfl,hb⟩;have HXm:=uH hb HXm;have HX5_2:=uH hb HX5_2;have HB:=mH HB hb;clear hb;cases Q
   case false =>
    have HM2:=hD ((show MapIs es ck k (mapD (drs (l.take (k+1)))) by rw [HST.out];exact HM.out).mono (Nat.le_succ k));have hwi:=HWI.out;go_wp2_with fail;clear hwi
    go_roundw
    case rel=>exact ⟨k+1,es,ck,by have:=HLT.out;omega,by first|rfl|go_num,HM2,HXm,HB⟩
    case measure=>have:=HLT.out;simp [intOf];omega
   case true =>
    obtain ⟨⟨hr,-⟩,hdy⟩:=HGR.out rfl;obtain ⟨x,hx⟩:∃x,d.rt.val=x:=⟨_,rfl⟩;rw [hx] at hr;have HX5_2:Hid (w3.heap[bk5]? =some (.cells #[.int .i64 d.day,.bool x.neg,.string (encS x.num),.string (encS x.den)] 64 (0,0))):=hD (by have h:=HX5_2.out;rw [hr] at h;exact h);obtain ⟨wm,es',ck',hrun,HXm,HM2,hkp,hbl⟩:=map_store HXm HM (by have:=HLT.out;have:=HLA.out;omega) d.day hdy x;have HM3:Hid (MapIs es' ck' (k+1) (mapD (drs (l.take (k+1))))):=hD (by rw [HST.out];simp only [if_true];rw [hx];exact HM2.out);have k15:w3.cell? ⟨bk5,0,none⟩=some (.int .i64 d.day):=by rw [Lib.cell_of_heap HX5_2.out];rfl
    have k16:w3.cell? ⟨bk5,1,none⟩=some (.bool x.neg):=by rw [Lib.cell_of_heap HX5_2.out];rfl
    have k17:w3.cell? ⟨bk5,2,none⟩=some (.string (encS x.num)):=by rw [Lib.cell_of_heap HX5_2.out];rfl
    have k18:w3.cell? ⟨bk5,3,none⟩=some (.string (encS x.den)):=by rw [Lib.cell_of_heap HX5_2.out];rfl
    have HX5_2:=hkp _ _ (Nat.ne_of_lt HL5_2.out) HX5_2;have HB:=hbl _ _ (hD (by rw [←HN0.out];exact HGm.out)) HB;clear hkp hbl hr hdy hx HM2 HE HST HGR;have hwi:=HWI.out;go_wp2_with fail;clear k15 k16 k17 k18 hwi hrun
    go_roundw
    case rel=>exact ⟨k+1,es',ck',by have:=HLT.out;omega,by first|rfl|go_num,HM3,HXm,HB⟩
    case measure=>have:=HLT.out;simp [intOf];omega
  ·have hge:¬(k:Int)<(l.length:Int):=by omega
   have HM1:Hid (MapIs es ck k (mapD (drs l))):=hD (by have:=HM.out;rwa [List.take_of_length_le (by omega)] at this);clear HM;have HK:=hD hk;obtain ⟨g0,hg0⟩:∃g,drs l=g:=⟨_,rfl⟩;have HGR:=hD (drs_gr l);have HLD:=hD (days_le (drs l));have HLE:=hD (drs_le l);rw [hg0] at HM1 HGR HLD HLE;have HG0:=hD hg0;clear hg0 hk;go_wp2_with fail;clear hge;refine (C1.out _).mono ?_;rintro e w4 ⟨rfl,hb⟩;have HXm:=uH hb HXm;have HB:=mH HB hb;clear hb;obtain ⟨W5,bk7,hW5,hbk7,HX7_19,HB,HG7_19,hup⟩:=boxZ HB HN0;have HL7_19:=(hup _ _ HXm).2;have HXm:=(hup _ _ HXm).1;clear hup;obtain ⟨W6,hW6,HX7_19,HB,ho,f20a,f20b,f20c,k20a,k20b,k20c⟩:=putR HX7_19 HB HN0 HG7_19 z0;have HXm:=ho _ _ (en1 HL7_19) HXm;clear ho;go_wp2_with fail;clear hW5 hbk7 f20a f20b f20c k20a k20b k20c hW6;refine (keys_any _ _).mono ?_;rintro e w8 ⟨rfl,rfl⟩
   obtain ⟨W7,bk27,hW7,hbk27,HX27_21,HB,HG27_21,hup⟩:=boxn HB HN0 (.cells #[.map (some bk10)] 94);have HL27_21:=(hup _ _ HX7_19).2;have HXm:=(hup _ _ HXm).1;have HX7_19:=(hup _ _ HX7_19).1;clear hup;go_wp2_with fail;clear hW7 hbk27;have HLW:Hid (bk27<W7.heap.size):=hD (Array.getElem?_eq_some_iff.1 HX27_21.out).1;refine (sorted_any bk10 bk27 _ g0 _ HLW.out (by rw [Lib.cell_of_heap HX27_21.out];rfl) (HM1.out _ _ HXm.out) (by have:=HLE.out;have:=HLA.out;omega)).mono ?_;rintro e w9 ⟨vs,rfl,hrow,hb⟩;have HXm:=uH hb HXm;have HX7_19:=uH hb HX7_19;have HX27_21:=uH hb HX27_21;have HB:=mH HB hb;have HNW:Hid (n0≤W7.heap.size):=hD (by have:=HLW.out;have:=HG27_21.out;omega);clear hb;obtain ⟨ds,hds⟩:∃ds,daysOf g0=ds:=⟨_,rfl⟩;have HIN:Hid (∀k (h:k<ds.length),ds[k] ∈ daysOf g0∧0≤ds[k]∧ds[k]≤3652058):=hD (by subst hds;exact fun k h=>days_in HGR.out h)
   have HNF:Hid ((normF g0 ds).1=normG g0):=hD (by subst hds;exact normF_all g0);rw [hds] at hrow HLD;have HDS:=hD hds;clear hds;rcases hrow.2 with ⟨rfl,h0⟩|⟨g9,cap,cur,rfl,hg9,hgh,hc1,hc2,hc3,hc4⟩
   ·have HE0:Hid (ds=[]):=hD (List.eq_nil_of_length_eq_zero h0);clear hrow h0;go_wp2_with fail
    go_loopw [6,30] (fun u6 u30 wr=>∃(k:Nat),k≤0∧u6=.slice none 0 0∧u30=.int .i64 (k:Int)∧Hid (wr.heap[bk10]? =some (.map es ck))∧Hid (wr.heap[bk7]? =some (.cells #[.bool z0.neg,.string (encS z0.num),.string (encS z0.den)] 29 (0,0)))∧Hid (wr.heap[bk27]? =some (.cells #[.map (some bk10)] 94 (0,0)))∧Hid (Below wq.heap.size wq wr)) (fun _ u30 _=>0-(intOf u30).toNat)
    case atStart=>exact ⟨0,by omega,by first|rfl|go_num,by first|rfl|go_num,HXm,HX7_19,HX27_21,HB⟩
    case round =>
     obtain ⟨k,hk,rfl,rfl,HXm,HX7_19,HX27_21,HB⟩:=hrel
     by_cases hlt:k<0
     ·have hlt' :(k:Int)<(0:Int):=by omega
      exact absurd hlt (by omega)
     ·have hge:¬(k:Int)<(0:Int):=by omega
      have HNG:Hid (normG g0=[]):=hD (by rw [←HNF.out,HE0.out];rfl);go_wp2_with fail;clear hge;go_ret;exact ⟨_,rfl,by rw [HG0.out,HNG.out];exact own_new_row,by rw [HN0.out];exact HB.out⟩
   ·have HG9:Hid (n0≤g9):=hD (by have:=HNW.out;omega);have HL9:Hid (bk27<g9):=hD (by have:=HLW.out;omega);have HX9:=hD hgh;have HDA:Hid (DaysAt cur ds):=hD (by unfold DaysAt;first|exact hc4|exact hc3);have HCA:Hid (ds.length≤cap):=hD (by omega);clear hrow hg9 hgh hc1 hc2 hc3 hc4;have LO10:Hid (bk10<g9+1):=hD (by have:=HL7_19.out;have:=HL27_21.out;have:=HL9.out;omega);have LO7:Hid (bk7<g9+1):=hD (by have:=HL27_21.out;have:=HL9.out;omega);have LO27:Hid (bk27<g9+1):=hD (by have:=HL9.out;omega);have LO9:Hid (g9<g9+1):=hD (by omega);go_wp2_with fail;have HO0:Hid (w9.ownsRow (g9+1) 64 4 (.slice none 0 0) ([]:List DR).length (cells4 (([]:List DR).map rawD))):=hD own_new_row;have HF0:Hid (normF g0 (ds.take 0)=([],z0)∧([]:List DR).length≤0):=hD ⟨by rw [←HZ0.out];rfl,Nat.le_refl _⟩
    go_loopw [6,30] (fun u6 u30 wr=>∃(k:Nat) (n:List DR) (u:Rt),k≤ds.length∧u30=.int .i64 (k:Int)∧Hid (normF g0 (ds.take k)=(n,u)∧n.length≤k)∧Hid (wr.ownsRow (g9+1) 64 4 u6 n.length (cells4 (n.map rawD)))∧Hid (wr.heap[bk10]? =some (.map es ck))∧Hid (wr.heap[bk7]? =some (.cells #[.bool u.neg,.string (encS u.num),.string (encS u.den)] 29 (0,0)))∧Hid (wr.heap[bk27]? =some (.cells #[.map (some bk10)] 94 (0,0)))∧Hid (wr.heap[g9]? =some (.cells cur 3 (0,0)))∧Hid (Below wq.heap.size wq wr)) (fun _ u30 _=>ds.length-(intOf u30).toNat)
    case atStart=>exact ⟨0,[],z0,by omega,by first|rfl|go_num,HF0,HO0,HXm,HX7_19,HX27_21,HX9,HB⟩
    case round =>
     obtain ⟨k,n,u,hk,rfl,HF,HO0,HXm,HX7_19,HX27_21,HX9,HB⟩:=hrel
     by_cases hlt:k<ds.length
     ·have hlt' :(k:Int)<(ds.length:Int):=by omega
      obtain ⟨hdm,hd0,hd1⟩:=HIN.out k hlt;have HNS:=hD (normF_snoc g0 hlt);have HKC:Hid (wr.cell? ⟨g9,k,none⟩=some (.int .i64 ds[k])):=hD (days_cell HX9 HDA hlt);obtain ⟨x,hx⟩:∃x,rateOf g0 ds[k]=x:=⟨_,rfl⟩;have HLK:=hD (map_look HXm HM1 (by omega) hdm hx);unfold normS at HNS;rw [HF.out.1,hx] at HNS;obtain ⟨d,hd⟩:∃d,ds[k]=d:=⟨_,rfl⟩;rw [hd] at HKC HLK HNS;have HLT:=hD hlt;obtain ⟨E,hE⟩:∃b,eqR x u=b:=⟨_,rfl⟩;have HE:=hD hE;have HWI:Hid (IntKind.i64.wrap ((k:Int)+1)=((k+1:Nat):Int)):=hD (by rw [IntWalk.i64_in _ (by have:=HLT.out;have:=HLD.out;have:=HLE.out;have:=HLA.out;omega)];omega);clear hdm hd0 hd1 hx hd hE hlt hk;have hkc:=HKC.out;have hcap:=HCA.out;cases E
      case false =>
       have q22:=HLK.out;have q23:=(fun w=>run_neqR HE.out w);obtain ⟨k24a,k24b,k24c⟩:=c3 HX7_19;have HR0_bk10:=hD (own_old HO0.out LO10.out);have HR0_bk7:=hD (own_old HO0.out LO7.out);have HR0_bk27:=hD (own_old HO0.out LO27.out);have HR0_g9:=hD (own_old HO0.out LO9.out);have f25:wr.frozen? ⟨bk7,0,none⟩=false:=frz0 HX7_19.out 0;have f26:wr.frozen? ⟨bk7,1,none⟩=false:=frz0 HX7_19.out 1;have f27:wr.frozen? ⟨bk7,2,none⟩=false:=frz0 HX7_19.out 2;obtain ⟨k28a,k28b,k28c⟩:=c3 HX7_19;have hB:=(((HB.out.setCell (p:=⟨bk7,0,none⟩) (by rw [←HN0.out];exact HG7_19.out) (.bool x.neg)).setCell (p:=⟨bk7,1,none⟩) (by rw [←HN0.out];exact HG7_19.out) (.string (encS x.num))).setCell (p:=⟨bk7,2,none⟩) (by rw [←HN0.out];exact HG7_19.out) (.string (encS x.den)))
       have hN:(((wr.setCell ⟨bk7,0,none⟩ (.bool x.neg)).setCell ⟨bk7,1,none⟩ (.string (encS x.num))).setCell ⟨bk7,2,none⟩ (.string (encS x.den))).heap[bk7]? =some (.cells #[.bool x.neg,.string (encS x.num),.string (encS x.den)] 29 (0,0)):=by simp [World.setCell,Array.getElem?_modify,HX7_19.out]
       have hxm:(((wr.setCell ⟨bk7,0,none⟩ (.bool x.neg)).setCell ⟨bk7,1,none⟩ (.string (encS x.num))).setCell ⟨bk7,2,none⟩ (.string (encS x.den))).heap[bk10]? =_:=(row_else (row_else (row_else HXm.out (en1 HL7_19) _) (en1 HL7_19) _) (en1 HL7_19) _);have HXm:=hD hxm;clear hxm;have hx27_21:(((wr.setCell ⟨bk7,0,none⟩ (.bool x.neg)).setCell ⟨bk7,1,none⟩ (.string (encS x.num))).setCell ⟨bk7,2,none⟩ (.string (encS x.den))).heap[bk27]? =_:=(row_else (row_else (row_else HX27_21.out (ne1 HL27_21) _) (ne1 HL27_21) _) (ne1 HL27_21) _);have HX27_21:=hD hx27_21;clear hx27_21;have hx9:(((wr.setCell ⟨bk7,0,none⟩ (.bool x.neg)).setCell ⟨bk7,1,none⟩ (.string (encS x.num))).setCell ⟨bk7,2,none⟩ (.string (encS x.den))).heap[g9]? =_:=(row_else (row_else (row_else HX9.out (ne2 HL27_21 HL9) _) (ne2 HL27_21 HL9) _) (ne2 HL27_21 HL9) _);have HX9:=hD hx9;clear hx9
       have ho0:(((wr.setCell ⟨bk7,0,none⟩ (.bool x.neg)).setCell ⟨bk7,1,none⟩ (.string (encS x.num))).setCell ⟨bk7,2,none⟩ (.string (encS x.den))).ownsRow (g9+1) 64 4 u6 n.length (cells4 (n.map rawD)):=(own_cell (own_cell (own_cell HO0.out HR0_bk7.out) HR0_bk7.out) HR0_bk7.out);have HO0:=hD ho0;clear ho0;obtain ⟨W8,hW8⟩:∃W,(((wr.setCell ⟨bk7,0,none⟩ (.bool x.neg)).setCell ⟨bk7,1,none⟩ (.string (encS x.num))).setCell ⟨bk7,2,none⟩ (.string (encS x.den)))=W:=⟨_,rfl⟩;rw [hW8] at hN hB HXm HX27_21 HX9 HO0;have HX7_19:=hD hN;have HB:=hD hB;clear hN hB;obtain ⟨k29a,k29b,k29c⟩:=c3 HX7_19;have hN:=heap_alloc_new W8 (.cells #[.int .i64 d,.bool x.neg,.string (encS x.num),.string (encS x.den)] 64);have hB:=HB.out.alloc HB.out.size (.cells #[.int .i64 d,.bool x.neg,.string (encS x.num),.string (encS x.den)] 64);have HG46_30:Hid (n0≤W8.heap.size):=hD (by rw [HN0.out];exact HB.out.size)
       have HL46_30:=hD (Array.getElem?_eq_some_iff.1 HX9.out).1;have HXm:=hD (hpU ((Below.refl _ W8).alloc (Nat.le_refl _) (.cells #[.int .i64 d,.bool x.neg,.string (encS x.num),.string (encS x.den)] 64)) HXm.out);have HX7_19:=hD (hpU ((Below.refl _ W8).alloc (Nat.le_refl _) (.cells #[.int .i64 d,.bool x.neg,.string (encS x.num),.string (encS x.den)] 64)) HX7_19.out);have HX27_21:=hD (hpU ((Below.refl _ W8).alloc (Nat.le_refl _) (.cells #[.int .i64 d,.bool x.neg,.string (encS x.num),.string (encS x.den)] 64)) HX27_21.out);have HX9:=hD (hpU ((Below.refl _ W8).alloc (Nat.le_refl _) (.cells #[.int .i64 d,.bool x.neg,.string (encS x.num),.string (encS x.den)] 64)) HX9.out);have hr0:=own_new HO0.out;have HO0:=hD (HO0.out.alloc (.cells #[.int .i64 d,.bool x.neg,.string (encS x.num),.string (encS x.den)] 64))
       obtain ⟨W9,hW9⟩:∃W,W8.alloc (.cells #[.int .i64 d,.bool x.neg,.string (encS x.num),.string (encS x.den)] 64)=W:=⟨_,rfl⟩;obtain ⟨bk46,hbk46⟩:∃b,W8.heap.size=b:=⟨_,rfl⟩;rw [hW9] at hN hB HXm HX7_19 HX27_21 HX9 HO0;rw [hbk46] at hr0;have HR0_bk46:=hD hr0;clear hr0;rw [hbk46] at hN HG46_30 HL46_30;have HX46_30:=hD hN;have HB:=hD hB;clear hN hB;obtain ⟨v31,w10,hrun31,hO,hkp,hbl⟩:=app_dr HO0.out HX46_30.out (one4 _ _ _ _) (.inl (by have:=(Array.getElem?_eq_some_iff.1 HX9.out).1;omega)) (by have:=HF.out.2;have:=HLT.out;have:=HLD.out;have:=HLE.out;have:=HLA.out;omega);have HXm:=hkp _ _ LO10 HXm;have HX7_19:=hkp _ _ LO7 HX7_19;have HX27_21:=hkp _ _ LO27 HX27_21;have HX9:=hkp _ _ LO9 HX9;have HB:=hbl _ _ (by have:=HG9.out;have:=HN0.out;omega) HB;have HO0:=hD hO;clear hO hkp hbl
       have HF2:Hid (normF g0 (ds.take (k+1))=(n++[(d,x)],x)∧(n++[(d,x)]).length≤k+1):=hD ⟨by rw [HNS.out,if_neg (eqR_false.1 HE.out)],by have:=HF.out.2;simp;omega⟩;have HO2:Hid (w10.ownsRow (g9+1) 64 4 v31 (n++[(d,x)]).length (cells4 ((n++[(d,x)]).map rawD))):=hD (by rw [List.length_append,List.length_singleton,List.map_append,List.map_singleton,cells4_snoc];exact HO0.out);have hwi:=HWI.out;go_wp2_with (first|(at_builtin;refine wpList_append_run rfl (.tmp 42) (.tmp 46) 56 rfl _ _ _ _ rfl rfl hrun31 ?_)|fail);clear hlt' hkc hcap q22 q23 k24a k24b k24c f25 f26 f27 k28a k28b k28c hW8 k29a k29b k29c hW9 hbk46 hrun31 hwi
       go_roundw
       case rel=>exact ⟨k+1,n++[(d,x)],x,by have:=HLT.out;omega,by first|rfl|go_num,HF2,HO2,HXm,HX7_19,HX27_21,HX9,HB⟩
       case measure=>have:=HLT.out;simp [intOf];omega
      case true =>
       have q32:=HLK.out;have q33:=(fun w=>run_neqR HE.out w);obtain ⟨k34a,k34b,k34c⟩:=c3 HX7_19;have HF2:Hid (normF g0 (ds.take (k+1))=(n,u)∧n.length≤k+1):=hD ⟨by rw [HNS.out,if_pos (eqR_iff.1 HE.out)],Nat.le_succ_of_le HF.out.2⟩;have hwi:=HWI.out;go_wp2_with fail;clear hlt' hkc hcap q32 q33 k34a k34b k34c hwi
       go_roundw
       case rel=>exact ⟨k+1,n,u,by have:=HLT.out;omega,by first|rfl|go_num,HF2,HO0,HXm,HX7_19,HX27_21,HX9,HB⟩
       case measure=>have:=HLT.out;simp [intOf];omega
     ·have hge:¬(k:Int)<(ds.length:Int):=by omega
      have HNG:Hid (normG g0=n):=hD (by have h:=HF.out.1;rw [List.take_of_length_le (by omega)] at h;rw [←HNF.out,h]);have HLR:=hD (own_low HO0.out (show n0≤g9+1 by have:=HG9.out;omega));go_wp2_with fail;clear hge;go_ret;exact ⟨_,rfl,by rw [HG0.out,HNG.out];exact HLR.out,by rw [HN0.out];exact HB.out⟩
theorem Norm_any (v:Value) (l:List Dk) (hz:SzD l 1100000) (wq:World) (hl:LstD wq v l) :
  Calls Tryz.prog 34 #[v] wq fun e w' =>∃v',e=.returned v' ∧LstD w' v' ((normG (drs l)).map rawD)∧Below wq.heap.size wq w' :=by
 refine (Norm_own v l hz wq hl).mono ?_;rintro e w' ⟨v',rfl,h,hb⟩;exact ⟨v',rfl,own_lstD (by rw [List.length_map];exact h) (by rw [List.length_map];have:=normG_le l;obtain ⟨_,_,_,-,h2,-⟩:=hl.open;omega),hb⟩
end Go.Proofs.YtblgfmjlajhipaaGreatDoor
