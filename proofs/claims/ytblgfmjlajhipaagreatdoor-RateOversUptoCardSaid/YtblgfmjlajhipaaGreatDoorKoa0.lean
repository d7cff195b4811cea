/- RateOvers: contracts and the law's walk. Each theorem names its conditions. -/
import Derived.Lib.IndexBytes
import Derived.Deep.LoopGhost
import Derived.Deep.QuietTactic
import Derived.BigQuiet
import Derived.Test.YtblgfmjlajhipaaGreatDoorProg
import Derived.WalkKit
import Derived.WalkSpells
import Derived.WalkLawsBesides
import Derived.IntWalk
import Derived.Lib.Hide
import Derived.Laws.BitsAllLaws
import Derived.StillTailTactics
import Derived.Deep.OwnRows
import Derived.Lib.ConvBytes
import Derived.Below
import Derived.RangeFuncNested
import Derived.RangeFuncCalls
import Derived.RangeFuncLeaves
import Derived.Shelf.Abstract
import Derived.Lib.LaidIn
import Derived.RegionTactic
import Derived.KernelRfl
import Derived.OrdersIn
import Derived.Shelf.Strings.Trim
import Derived.Shelf.Small.Utf8
import Derived.Shelf.Small.Bits
import Derived.Shelf.Small.Strs
import Derived.Shelf.Strconv.Itoa0
import Derived.Shelf.Strings.Search1
import Derived.Shelf.Strings.Runes
import Derived.Shelf.Strings.AsciiSet
import Derived.Shelf.Unicode.DecodeSlow
import Derived.Shelf.Unicode.DecodeAny
import Derived.Ground.SlgmProg
import Derived.Shelf.SortM.Plain
import Derived.Shelf.SortM.SortNone
import Derived.OwnWalk
import Derived.Laws.AppendOwn
import Derived.Laws.AppendOwnNone
import Derived.Test.YtblgfmjlajhipaaGreatDoorRows
import Derived.ProofKit
import Derived.OpenShut
import Derived.ChangeSame
import Derived.Test.YtblgfmjlajhipaaGreatDoorZa5
import Derived.Test.YtblgfmjlajhipaaGreatDoorZa4
import Derived.Test.YtblgfmjlajhipaaGreatDoorZa3
import Derived.Test.YtblgfmjlajhipaaGreatDoorZa0
import Derived.Test.YtblgfmjlajhipaaGreatDoorZa1
import Derived.Test.YtblgfmjlajhipaaGreatDoorZa2
import Derived.Test.YtblgfmjlajhipaaGreatDoorZb1
import Derived.Test.YtblgfmjlajhipaaGreatDoorZb2
import Derived.Test.YtblgfmjlajhipaaGreatDoorZb4
import Derived.Test.YtblgfmjlajhipaaGreatDoorZb0
import Derived.Test.YtblgfmjlajhipaaGreatDoorZa9
import Derived.Test.YtblgfmjlajhipaaGreatDoorZa8
import Derived.Test.YtblgfmjlajhipaaGreatDoorZa7
import Derived.Test.YtblgfmjlajhipaaGreatDoorZa6
import Derived.Test.YtblgfmjlajhipaaGreatDoorZb3
import Derived.Test.YtblgfmjlajhipaaGreatDoorZb5
import Derived.Test.YtblgfmjlajhipaaGreatDoorZb6
set_option maxHeartbeats 16000000
set_option linter.unusedVariables false
namespace Go.Proofs.YtblgfmjlajhipaaGreatDoor
open Go.RowKit Go.Shelf
open Dgt
end Go.Proofs.YtblgfmjlajhipaaGreatDoor
namespace Go.Proofs.YtblgfmjlajhipaaGreatDoor
open Go.RowKit Go.Shelf
open Dgt
end Go.Proofs.YtblgfmjlajhipaaGreatDoor
namespace Go.Proofs.YtblgfmjlajhipaaGreatDoor
open Go.RowKit Go.Shelf
open Dgt
end Go.Proofs.YtblgfmjlajhipaaGreatDoor
namespace Go.Proofs.YtblgfmjlajhipaaGreatDoor
open Go.RowKit Go.Shelf
open Dgt
end Go.Proofs.YtblgfmjlajhipaaGreatDoor
namespace Go.Proofs.YtblgfmjlajhipaaGreatDoor
open Go.RowKit Go.Shelf
open Dgt
theorem bits_half {d:Nat} (h:0<d):bitsN d=bitsN (d/2)+1:=by
 unfold bitsN;rw [digs_pos (by decide) h];rfl
theorem bits_shift:∀(k d:Nat),0<d/2^k→bitsN d=bitsN (d/2^k)+k
 | 0,d,_=>by simp
 | k+1,d,h=>by
  have e:d/2^(k+1)=d/2/2^k:=by rw [Nat.div_div_eq_div_mul,Nat.pow_succ,Nat.mul_comm]
  rw [e] at h ⊢;have hd:0<d:=by
   rcases Nat.eq_zero_or_pos d with rfl|h0
   ·simp at h
   ·exact h0
  rw [bits_half hd,bits_shift k (d/2) h];omega
theorem bits_enc {m s:Nat} (h:0<m) (hs:(encS m).size=s+1):bitsN m=8*s+bitsN (((encS m)[0]'(by omega)).toNat)∧0<((encS m)[0]'(by omega)).toNat:=by
 have hb:=byte_at m (k:=0) (by omega);have e1:(encS m).size-1-0=s:=by omega
 rw [e1] at hb;have hl:=digs_lt (B:=256) (by decide) m;have hg:=digs_ge (B:=256) (by decide) h;rw [←encS_size,hs] at hl hg;rw [show s+1-1=s by omega] at hg;have hq:m/256^s<256:=by
  rw [Nat.div_lt_iff_lt_mul (Nat.pow_pos (by decide)), ←Nat.pow_succ'];exact hl
 rw [Nat.mod_eq_of_lt hq] at hb;have hp:0<m/256^s:=Nat.div_pos hg (Nat.pow_pos (by decide));rw [hb];refine ⟨?_,hp⟩;have e:(256:Nat)^s=2^(8*s):=by rw [Nat.pow_mul]
 rw [e] at hp ⊢;rw [bits_shift (8*s) m hp];omega
set_option maxRecDepth 100000 in
theorem rBits_any (a:ByteArray) (w:World) (ha:a.size≤100000000) :
  Calls Tryz.prog 112 #[.string a] w fun e w' =>e=.returned (.int .i64 ((bitsN (numS a):Nat):Int))∧w=w' :=by
 have HC:=hD (Canon_any a · ha);have hl:=encS_len_le a;obtain ⟨m,hm⟩:∃m,numS a=m:=⟨_,rfl⟩;rw [hm] at HC hl ⊢;obtain ⟨c,hc⟩:∃c,encS m=c:=⟨_,rfl⟩;rw [hc] at HC;rcases hs:c.size with _|s
 ·have hm0:m=0:=by
   have:=encS_size m;rw [hc,hs] at this;exact (digs_eq_nil (by decide)).1 (List.eq_nil_of_length_eq_zero this.symm)
  have HE:Hid (bitsN m=0):=hD (by rw [hm0,bitsN,digs_zero];rfl);have h1:((c.size:Int)==0)=true:=by rw [beq_iff_eq];omega
  clear hm hl ha hc hs hm0;go_enter Tryz.func112,Tryz.ntmps112;go_wp2_with fail;refine (HC.out _).mono ?_;rintro e w1 ⟨rfl,rfl⟩;go_wp2_with fail;go_ret;exact ⟨by rw [HE.out];rfl,rfl⟩
 ·have hm0:0<m:=by
   rcases Nat.eq_zero_or_pos m with rfl|h
   ·have:(encS 0).size=0:=by rw [encS_size,digs_zero];rfl
    rw [hc] at this;omega
   ·exact h
  have hp:0<c.size:=by omega
  have hbe:bitsN m=8*s+bitsN ((c[0]'hp).toNat)∧0<(c[0]'hp).toNat:=by
   subst hc;exact bits_enc hm0 hs
  obtain ⟨x,hx⟩:∃x,(c[0]'hp).toNat=x:=⟨_,rfl⟩;rw [hx] at hbe;have hxl:(x:Int)<256:=by have:=(c[0]'hp).toNat_lt;omega
  have HE:=hD hbe.1;have h1:((c.size:Int)==0)=false:=by rw [beq_eq_false_iff_ne];omega
  have h2:¬(c.size:Int)=0:=by omega
  have h3:0<(c.size:Int):=by omega
  have h4:(c.size:Int)≤100000000:=by rw [←hc];omega
  have h5:(c.size:Int)-1=(s:Int):=by omega
  have h6:(s:Int)≤100000000:=by omega
  clear hm hl ha hc hs hm0 hbe;go_enter Tryz.func112,Tryz.ntmps112;go_wp2_with fail;refine (HC.out _).mono ?_;rintro e w1 ⟨rfl,rfl⟩;go_wp2_with fail
  go_loop [3,4] (fun nv dv=>∃n d:Nat,nv=.int .i64 (n:Int)∧dv=.int .i64 (d:Int)∧(d:Int)<256∧(n:Int)+d≤1000000000∧Hid (n+bitsN d=8*s+bitsN x)) (fun _ dv=>(intOf dv).toNat)
  case atStart=>exact ⟨8*s,x,by go_num,rfl,hxl,by omega,hD rfl⟩
  case round =>
   obtain ⟨n,d,rfl,rfl,hd,hn,HS⟩:=hrel
   by_cases h0:0<d
   ·have h0' :0<(d:Int):=by omega
    have HH:=hD (bits_half h0);obtain ⟨q,hq⟩:∃q,d/2=q:=⟨_,rfl⟩;rw [hq] at HH;have q1:(d:Int)/2=(q:Int):=by omega
    have hqd:q<d:=by omega
    clear hq h0;go_wp2_with fail
    go_round
    case rel=>exact ⟨n+1,q,by go_num,rfl,by omega,by omega,hD (by have:=HS.out;have:=HH.out;omega)⟩
    case measure=>simp [intOf];omega
   ·have h0' :¬0<(d:Int):=by omega
    have HF:Hid (n=bitsN m):=hD (by
     have h1:=HS.out;rw [show d=0 by omega,bitsN,digs_zero] at h1;rw [HE.out];simpa using h1)
    clear h0;go_wp2_with fail;go_ret;exact ⟨by rw [←HF.out];rfl,rfl⟩
end Go.Proofs.YtblgfmjlajhipaaGreatDoor
namespace Go.Proofs.YtblgfmjlajhipaaGreatDoor
open Go.RowKit Go.Shelf
open Dgt
end Go.Proofs.YtblgfmjlajhipaaGreatDoor
namespace Go.Proofs.YtblgfmjlajhipaaGreatDoor
open Go.RowKit Go.Shelf
open Dgt
end Go.Proofs.YtblgfmjlajhipaaGreatDoor
namespace Go.Proofs.YtblgfmjlajhipaaGreatDoor
open Go.RowKit Go.Shelf
open Dgt
end Go.Proofs.YtblgfmjlajhipaaGreatDoor
namespace Go.Proofs.YtblgfmjlajhipaaGreatDoor
open Go.RowKit Go.Shelf
open Dgt
end Go.Proofs.YtblgfmjlajhipaaGreatDoor
namespace Go.Proofs.YtblgfmjlajhipaaGreatDoor
open Go.RowKit Go.Shelf
open Dgt
theorem rminus_any (vu vv:Value) (U V:List Nat) (w:World) (hu:LimR w vu U) (hv:LimR w vv V) (hle:valB 16777216 V≤valB 16777216 U) (hlen:V.length≤U.length) (hl9:U.length≤30000000) :
  Calls Tryz.prog 94 #[vu,vv] w fun e w' =>∃v',e=.returned v' ∧LimR w' v' (digs 16777216 (valB 16777216 U-valB 16777216 V))∧Below w.heap.size w w' :=
 (rminus_ok vu vv U V w hu hv hle hlen hl9).mono fun e w' ⟨v',h1,h2,h3,h4⟩=>⟨v',h1,h2,h4⟩
set_option maxRecDepth 100000 in
theorem rSub_any (a b:ByteArray) (w:World) (ha:a.size≤9000000) (hb:b.size≤9000000) :
  Gv 55 #[.string a,.string b] w (.tuple #[.string (encS (numS a-numS b)),.bool (decide (numS b≤numS a))]):=by
 unfold Gv;have HCM:=Lib.hid (rCmp_any a b · (by omega) (by omega));have OA:=Lib.hid (rof_any a · (by omega));have OB:=Lib.hid (rof_any b · (by omega));have la:(digs 16777216 (numS a)).length≤9000000:=Nat.le_trans (digs_len_le (by decide) (Nat.lt_of_lt_of_le (numS_lt a) (Nat.pow_le_pow_left (by decide) _))) ha;obtain ⟨A,hA⟩:∃A,numS a=A:=⟨_,rfl⟩;obtain ⟨B,hB⟩:∃B,numS b=B:=⟨_,rfl⟩;rw [hA] at OA la HCM;rw [hB] at OB HCM;rw [hA,hB];have LA:=Lib.hid la;clear ha hb la hA hB;rcases Nat.lt_or_ge A B with hlt|hge
 ·rw [cmpI_lt hlt] at HCM;have hE:Hid (encS (A-B)=⟨#[]⟩):=Lib.hid (by rw [show A-B=0 by omega,encS_zero]);have hD:Hid (decide (B≤A)=false):=Lib.hid (by rw [decide_eq_false_iff_not];omega);clear hlt;go_enter Tryz.func55,Tryz.ntmps55;go_wp2_with fail;refine (HCM.out _).mono ?_;rintro e w1 ⟨rfl,rfl⟩;go_wp2_with fail;go_ret2;exact ⟨by rw [hE.out,hD.out];rfl,Below.refl _ _⟩
 ·obtain ⟨c,hc,hc0⟩:=cmp_ge hge;rw [hc] at HCM;have hc0' :¬c<0:=by omega
  have hD:Hid (decide (B≤A)=true):=Lib.hid (by rw [decide_eq_true_eq];omega);have HGE:=Lib.hid hge;have HLN:=Lib.hid (digs_len_mono (B:=16777216) (by decide) hge);clear hge hc hc0;go_enter Tryz.func55,Tryz.ntmps55;go_wp2_with fail;refine (HCM.out _).mono ?_;rintro e w1 ⟨rfl,rfl⟩;go_wp2_with fail;refine (OA.out _).mono ?_;rintro e w1 ⟨vu,rfl,hl,hb⟩;have HU:=Lib.hid hl;have HB:=Lib.hid hb;clear hl hb;go_wp2_with fail;refine (OB.out _).mono ?_;rintro e w2 ⟨vv,rfl,hl,hb⟩;have HU:=Lib.hid (HU.out.up hb);have HV:=Lib.hid hl;have HB:=mH HB hb;clear hl hb;go_wp2_with fail;refine (rminus_any _ _ _ _ _ HU.out HV.out (by rw [valB_digs (by decide),valB_digs (by decide)];exact HGE.out) HLN.out (by have:=LA.out;omega)).mono ?_;rintro e w3 ⟨vm,rfl,hl,hb⟩;rw [valB_digs (by decide),valB_digs (by decide)] at hl;have HM:=Lib.hid hl;have HB:=mH HB hb;clear hl hb;go_wp2_with fail
  refine (rnumber_any _ _ _ HM.out (Nat.le_trans (digs_len_mono (by decide) (Nat.sub_le _ _)) (by have:=LA.out;omega))).mono ?_;rintro e w4 ⟨rfl,hb⟩;rw [valB_digs (by decide)];have HB:=mH HB hb;clear hb;go_wp2_with fail;go_ret2;exact ⟨by rw [hD.out];rfl,HB.out⟩
end Go.Proofs.YtblgfmjlajhipaaGreatDoor
namespace Go.Proofs.YtblgfmjlajhipaaGreatDoor
open Go.RowKit Go.Shelf
open Dgt
def EWN (ba bb:Nat) (ra rb L:Rt):Nat→Value
 | 0=>.pointer (some ⟨ba,0,none⟩)
 | 1=>.bool ra.neg
 | 2=>.pointer (some ⟨bb,0,none⟩)
 | 3=>.bool rb.neg
 | 4=>.bool (ra.neg != rb.neg)
 | 5=>.pointer (some ⟨ba,1,none⟩)
 | 6=>.string (encS ra.num)
 | 7=>.pointer (some ⟨bb,1,none⟩)
 | 8=>.string (encS rb.num)
 | 9=>.string (encS (ra.num*rb.num))
 | 10=>.pointer (some ⟨ba,2,none⟩)
 | 11=>.string (encS ra.den)
 | 12=>.pointer (some ⟨bb,2,none⟩)
 | 13=>.string (encS rb.den)
 | 14=>.string (encS (ra.den*rb.den))
 | 15=>.agg #[.bool L.neg,.string (encS L.num),.string (encS L.den)]
 | _=>undef
set_option maxRecDepth 100000 in
theorem rRatMul_r {va vb:Value} {ra rb:Rt} {k:Nat} (ha:IsR va ra k) (hb:IsR vb rb k) (hk1:1≤k) (hk:k≤4000000) (wq:World) :
  Gv 28 #[va,vb] wq (rtV (mulR ra rb)):=by
 unfold Gv;have HVA:=hD (fun w=>rvalue_r ha (by omega) w);have HVB:=hD (fun w=>rvalue_r hb (by omega) w);have za:=ha.rz hk1;have zb:=hb.rz hk1;have oka:=ha.ok;have okb:=hb.ok;have HN:=hD (fun w=>rMul_any (encS ra.num) (encS rb.num) w (Nat.le_trans (encS_size_lt za.1) (by omega)) (Nat.le_trans (encS_size_lt zb.1) (by omega)));simp only [numS_encS] at HN;have HD:=hD (fun w=>rMul_any (encS ra.den) (encS rb.den) w (Nat.le_trans (encS_size_lt za.2) (by omega)) (Nat.le_trans (encS_size_lt zb.2) (by omega)));simp only [numS_encS] at HD;have HL:=hD (fun w=>rlowest_n (ra.neg != rb.neg) (ra.num*rb.num) (ra.den*rb.den) w (Nat.mul_pos oka.pos okb.pos) ((za.1.mul zb.1).mono (by omega)) ((za.2.mul zb.2).mono (by omega)));have HE:Hid (mulR ra rb=low (ra.neg != rb.neg) (ra.num*rb.num) (ra.den*rb.den)):=hD rfl;rw [HE.out];obtain ⟨L,hL⟩:∃L,low (ra.neg != rb.neg) (ra.num*rb.num) (ra.den*rb.den)=L:=⟨_,rfl⟩
 rw [hL] at HL ⊢;clear hL;obtain ⟨na,sa,da,rfl,-⟩:=ha;obtain ⟨nb,sb,db,rfl,-⟩:=hb;clear za zb hk1 hk oka okb;obtain ⟨W3,hW3,hxa,hxb,hxz,hb3⟩:=boxes3 wq (.cells #[.bool na,.string sa,.string da] 29) (.cells #[.bool nb,.string sb,.string db] 29) (.cells #[.bool false,.string ⟨#[]⟩,.string ⟨#[]⟩] 29);obtain ⟨⟨ca0,ca1,ca2⟩,-⟩:=rwC hxa;go_enter Tryz.func28,Tryz.ntmps28;go_wp2_with fail;obtain ⟨ba,hba⟩:∃b,wq.heap.size=b:=⟨_,rfl⟩;obtain ⟨bb,hbb⟩:∃b,ba+1=b:=⟨_,rfl⟩;obtain ⟨bz,hbz⟩:∃b,bb+1=b:=⟨_,rfl⟩;rw [hba] at hxa hxb hxz ⊢;rw [hbb] at hxb hxz ⊢;rw [hbz] at hxz ⊢;have HNE:Hid (ba≠bb):=hD (by omega);have HNZA:Hid (bz≠ba):=hD (by omega);have HNZB:Hid (bz≠bb):=hD (by omega);refine (HVA.out _).mono ?_;rintro e w1 ⟨rfl,hb⟩;have hxa1:=hpU hb hxa;have hxb1:=hpU hb hxb;have hxz1:=hpU hb hxz;have hbl1:=hb3.trans (hb.mono hb3.size);clear hb hb3 hxa hxb hxz ca0 ca1 ca2 hW3
 obtain ⟨⟨ca0,ca1,ca2⟩,hfa⟩:=rwC hxa1;have fa0:=hfa 0;have fa1:=hfa 1;have fa2:=hfa 2;obtain ⟨W4,hW4⟩:∃W4,((w1.setCell ⟨ba,0,none⟩ (.bool ra.neg)).setCell ⟨ba,1,none⟩ (.string (encS ra.num))).setCell ⟨ba,2,none⟩ (.string (encS ra.den))=W4:=⟨_,rfl⟩;have hxa4:W4.heap[ba]? =some (.cells #[.bool ra.neg,.string (encS ra.num),.string (encS ra.den)] 29 (0,0)):=by rw [←hW4];exact row_set hxa1 _ _ _
 have hxb4:W4.heap[bb]? =some (.cells #[.bool nb,.string sb,.string db] 29 (0,0)):=by rw [←hW4];simpa [World.setCell,Array.getElem?_modify,HNE.out] using hxb1
 have hxz4:W4.heap[bz]? =some (.cells #[.bool false,.string ⟨#[]⟩,.string ⟨#[]⟩] 29 (0,0)):=by rw [←hW4];simpa [World.setCell,Array.getElem?_modify,Ne.symm HNZA.out] using hxz1
 have hbl4:Below wq.heap.size wq W4:=by rw [←hW4];exact below_row hbl1 (by omega) _ _ _
 obtain ⟨⟨cb0,cb1,cb2⟩,-⟩:=rwC hxb4;have HXA:=hD hxa4;have HXB:=hD hxb4;have HXZ:=hD hxz4;have HB4:=hD hbl4;clear hfa hxa1 hxb1 hxz1 hbl1 hxa4 hxb4 hxz4 hbl4;go_wp2_with fail;refine (HVB.out _).mono ?_;rintro e w2 ⟨rfl,hb⟩;have hxa1:=hpU hb HXA.out;have hxb1:=hpU hb HXB.out;have hxz1:=hpU hb HXZ.out;have hbl1:=HB4.out.trans (hb.mono HB4.out.size);clear hb cb0 cb1 cb2 ca0 ca1 ca2 fa0 fa1 fa2 hW4;obtain ⟨⟨cb0,cb1,cb2⟩,hfb⟩:=rwC hxb1;have fb0:=hfb 0;have fb1:=hfb 1;have fb2:=hfb 2;obtain ⟨W5,hW5⟩:∃W5,((w2.setCell ⟨bb,0,none⟩ (.bool rb.neg)).setCell ⟨bb,1,none⟩ (.string (encS rb.num))).setCell ⟨bb,2,none⟩ (.string (encS rb.den))=W5:=⟨_,rfl⟩;have hxb5:W5.heap[bb]? =some (.cells #[.bool rb.neg,.string (encS rb.num),.string (encS rb.den)] 29 (0,0)):=by rw [←hW5];exact row_set hxb1 _ _ _
 have hxa5:W5.heap[ba]? =some (.cells #[.bool ra.neg,.string (encS ra.num),.string (encS ra.den)] 29 (0,0)):=by rw [←hW5];simpa [World.setCell,Array.getElem?_modify,Ne.symm HNE.out] using hxa1
 have hxz5:W5.heap[bz]? =some (.cells #[.bool false,.string ⟨#[]⟩,.string ⟨#[]⟩] 29 (0,0)):=by rw [←hW5];simpa [World.setCell,Array.getElem?_modify,Ne.symm HNZB.out] using hxz1
 have HB5:Hid (Below wq.heap.size wq W5):=hD (by rw [←hW5];exact below_row hbl1 (by omega) _ _ _);have HXA:=hD hxa5;have HXB:=hD hxb5;have HXZ:=hD hxz5;clear hfb hxa1 hxb1 hxz1 hbl1 hxa5 hxz5;clear hxb5;go_wp2_with fail;clear cb0 cb1 cb2 fb0 fb1 fb2 hW5;refine wpTl (w:=W5) (by kernel_rfl) (fun ix v _=>v=EWN ba bb ra rb L ix) 16 (fun t=>(decide (9≤t)&&decide (t<25))) (by decide) (by kernel_rfl) (by kernel_rfl) (by kernel_rfl) (by kernel_rfl) (by kernel_rfl) (fun _ _ _ _ _ h=>h) ?_ ?_
 ·intro i hi o listed a w hR K hK;have ho:=hR.at_;have hi:i<16:=hi;have hii:i=0∨i=1∨i=2∨i=3∨i=4∨i=5∨i=6∨i=7∨i=8∨i=9∨i=10∨i=11∨i=12∨i=13∨i=14∨i=15:=by omega
  rcases hii with rfl|rfl|rfl|rfl|rfl|rfl|rfl|rfl|rfl|rfl|rfl|rfl|rfl|rfl|rfl|rfl
  ·simp at ho;subst ho;have b2:a.tmps.getD 2 undef=.pointer (some ⟨ba,0,none⟩):=hR.b 2;refine pSq ?_;go_simp;exact hK _ _ rfl rB
  ·simp at ho;subst ho;have e0:a.tmps.getD 9 undef=.pointer (some ⟨ba,0,none⟩):=hR.t 0;obtain ⟨⟨cx0,cx1,cx2⟩,-⟩:=rwC (hpU hR.below HXA.out);refine pSq ?_;go_simp;exact hK _ _ rfl rB
  ·simp at ho;subst ho;have b3:a.tmps.getD 3 undef=.pointer (some ⟨bb,0,none⟩):=hR.b 3;refine pSq ?_;go_simp;exact hK _ _ rfl rB
  ·simp at ho;subst ho;have e2:a.tmps.getD 11 undef=.pointer (some ⟨bb,0,none⟩):=hR.t 2;obtain ⟨⟨cx0,cx1,cx2⟩,-⟩:=rwC (hpU hR.below HXB.out);refine pSq ?_;go_simp;exact hK _ _ rfl rB
  ·simp at ho;subst ho;have e1:a.tmps.getD 10 undef=.bool ra.neg:=hR.t 1;have e3:a.tmps.getD 12 undef=.bool rb.neg:=hR.t 3;refine pSq ?_;go_simp;exact hK _ _ rfl rB
  ·simp at ho;subst ho;have b2:a.tmps.getD 2 undef=.pointer (some ⟨ba,0,none⟩):=hR.b 2;refine pSq ?_;go_simp;exact hK _ _ rfl rB
  ·simp at ho;subst ho;have e5:a.tmps.getD 14 undef=.pointer (some ⟨ba,1,none⟩):=hR.t 5;obtain ⟨⟨cx0,cx1,cx2⟩,-⟩:=rwC (hpU hR.below HXA.out);refine pSq ?_;go_simp;exact hK _ _ rfl rB
  ·simp at ho;subst ho;have b3:a.tmps.getD 3 undef=.pointer (some ⟨bb,0,none⟩):=hR.b 3;refine pSq ?_;go_simp;exact hK _ _ rfl rB
  ·simp at ho;subst ho;have e7:a.tmps.getD 16 undef=.pointer (some ⟨bb,1,none⟩):=hR.t 7;obtain ⟨⟨cx0,cx1,cx2⟩,-⟩:=rwC (hpU hR.below HXB.out);refine pSq ?_;go_simp;exact hK _ _ rfl rB
  ·simp at ho;subst ho;have e6:a.tmps.getD 15 undef=.string (encS ra.num):=hR.t 6;have e8:a.tmps.getD 17 undef=.string (encS rb.num):=hR.t 8;refine pSq ?_;go_simp;refine (HN.out w).mono ?_;rintro e w' ⟨rfl,hb⟩;exact hK _ _ (rfl) hb
  ·simp at ho;subst ho;have b2:a.tmps.getD 2 undef=.pointer (some ⟨ba,0,none⟩):=hR.b 2;refine pSq ?_;go_simp;exact hK _ _ rfl rB
  ·simp at ho;subst ho;have e10:a.tmps.getD 19 undef=.pointer (some ⟨ba,2,none⟩):=hR.t 10;obtain ⟨⟨cx0,cx1,cx2⟩,-⟩:=rwC (hpU hR.below HXA.out);refine pSq ?_;go_simp;exact hK _ _ rfl rB
  ·simp at ho;subst ho;have b3:a.tmps.getD 3 undef=.pointer (some ⟨bb,0,none⟩):=hR.b 3;refine pSq ?_;go_simp;exact hK _ _ rfl rB
  ·simp at ho;subst ho;have e12:a.tmps.getD 21 undef=.pointer (some ⟨bb,2,none⟩):=hR.t 12;obtain ⟨⟨cx0,cx1,cx2⟩,-⟩:=rwC (hpU hR.below HXB.out);refine pSq ?_;go_simp;exact hK _ _ rfl rB
  ·simp at ho;subst ho;have e11:a.tmps.getD 20 undef=.string (encS ra.den):=hR.t 11;have e13:a.tmps.getD 22 undef=.string (encS rb.den):=hR.t 13;refine pSq ?_;go_simp;refine (HD.out w).mono ?_;rintro e w' ⟨rfl,hb⟩;exact hK _ _ (rfl) hb
  ·simp at ho;subst ho;have e4:a.tmps.getD 13 undef=.bool (ra.neg != rb.neg):=hR.t 4;have e9:a.tmps.getD 18 undef=.string (encS (ra.num*rb.num)):=hR.t 9;have e14:a.tmps.getD 23 undef=.string (encS (ra.den*rb.den)):=hR.t 14;refine pSq ?_;go_simp;refine (HL.out w).mono ?_;rintro e w' ⟨rfl,hb⟩;exact hK _ _ (rfl) hb
 ·intro s w hS hb;have e15:s 24=.agg #[.bool L.neg,.string (encS L.num),.string (encS L.den)]:=hS 15 (by decide);simp only [over,ovL,Nat.reduceAdd,Nat.reduceLeDiff,Nat.reduceLT];obtain ⟨⟨cz0,cz1,cz2⟩,hfz⟩:=rwC (hpU hb HXZ.out);have fz0:=hfz 0;have fz1:=hfz 1;have fz2:=hfz 2;refine tail_step (n:=0) rfl rfl ?_;go_simp;simp only [wpTail];have hrow:=row_set (hpU hb HXZ.out) (.bool L.neg) (.string (encS L.num)) (.string (encS L.den));have hbw:=below_row (HB5.out.trans (hb.mono HB5.out.size)) (b:=bz) (by omega) (.bool L.neg) (.string (encS L.num)) (.string (encS L.den));have HROW:=hD hrow;have HBW:=hD hbw;clear hrow hbw hS hb cz0 cz1 cz2 hfz fz0 fz1 fz2;go_wp2_with fail;refine bodyPost_ret (rC1 HROW.out) rfl ?_;exact ⟨rfl,HBW.out⟩
def EWC (ba bb:Nat) (ra rb L:Rt) (X Y D:Nat) (xn:Bool):Nat→Value
 | 0=>.pointer (some ⟨ba,0,none⟩)
 | 1=>.bool xn
 | 2=>.string (encS X)
 | 3=>.string (encS Y)
 | 4=>.string (encS (X+Y))
 | 5=>.string (encS D)
 | 6=>.agg #[.bool L.neg,.string (encS L.num),.string (encS L.den)]
 | _=>undef
set_option maxRecDepth 100000 in
theorem rRatAdd_r {va vb:Value} {ra rb:Rt} {k:Nat} (ha:IsR va ra k) (hb:IsR vb rb k) (hk1:1≤k) (hk:k≤4000000) (wq:World) :
  Gv 19 #[va,vb] wq (rtV (addR ra rb)):=by
 unfold Gv;have HVA:=Lib.hid (fun w=>rvalue_r ha (by omega) w);have HVB:=Lib.hid (fun w=>rvalue_r hb (by omega) w);have za:=ha.rz hk1;have zb:=hb.rz hk1;have oka:=ha.ok;have okb:=hb.ok;have HX:=Lib.hid (fun w=>rMul_any (encS ra.num) (encS rb.den) w (Nat.le_trans (encS_size_lt za.1) (by omega)) (Nat.le_trans (encS_size_lt zb.2) (by omega)));simp only [numS_encS] at HX;have HY:=Lib.hid (fun w=>rMul_any (encS rb.num) (encS ra.den) w (Nat.le_trans (encS_size_lt zb.1) (by omega)) (Nat.le_trans (encS_size_lt za.2) (by omega)));simp only [numS_encS] at HY;have HD:=Lib.hid (fun w=>rMul_any (encS ra.den) (encS rb.den) w (Nat.le_trans (encS_size_lt za.2) (by omega)) (Nat.le_trans (encS_size_lt zb.2) (by omega)));simp only [numS_encS] at HD;have zx:=(za.1.mul zb.2).mono (j:=2*k) (by omega);have zy:=(zb.1.mul za.2).mono (j:=2*k) (by omega);have zd:=(za.2.mul zb.2).mono (j:=2*k) (by omega)
 have hdp:=Nat.mul_pos oka.pos okb.pos;have HE1:Hid (ra.neg=rb.neg→addR ra rb=low ra.neg (ra.num*rb.den+rb.num*ra.den) (ra.den*rb.den)):=Lib.hid fun h=>by unfold addR;rw [if_pos h]
 have HE2:Hid (¬ra.neg=rb.neg→rb.num*ra.den≤ra.num*rb.den→addR ra rb=low ra.neg (ra.num*rb.den-rb.num*ra.den) (ra.den*rb.den)):=Lib.hid fun h h2=>by unfold addR;rw [if_neg h,if_pos h2]
 have HE3:Hid (¬ra.neg=rb.neg→¬rb.num*ra.den≤ra.num*rb.den→addR ra rb=low rb.neg (rb.num*ra.den-ra.num*rb.den) (ra.den*rb.den)):=Lib.hid fun h h2=>by unfold addR;rw [if_neg h,if_neg h2]
 obtain ⟨Z,hZ⟩:∃Z,addR ra rb=Z:=⟨_,rfl⟩;obtain ⟨X,hX⟩:∃X,ra.num*rb.den=X:=⟨_,rfl⟩;obtain ⟨Y,hY⟩:∃Y,rb.num*ra.den=Y:=⟨_,rfl⟩;obtain ⟨D,hD⟩:∃D,ra.den*rb.den=D:=⟨_,rfl⟩;obtain ⟨xn,hxn⟩:∃b,ra.neg=b:=⟨_,rfl⟩;obtain ⟨yn,hyn⟩:∃b,rb.neg=b:=⟨_,rfl⟩;rw [hX] at HX zx;rw [hY] at HY zy;rw [hD] at HD zd hdp;simp only [hX,hY,hD,hZ,hxn,hyn] at HE1 HE2 HE3;rw [hxn] at HVA;rw [hyn] at HVB;rw [hZ];have sx:=Nat.le_trans (encS_size_lt zx) (show 2*k≤9000000 by omega);have sy:=Nat.le_trans (encS_size_lt zy) (show 2*k≤9000000 by omega);have HS:=Lib.hid (fun w=>rAdd_any (encS X) (encS Y) w sx sy);have HU:=Lib.hid (fun w=>rSub_any (encS X) (encS Y) w sx sy);have HU2:=Lib.hid (fun w=>rSub_any (encS Y) (encS X) w sy sx);have HC:=Lib.hid (fun w=>rCmp_any (encS X) (encS Y) w (Nat.le_trans sx (by decide)) (Nat.le_trans sy (by decide)));simp only [numS_encS] at HS HU HU2 HC
 have HLQ:=Lib.hid (fun (b:Bool) (N:Nat) (hN:Sz N (2*k+1)) w=>rlowest_n b N D w hdp (hN.mono (by omega)) (zd.mono (by omega)));have ZX:Hid (Sz (X+Y) (2*k+1)∧Sz (X-Y) (2*k+1)∧Sz (Y-X) (2*k+1)):=Lib.hid ⟨zx.add zy,(zx.sub _).mono (by omega),(zy.sub _).mono (by omega)⟩;clear zx zy zd hdp hX hY hD hZ hxn hyn sx sy;obtain ⟨na,sa,da,rfl,-⟩:=ha;obtain ⟨nb,sb,db,rfl,-⟩:=hb;clear za zb hk1 hk oka okb;obtain ⟨W3,hW3,hxa,hxb,hxz,hb3⟩:=boxes3 wq (.cells #[.bool na,.string sa,.string da] 29) (.cells #[.bool nb,.string sb,.string db] 29) (.cells #[.bool false,.string ⟨#[]⟩,.string ⟨#[]⟩] 29);obtain ⟨⟨ca0,ca1,ca2⟩,-⟩:=rwC hxa;go_enter Tryz.func19,Tryz.ntmps19;go_wp2_with fail;obtain ⟨ba,hba⟩:∃b,wq.heap.size=b:=⟨_,rfl⟩;obtain ⟨bb,hbb⟩:∃b,ba+1=b:=⟨_,rfl⟩;obtain ⟨bz,hbz⟩:∃b,bb+1=b:=⟨_,rfl⟩;rw [hba] at hxa hxb hxz ⊢;rw [hbb] at hxb hxz ⊢;rw [hbz] at hxz ⊢
 have HNE:Hid (ba≠bb):=Lib.hid (by omega);have HNZA:Hid (bz≠ba):=Lib.hid (by omega);have HNZB:Hid (bz≠bb):=Lib.hid (by omega);refine (HVA.out _).mono ?_;rintro e w1 ⟨rfl,hb⟩;have hxa1:=hpU hb hxa;have hxb1:=hpU hb hxb;have hxz1:=hpU hb hxz;have hbl1:=hb3.trans (hb.mono hb3.size);clear hb hb3 hxa hxb hxz ca0 ca1 ca2 hW3;obtain ⟨⟨ca0,ca1,ca2⟩,hfa⟩:=rwC hxa1;have fa0:=hfa 0;have fa1:=hfa 1;have fa2:=hfa 2;obtain ⟨W4,hW4⟩:∃W4,((w1.setCell ⟨ba,0,none⟩ (.bool xn)).setCell ⟨ba,1,none⟩ (.string (encS ra.num))).setCell ⟨ba,2,none⟩ (.string (encS ra.den))=W4:=⟨_,rfl⟩;have hxa4:W4.heap[ba]? =some (.cells #[.bool xn,.string (encS ra.num),.string (encS ra.den)] 29 (0,0)):=by rw [←hW4];exact row_set hxa1 _ _ _
 have hxb4:W4.heap[bb]? =some (.cells #[.bool nb,.string sb,.string db] 29 (0,0)):=by rw [←hW4];simpa [World.setCell,Array.getElem?_modify,HNE.out] using hxb1
 have hxz4:W4.heap[bz]? =some (.cells #[.bool false,.string ⟨#[]⟩,.string ⟨#[]⟩] 29 (0,0)):=by rw [←hW4];simpa [World.setCell,Array.getElem?_modify,Ne.symm HNZA.out] using hxz1
 have hbl4:Below wq.heap.size wq W4:=by rw [←hW4];exact below_row hbl1 (by omega) _ _ _
 obtain ⟨⟨cb0,cb1,cb2⟩,-⟩:=rwC hxb4;have HXA:=Lib.hid hxa4;have HXB:=Lib.hid hxb4;have HXZ:=Lib.hid hxz4;have HB4:=Lib.hid hbl4;clear hfa hxa1 hxb1 hxz1 hbl1 hxa4 hxb4 hxz4 hbl4;go_wp2_with fail;refine (HVB.out _).mono ?_;rintro e w2 ⟨rfl,hb⟩;have hxa1:=hpU hb HXA.out;have hxb1:=hpU hb HXB.out;have hxz1:=hpU hb HXZ.out;have hbl1:=HB4.out.trans (hb.mono HB4.out.size);clear hb cb0 cb1 cb2 ca0 ca1 ca2 fa0 fa1 fa2 hW4;obtain ⟨⟨cb0,cb1,cb2⟩,hfb⟩:=rwC hxb1;have fb0:=hfb 0;have fb1:=hfb 1;have fb2:=hfb 2;obtain ⟨W5,hW5⟩:∃W5,((w2.setCell ⟨bb,0,none⟩ (.bool yn)).setCell ⟨bb,1,none⟩ (.string (encS rb.num))).setCell ⟨bb,2,none⟩ (.string (encS rb.den))=W5:=⟨_,rfl⟩;have hxb5:W5.heap[bb]? =some (.cells #[.bool yn,.string (encS rb.num),.string (encS rb.den)] 29 (0,0)):=by rw [←hW5];exact row_set hxb1 _ _ _
 have hxa5:W5.heap[ba]? =some (.cells #[.bool xn,.string (encS ra.num),.string (encS ra.den)] 29 (0,0)):=by rw [←hW5];simpa [World.setCell,Array.getElem?_modify,Ne.symm HNE.out] using hxa1
 have hxz5:W5.heap[bz]? =some (.cells #[.bool false,.string ⟨#[]⟩,.string ⟨#[]⟩] 29 (0,0)):=by rw [←hW5];simpa [World.setCell,Array.getElem?_modify,Ne.symm HNZB.out] using hxz1
 have HB5:Hid (Below wq.heap.size wq W5):=Lib.hid (by rw [←hW5];exact below_row hbl1 (by omega) _ _ _);have HXA:=Lib.hid hxa5;have HXB:=Lib.hid hxb5;have HXZ:=Lib.hid hxz5;clear hfb hxa1 hxb1 hxz1 hbl1 hxa5 hxz5;clear hxb5;obtain ⟨⟨ca0,ca1,ca2⟩,-⟩:=rwC HXA.out;obtain ⟨⟨cd0,cd1,cd2⟩,-⟩:=rwC HXB.out;go_wp2_with fail;refine (HX.out _).mono ?_;rintro e w3 ⟨rfl,hb⟩;have HXA:=uH hb HXA;have HXB:=uH hb HXB;have HXZ:=uH hb HXZ;have HB5:=Lib.hid (HB5.out.trans (hb.mono HB5.out.size));clear hb ca0 ca1 ca2 cd0 cd1 cd2 cb0 cb1 cb2 fb0 fb1 fb2 hW5;obtain ⟨⟨ca0,ca1,ca2⟩,-⟩:=rwC HXA.out;obtain ⟨⟨cd0,cd1,cd2⟩,-⟩:=rwC HXB.out;go_wp2_with fail;refine (HY.out _).mono ?_;rintro e w4 ⟨rfl,hb⟩;have HXA:=uH hb HXA;have HXB:=uH hb HXB;have HXZ:=uH hb HXZ;have HB5:=Lib.hid (HB5.out.trans (hb.mono HB5.out.size));clear hb ca0 ca1 ca2 cd0 cd1 cd2;obtain ⟨⟨ca0,ca1,ca2⟩,-⟩:=rwC HXA.out
 obtain ⟨⟨cd0,cd1,cd2⟩,-⟩:=rwC HXB.out;go_wp2_with fail;refine (HD.out _).mono ?_;rintro e w6 ⟨rfl,hb⟩;have HXA:=uH hb HXA;have HXB:=uH hb HXB;have HXZ:=uH hb HXZ;have HB5:=Lib.hid (HB5.out.trans (hb.mono HB5.out.size));clear hb ca0 ca1 ca2 cd0 cd1 cd2;obtain ⟨⟨ca0,ca1,ca2⟩,-⟩:=rwC HXA.out;obtain ⟨⟨cd0,cd1,cd2⟩,-⟩:=rwC HXB.out
 by_cases hxy:xn=yn
 ·have hq:=HE1.out hxy;obtain ⟨L,hL⟩:∃L,low xn (X+Y) D=L:=⟨_,rfl⟩;have HL1:=Lib.hid (HLQ.out xn (X+Y) ZX.out.1);rw [hL] at hq HL1;obtain rfl:L=Z:=hq.symm;clear hL hq;have HXY:=Lib.hid hxy;have hxy2:(xn==yn)=true:=by rw [hxy];simp
  clear hxy HE1 HE2 HE3;go_wp2_with fail;clear ca0 ca1 ca2 cd0 cd1 cd2;refine wpTl (w:=w6) (by kernel_rfl) (fun ix v _=>v=EWC ba bb ra rb L X Y D xn ix) 7 (fun t=>(decide (36≤t)&&decide (t<43))) (by decide) (by kernel_rfl) (by kernel_rfl) (by kernel_rfl) (by kernel_rfl) (by kernel_rfl) (fun _ _ _ _ _ h=>h) ?_ ?_
  ·intro i hi o listed a w hR K hK;have ho:=hR.at_;have hi:i<7:=hi;have hii:i=0∨i=1∨i=2∨i=3∨i=4∨i=5∨i=6:=by omega
   rcases hii with rfl|rfl|rfl|rfl|rfl|rfl|rfl
   ·simp at ho;subst ho;have b2:a.tmps.getD 2 undef=.pointer (some ⟨ba,0,none⟩):=hR.b 2;refine pSq ?_;go_simp;exact hK _ _ rfl rB
   ·simp at ho;subst ho;have e0:a.tmps.getD 36 undef=.pointer (some ⟨ba,0,none⟩):=hR.t 0;obtain ⟨⟨cx0,cx1,cx2⟩,-⟩:=rwC (hpU hR.below HXA.out);refine pSq ?_;go_simp;exact hK _ _ rfl rB
   ·simp at ho;subst ho;have b5:a.tmps.getD 5 undef=.string (encS X):=hR.b 5;refine pSq ?_;go_simp;exact hK _ _ rfl rB
   ·simp at ho;subst ho;have b6:a.tmps.getD 6 undef=.string (encS Y):=hR.b 6;refine pSq ?_;go_simp;exact hK _ _ rfl rB
   ·simp at ho;subst ho;have e2:a.tmps.getD 38 undef=.string (encS X):=hR.t 2;have e3:a.tmps.getD 39 undef=.string (encS Y):=hR.t 3;refine pSq ?_;go_simp;refine (HS.out w).mono ?_;rintro e w' ⟨rfl,hb⟩;exact hK _ _ (rfl) hb
   ·simp at ho;subst ho;have b7:a.tmps.getD 7 undef=.string (encS D):=hR.b 7;refine pSq ?_;go_simp;exact hK _ _ rfl rB
   ·simp at ho;subst ho;have e1:a.tmps.getD 37 undef=.bool xn:=hR.t 1;have e4:a.tmps.getD 40 undef=.string (encS (X+Y)):=hR.t 4;have e5:a.tmps.getD 41 undef=.string (encS D):=hR.t 5;refine pSq ?_;go_simp;refine (HL1.out w).mono ?_;rintro e w' ⟨rfl,hb⟩;exact hK _ _ (rfl) hb
  ·intro s w hS hb;have e6:s 42=.agg #[.bool L.neg,.string (encS L.num),.string (encS L.den)]:=hS 6 (by decide);simp only [over,ovL,Nat.reduceAdd,Nat.reduceLeDiff,Nat.reduceLT];obtain ⟨⟨cz0,cz1,cz2⟩,hfz⟩:=rwC (hpU hb HXZ.out);have fz0:=hfz 0;have fz1:=hfz 1;have fz2:=hfz 2;refine tail_step (n:=0) rfl rfl ?_;go_simp;simp only [wpTail];have hrow:=row_set (hpU hb HXZ.out) (.bool L.neg) (.string (encS L.num)) (.string (encS L.den));have hbw:=below_row (HB5.out.trans (hb.mono HB5.out.size)) (b:=bz) (by omega) (.bool L.neg) (.string (encS L.num)) (.string (encS L.den));have HROW:=Lib.hid hrow;have HBW:=Lib.hid hbw;clear hrow hbw hS hb cz0 cz1 cz2 hfz fz0 fz1 fz2;go_wp2_with fail;refine bodyPost_ret (rC1 HROW.out) rfl ?_;exact ⟨rfl,HBW.out⟩
 ·have HQ2:=Lib.hid (HE2.out hxy);have HQ3:=Lib.hid (HE3.out hxy);have hxy2:(xn==yn)=false:=by simp [hxy]
  clear HE1 HE2 HE3;go_wp2_with fail;refine (HC.out _).mono ?_;rintro e w7 ⟨rfl,rfl⟩
  by_cases hle:Y≤X
  ·have hq:=HQ2.out hle;obtain ⟨L,hL⟩:∃L,low xn (X-Y) D=L:=⟨_,rfl⟩;have HL1:=Lib.hid (HLQ.out xn (X-Y) ZX.out.2.1);rw [hL] at hq HL1;subst hq;clear hL;obtain ⟨c,hc,hc0⟩:=cmp_ge (m:=X) (n:=Y) hle;rw [hc];rw [decide_eq_true hle] at HU;clear hle hc;go_wp2_with fail;refine (HU.out _).mono ?_;rintro e w8 ⟨rfl,hb⟩;have HXA:=uH hb HXA;have HXB:=uH hb HXB;have HXZ:=uH hb HXZ;have HB5:=Lib.hid (HB5.out.trans (hb.mono HB5.out.size));clear hb ca0 ca1 ca2 cd0 cd1 cd2;obtain ⟨⟨ca0,ca1,ca2⟩,-⟩:=rwC HXA.out;obtain ⟨⟨cd0,cd1,cd2⟩,-⟩:=rwC HXB.out;go_wp2_with fail;refine (HL1.out _).mono ?_;rintro e w5 ⟨rfl,hb⟩;unfold rtV;obtain ⟨⟨cz0,cz1,cz2⟩,hfz⟩:=rwC (hpU hb HXZ.out);have fz0:=hfz 0;have fz1:=hfz 1;have fz2:=hfz 2;have hrow:=row_set (hpU hb HXZ.out) (.bool Z.neg) (.string (encS Z.num)) (.string (encS Z.den))
   have hbw:=below_row (HB5.out.trans (hb.mono HB5.out.size)) (b:=bz) (by omega) (.bool Z.neg) (.string (encS Z.num)) (.string (encS Z.den));have HROW:=Lib.hid hrow;have HBW:=Lib.hid hbw;clear hrow hbw hb hfz ca0 ca1 ca2 cd0 cd1 cd2;go_wp2_with fail;refine bodyPost_ret (rC1 HROW.out) rfl ?_;exact ⟨rfl,HBW.out⟩
  ·have hq:=HQ3.out hle;obtain ⟨L,hL⟩:∃L,low yn (Y-X) D=L:=⟨_,rfl⟩;have HL1:=Lib.hid (HLQ.out yn (Y-X) ZX.out.2.2);rw [hL] at hq HL1;subst hq;clear hL;rw [cmpI_lt (by omega)];rw [decide_eq_true (show X≤Y by omega)] at HU2;clear hle;go_wp2_with fail;refine (HU2.out _).mono ?_;rintro e w8 ⟨rfl,hb⟩;have HXA:=uH hb HXA;have HXB:=uH hb HXB;have HXZ:=uH hb HXZ;have HB5:=Lib.hid (HB5.out.trans (hb.mono HB5.out.size));clear hb ca0 ca1 ca2 cd0 cd1 cd2;obtain ⟨⟨ca0,ca1,ca2⟩,-⟩:=rwC HXA.out;obtain ⟨⟨cd0,cd1,cd2⟩,-⟩:=rwC HXB.out;go_wp2_with fail;refine (HL1.out _).mono ?_;rintro e w5 ⟨rfl,hb⟩;unfold rtV;obtain ⟨⟨cz0,cz1,cz2⟩,hfz⟩:=rwC (hpU hb HXZ.out);have fz0:=hfz 0;have fz1:=hfz 1;have fz2:=hfz 2;have hrow:=row_set (hpU hb HXZ.out) (.bool Z.neg) (.string (encS Z.num)) (.string (encS Z.den))
   have hbw:=below_row (HB5.out.trans (hb.mono HB5.out.size)) (b:=bz) (by omega) (.bool Z.neg) (.string (encS Z.num)) (.string (encS Z.den));have HROW:=Lib.hid hrow;have HBW:=Lib.hid hbw;clear hrow hbw hb hfz ca0 ca1 ca2 cd0 cd1 cd2;go_wp2_with fail;refine bodyPost_ret (rC1 HROW.out) rfl ?_;exact ⟨rfl,HBW.out⟩
theorem tmod_lt0 {a m:Int} (hm:0<m) (h:a.tmod m<0):a.tmod m+m=a%m:=by
 have h1:=Int.tmod_add_mul_tdiv a m;have h2:=Int.emod_add_mul_ediv a m;have h3:=Int.emod_nonneg a (show m≠0 by omega);have h4:=Int.emod_lt_of_pos a hm;have h5:=Int.tmod_lt_of_pos a hm;have h6: -m<a.tmod m:=by
  have:=Int.lt_tmod_of_pos a hm;omega
 have h7:m*(a.tdiv m-a/m)=a%m-a.tmod m:=by rw [Int.mul_sub];omega
 have h8:a.tdiv m-a/m=1:=by
  rcases Int.lt_trichotomy (a.tdiv m-a/m) 1 with h|h|h
  ·have:m*(a.tdiv m-a/m)≤m*0:=Int.mul_le_mul_of_nonneg_left (by omega) (by omega);omega
  ·exact h
  ·have:m*2≤m*(a.tdiv m-a/m):=Int.mul_le_mul_of_nonneg_left (by omega) (by omega);omega
 rw [h8] at h7;omega
theorem tmod_ge0 {a m:Int} (hm:0<m) (h:¬a.tmod m<0):a.tmod m=a%m:=by
 have h1:=Int.tmod_add_mul_tdiv a m;have h2:=Int.emod_add_mul_ediv a m;have h3:=Int.emod_nonneg a (show m≠0 by omega);have h4:=Int.emod_lt_of_pos a hm;have h5:=Int.tmod_lt_of_pos a hm;have h7:m*(a.tdiv m-a/m)=a%m-a.tmod m:=by rw [Int.mul_sub];omega
 have h8:a.tdiv m-a/m=0:=by
  rcases Int.lt_trichotomy (a.tdiv m-a/m) 0 with h|h|h
  ·have:m*(a.tdiv m-a/m)≤m*(-1):=Int.mul_le_mul_of_nonneg_left (by omega) (by omega);omega
  ·exact h
  ·have:m*1≤m*(a.tdiv m-a/m):=Int.mul_le_mul_of_nonneg_left (by omega) (by omega);omega
 rw [h8] at h7;omega
theorem Mod_any (a m:Int) (w:World) (ha: -9223372036854775808≤a) (ha2:a≤9223372036854775807) (hm:0<m) (hm2:m≤4611686018427387904) :
  Calls Tryz.prog 18 #[.int .i64 a,.int .i64 m] w fun e w' =>∃r:Nat,e=.returned (.int .i64 (r:Int))∧(r:Int)=a%m∧(r:Int)<m∧w=w' :=by
 obtain ⟨t,ht⟩:∃t,a.tmod m=t:=⟨_,rfl⟩;have h5:=Int.tmod_lt_of_pos a hm;have h6:=Int.lt_tmod_of_pos a hm;have h4:=Int.emod_lt_of_pos a hm;have h3:=Int.emod_nonneg a (show m≠0 by omega);rw [ht] at h5 h6;obtain ⟨r,hr⟩:∃r:Nat,a%m=(r:Int):=⟨(a%m).toNat,by omega⟩;have q0:¬m=0:=by omega
 have q1:IntKind.i64.wrap t=t:=IntWalk.i64_in _ (by omega)
 by_cases h:t<0
 ·have hq:=tmod_lt0 hm (by rw [ht];exact h);rw [ht,hr] at hq;have q2:IntKind.i64.wrap (t+m)=(r:Int):=by rw [hq];exact IntWalk.i64_in _ (by omega)
  have HR:Hid ((r:Int)=a%m∧(r:Int)<m):=hD ⟨hr.symm,by omega⟩;clear h3 h4 h5 h6 hr ha ha2;go_enter Tryz.func18,Tryz.ntmps18;go_wp2_with fail;go_ret;exact ⟨r,by first|rfl|(simp [hq]),HR.out.1,HR.out.2,rfl⟩
 ·have hq:=tmod_ge0 hm (by rw [ht];exact h);rw [ht,hr] at hq;have HR:Hid ((r:Int)=a%m∧(r:Int)<m):=hD ⟨hr.symm,by omega⟩;clear h3 h4 h5 h6 hr ha ha2;go_enter Tryz.func18,Tryz.ntmps18;go_wp2_with fail;go_ret;exact ⟨r,by first|rfl|(simp [hq]),HR.out.1,HR.out.2,rfl⟩
end Go.Proofs.YtblgfmjlajhipaaGreatDoor
namespace Go.Proofs.YtblgfmjlajhipaaGreatDoor
open Go.ChangeShapes Go.WideShapes Go.ChangeAt Go.RowKit
section
variable {H:Type} {enc:TypeId × Value→H} {P:Program}
theorem post_of_below {f:Func} {s:ChangeSpec} {apart fresh handsOn again:Bool} {W W' :World} {args:Array Value} {v:Value} {ds gs:List (DataW H)} {before pa pv:List MemPlace}
  (hW:DataW.Whole enc P f.params.toList s.vars apart W args.toList ds gs before)
  (hres:∀(b:Nat) (sp:Nat→Bool) (hd:Bool),DataW.TrodAll enc P W' b sp hd f.resultTypes.toList (v.resultList f.resultTypes.size) (s.fn H (ds++gs)).results [])
  (hargs:∀sp:Nat→Bool,(∀p ∈ before,sp p.block=true)→DataW.TrodAll enc P W' 0 sp true f.params.toList args.toList (s.fn H (ds++gs)).args pa)
  (hvars:∀sp:Nat→Bool,(∀p ∈ before,sp p.block=true)→DataW.TrodVars enc P W' sp s.vars (s.fn H (ds++gs)).vars pv)
  (hps:before=pa++pv) (hb:Below W.heap.size W W')
  (hok:∀(j:Nat) (t:TypeId) (r:Value),f.resultTypes[j]? =some t→(v.resultList f.resultTypes.size)[j]? =some r→Value.okWide P W' .any 0 t r) :
  s.post enc P f apart fresh handsOn again W args v W' :=by
 have hlt:∀p ∈ before,p.block<W.heap.size:=fun p hp=>hW.lt p hp
 have hold:∀p ∈ before,(fun b=>decide (b<W.heap.size)) p.block=true:=fun p hp=>by simpa using hlt p hp
 refine ⟨ds,gs,before,[],pa,pv,hW,hres _ _ _,hargs _ hold,hvars _ hold,World.keptBut_mono (fun p hp=>⟨hp,?_⟩) (hb.frame (· ∈ before)),fun _=> ?_⟩
 ·rw [hps,List.mem_append] at hp
  exact Or.inr hp
 ·obtain ⟨_,_,_,_,_,hz,hn⟩:=hW
  refine ⟨hok,_,_,([]++pa)++pv,⟨[]++pa,pv,trodAll_append (hargs _ (fun _ _=>rfl)) (hres _ _ _),hvars _ (fun _ _=>rfl),rfl,?_,?_⟩,?_⟩
  ·intro b off hp
   have hin:MemPlace.cell b off ∈ before:=by rw [hps];simpa using hp
   rw [hb.frozen (hlt _ hin)]
   exact hz b off hin
  ·intro ha
   have:=hn ha
   rw [hps] at this
   simpa using this
  ·intro p hp _
   rw [hps]
   simpa using hp
end
end Go.Proofs.YtblgfmjlajhipaaGreatDoor
namespace Go.Proofs.YtblgfmjlajhipaaGreatDoor
open Go.RowKit Go.Shelf
open Dgt
theorem flat_len {n:Nat}:∀{l:List (List Value)},(∀r ∈ l,r.length=n)→l.flatten.length=l.length*n
 | [],_=>by simp
 | r::t,hn=>by
  rw [List.flatten_cons,List.length_append,hn r (by simp),flat_len (fun r hr=>hn r (by simp [hr])),List.length_cons,Nat.add_mul];omega
theorem LstC.cut {n:Nat} {W:World} {p:Option Addr} {len cap:Nat} {l:List (List Value)} (h:LstC n W (.slice p len cap) l) (m:Nat) (hm:m≤l.length):LstC n W (.slice p m cap) (l.take m):=by
 obtain ⟨p',cap',h1,h2,h3,h4⟩:=h;simp only [Value.slice.injEq] at h1;obtain ⟨rfl,rfl,rfl⟩:=h1;have hl:(l.take m).length=m:=by rw [List.length_take];omega
 refine ⟨p,cap,by rw [hl],by omega,by omega,fun i hi=> ?_⟩;obtain ⟨g,off,k1,k2,k3⟩:=h4 i (by omega);exact ⟨g,off,k1,k2,fun j u hu=>k3 j u (by rw [List.getElem_take] at hu;exact hu)⟩
end Go.Proofs.YtblgfmjlajhipaaGreatDoor
namespace Go.Proofs.YtblgfmjlajhipaaGreatDoor
open Go.RowKit Go.Shelf
def CutC (c m:Nat) (W:World) (v:Value) (n:Nat) (l:List (List Value)):Prop :=
 ∃p cap,v=.slice p n cap∧n≤cap∧n≤9223372036854775807∧l.length=min n m∧∀i (h:i<l.length),∃g off,p=some ⟨g,off,none⟩∧g<W.heap.size∧∀j u,l[i][j]? =some u→W.cell? ⟨g,off+i*c+j,none⟩=some u
theorem CutC.cut {c m:Nat} {W:World} {p:Option Addr} {n cap:Nat} {l:List (List Value)} (h:CutC c m W (.slice p n cap) n l) (hm:m≤1000):LstC c W (.slice p l.length cap) l:=by
 obtain ⟨p',cap',h1,h2,h3,h4,h5⟩:=h;simp only [Value.slice.injEq] at h1;obtain ⟨rfl,-,rfl⟩:=h1;exact ⟨p,cap,rfl,by omega,by omega,h5⟩
theorem CutC.up {c m:Nat} {A W:World} {v:Value} {n:Nat} {l:List (List Value)} (h:CutC c m A v n l) (hb:Below A.heap.size A W):CutC c m W v n l:=by
 obtain ⟨p,cap,h1,h2,h3,h4,h5⟩:=h;refine ⟨p,cap,h1,h2,h3,h4,fun i hi=> ?_⟩;obtain ⟨g,off,k1,k2,k3⟩:=h5 i hi;exact ⟨g,off,k1,Nat.lt_of_lt_of_le k2 hb.size,fun j u hu=>by rw [clU hb k2];exact k3 j u hu⟩
end Go.Proofs.YtblgfmjlajhipaaGreatDoor
namespace Go.Proofs.YtblgfmjlajhipaaGreatDoor
open Go.RowKit Go.Shelf
open Dgt
section
variable {n:List DR} {fr to:Int}
theorem ref_q (h:Gr n):∀k,(refK n fr to k).Ok∧(refK n fr to k).q=sumF (termQ n fr to) k
 | 0=>⟨ofR_ok 0,by rw [sumF_0];show (ofR 0).q=0;rw [q_of];rfl⟩
 | k+1=>by
  obtain ⟨h1,h2⟩:=ref_q h k;rw [sumF_s, ←h2];clear h2;rw [refK_s];unfold termQ
  split
  ·have hm:=mulR_ok (rtAt_ok h k).1 (ofR_ok (dayAt n fr to k));refine ⟨addR_ok h1 hm,?_⟩;rw [q_add h1 hm,q_mul (rtAt_ok h k).1 (ofR_ok _),q_of]
  ·exact ⟨h1,by grind⟩
theorem over_ref (h:Gr n):refK n fr to n.length=overT n fr to:=q_inj (ref_q h _).1 (piece_q h _).1 (by unfold overT;rw [(ref_q h _).2,(piece_q h _).2])
end
theorem cells4_one (b:Dk):∀u ∈ b.cells,u.oneCell' =true:=by intro u hu;simp [Dk.cells] at hu;rcases hu with rfl|rfl|rfl|rfl<;>rfl
theorem toBelow {P:Program} {f:FuncId} {args:Array Value} {w:World} {v:Value} (h:Calls P f args w fun e w' =>e=.returned v∧w=w'):Calls P f args w fun e w' =>e=.returned v∧Below w.heap.size w w' :=
 h.mono fun e w' ⟨h1,h2⟩=>⟨h1,by subst h2;exact Below.refl _ _⟩
set_option maxRecDepth 100000 in
theorem rFits_any (r:Rw) (zs:r.n.size≤9000000) (zd:r.d.size≤9000000) (wq:World) :
  Gv 82 #[.agg #[.bool r.neg,.string r.n,.string r.d]] wq (.bool (fitsR r)):=by
 unfold Gv;obtain ⟨R,hR⟩:∃xq,r.right=xq:=⟨_,rfl⟩;have HR:=hD hR;clear hR;obtain ⟨x,hx⟩:∃x,bitsN (numS r.n)=x:=⟨_,rfl⟩;obtain ⟨y,hy⟩:∃x,bitsN (numS r.d)=x:=⟨_,rfl⟩;obtain ⟨P,hP⟩:∃xq,decide ((x:Int)≤400)=xq:=⟨_,rfl⟩;have HP:=hD hP;clear hP;obtain ⟨Q,hQ⟩:∃xq,decide ((y:Int)≤400)=xq:=⟨_,rfl⟩;have HQ:=hD hQ;clear hQ;have HF:Hid (fitsR r=(R&&P&&Q)):=hD (by unfold fitsR;rw [HR.out,hx,hy, ←HP.out, ←HQ.out];congr 1;congr 1;exact decide_eq_decide.2 (by omega);exact decide_eq_decide.2 (by omega));have C1:Hid (∀w,Gv 85 #[.agg #[.bool r.neg,.string r.n,.string r.d]] w (.bool R)):=hD fun w=>by
  have h:=rRatRight_any r.neg r.n r.d w zs zd;rw [show rightR r.neg r.n r.d=R from HR.out] at h;exact h
 have C2:Hid (∀w,Gv 112 #[.string r.n] w (.int .i64 (x:Int))):=hD fun w=>by
  have h:=toBelow (rBits_any r.n w (by omega));rw [hx] at h;exact h
 have C3:Hid (∀w,Gv 112 #[.string r.d] w (.int .i64 (y:Int))):=hD fun w=>by
  have h:=toBelow (rBits_any r.d w (by omega));rw [hy] at h;exact h
 rw [HF.out];clear HF hx hy HR zs zd;have HB:=hD (Below.refl wq.heap.size wq);obtain ⟨n0,hn0⟩:∃n,n=wq.heap.size:=⟨_,rfl⟩;rw [←hn0];have HN0:=hD hn0;clear hn0;go_enter Tryz.func82,Tryz.ntmps82;obtain ⟨W1,bk1,hW1,hbk1,HX1_1,HB,HG1_1,hup⟩:=boxn HB HN0 (.cells #[.bool r.neg,.string r.n,.string r.d] 29);clear hup;obtain ⟨k2a,k2b,k2c⟩:=c3 HX1_1;go_wp2_with fail;clear hW1 hbk1 k2a k2b k2c;refine (C1.out _).mono ?_;rintro e w2 ⟨rfl,hb⟩;have HX1_1:=uH hb HX1_1;have HB:=mH HB hb;clear hb;cases R
 case false =>
  go_wp2_with fail;go_ret;exact ⟨rfl,by rw [HN0.out];exact HB.out⟩
 case true =>
  have q3:=HP.out;have k4:w2.cell? ⟨bk1,1,none⟩=some (.string r.n):=by rw [Lib.cell_of_heap HX1_1.out];rfl
  go_wp2_with fail;clear q3 k4;refine (C2.out _).mono ?_;rintro e w3 ⟨rfl,hb⟩;have HX1_1:=uH hb HX1_1;have HB:=mH HB hb;clear hb;cases P
  case false =>
   have q5:=HP.out;go_wp2_with fail;clear q5;go_ret;exact ⟨rfl,by rw [HN0.out];exact HB.out⟩
  case true =>
   have q6:=HP.out;have k7:w3.cell? ⟨bk1,2,none⟩=some (.string r.d):=by rw [Lib.cell_of_heap HX1_1.out];rfl
   go_wp2_with fail;clear q6 k7;refine (C3.out _).mono ?_;rintro e w4 ⟨rfl,hb⟩;have HX1_1:=uH hb HX1_1;have HB:=mH HB hb;clear hb;have q8:=HQ.out;go_wp2_with fail;clear q8;go_ret;exact ⟨rfl,by rw [HN0.out];exact HB.out⟩
end Go.Proofs.YtblgfmjlajhipaaGreatDoor
