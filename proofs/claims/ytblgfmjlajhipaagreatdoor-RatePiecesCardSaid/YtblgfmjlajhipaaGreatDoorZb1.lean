/- Contracts that the proofs of this seat share. Each theorem names its conditions. -/
import Derived.Lib.IndexBytes
import Derived.Test.YtblgfmjlajhipaaGreatDoorZa5
set_option maxHeartbeats 16000000
set_option linter.unusedVariables false
namespace Go.Proofs.YtblgfmjlajhipaaGreatDoor
open Go.RowKit Go.Shelf
open Dgt
theorem revB_extract (a:ByteArray) (k:Nat):revB (a.extract k a.size)=((a.data.toList.drop k).map UInt8.toNat).reverse:=by
 unfold revB;rw [Lib.extract_to_end]
theorem numS_step (a:ByteArray) {k:Nat} (h:k<a.size) (h0:a[k].toNat=0):numS (a.extract (k+1) a.size)=numS (a.extract k a.size):=by
 unfold numS;have hk:k<a.data.toList.length:=by simpa using h
 rw [revB_extract,revB_extract,List.drop_eq_getElem_cons hk,List.map_cons,List.reverse_cons,valB_snoc];have:(a.data.toList[k]).toNat=0:=h0;rw [this,Nat.mul_zero];rfl
theorem extract_zero (a:ByteArray):a.extract 0 a.size=a:=by
 apply ext_revB
 rw [revB_extract,List.drop_zero];rfl
theorem extract_size (a:ByteArray) (k:Nat) (h:k≤a.size):(a.extract k a.size).size=a.size-k:=by
 rw [←revB_len,revB_extract];simp
theorem canon_end (a:ByteArray) {k:Nat} (hk:k≤a.size) (h:∀h' :k<a.size,a[k].toNat≠0):encS (numS (a.extract k a.size))=a.extract k a.size:=by
 have hr:rightN (a.extract k a.size)=true:=by
  by_cases hlt:k<a.size
  ·have hp:0<(a.extract k a.size).size:=by rw [extract_size a k hk];omega
   rw [rightN_cons hp];have:(a.extract k a.size)[0].toNat=a[k].toNat:=by
    have e:=Lib.extract_to_end a k;have hk' :k<a.data.toList.length:=by simpa using hlt
    rw [List.drop_eq_getElem_cons hk'] at e;have e0:(a.extract k a.size).data.toList[0]? =some (a.data.toList[k]):=by rw [e];rfl
    have e1:(a.extract k a.size).data.toList[0]? =some ((a.extract k a.size)[0]):=by
     have:0<(a.extract k a.size).data.toList.length:=by simpa using hp
     rw [List.getElem?_eq_getElem this];rfl
    rw [e1] at e0;have:=Option.some.inj e0;rw [this];rfl
   rw [this];simp [h hlt]
  ·have hz:(a.extract k a.size).size=0:=by rw [extract_size a k hk];omega
   have e:a.extract k a.size=⟨#[]⟩:=by
    have h1:(a.extract k a.size).data=#[]:=Array.eq_empty_of_size_eq_zero hz
    generalize a.extract k a.size=c at h1 ⊢
    cases c;simp only at h1;rw [h1]
   rw [e];exact rightN_nil
 simpa [rightN] using hr
theorem Canon_any (a:ByteArray) (w:World) (ha:a.size≤100000000) :
  Calls Tryz.prog 88 #[.string a] w fun e w' =>e=.returned (.string (encS (numS a)))∧w=w' :=by
 have ha' :(a.size:Int)≤100000000:=by omega
 clear ha;go_enter Tryz.func88,Tryz.ntmps88;go_wp2_with fail
 go_loop [3] (fun i=>∃k:Nat,k≤a.size∧i=.int .i64 (k:Int)∧Hid (numS (a.extract k a.size)=numS a)) (fun i=>a.size-(intOf i).toNat)
 case atStart=>exact ⟨0,Nat.zero_le _,rfl,hD (by rw [extract_zero])⟩
 case round =>
  obtain ⟨k,hk,rfl,HN⟩:=hrel
  by_cases hlt:k<a.size
  ·have hlt' :(k:Int)<(a.size:Int):=by omega
   obtain ⟨x,hx⟩:∃x,a[k].toNat=x:=⟨_,rfl⟩;have HX:=hD hx
   by_cases h0:x=0
   ·subst h0;have HS:=hD ((numS_step a hlt hx).trans HN.out);go_wp2_with fail
    go_round
    case rel=>exact ⟨k+1,by omega,by go_num,HS⟩
    case measure=>simp [intOf];omega
   ·have hx1:¬(x:Int)=0:=by omega
    have hx2:((x:Int)==0)=false:=by simpa using hx1
    have HE:=hD (canon_end a hk (fun _=>by rw [hx];exact h0));clear h0;go_wp2_with fail;go_ret;exact ⟨by rw [←HN.out,HE.out];rfl,rfl⟩
  ·have hge:¬(k:Int)<(a.size:Int):=by omega
   have HE:=hD (canon_end a hk (fun h' =>absurd h' hlt));clear hlt;go_wp2_with fail;go_ret;exact ⟨by rw [←HN.out,HE.out];rfl,rfl⟩
end Go.Proofs.YtblgfmjlajhipaaGreatDoor
namespace Go.Proofs.YtblgfmjlajhipaaGreatDoor
open Go.RowKit Go.Shelf
open Dgt
theorem byte_at (m:Nat) {k:Nat} (h:k<(encS m).size):(encS m)[k].toNat=m/256^((encS m).size-1-k)%256:=by
 have hs:=encS_size m;have hr:=revB_encS m;have e:=revB_get (encS m) (k:=(encS m).size-1-k) (by omega);have hi:(encS m).size-1-k<(digs 256 m).length:=by omega
 have g:=get_of_val (okB_digs (B:=256) (by decide) m) hi;rw [valB_digs (by decide)] at g;rw [g];have e2:(encS m).size-1-((encS m).size-1-k)=k:=by omega
 simp only [e2] at e;rw [←e];simp only [hr]
theorem pre_step (m s:Nat) {k:Nat} (h:k<s):m/256^(s-(k+1))=m/256^(s-k)*256+m/256^(s-1-k)%256:=by
 rw [show s-(k+1)=s-1-k by omega,show s-k=(s-1-k)+1 by omega,Nat.pow_succ, ←Nat.div_div_eq_div_mul];omega
theorem size_big {m:Nat} (h:8<(encS m).size):9223372036854775808≤m:=by
 have hs:=encS_size m;have h0:0<m:=by
  rcases Nat.eq_zero_or_pos m with rfl|h0
  ·rw [encS_size,digs_zero] at h;simp at h
  ·exact h0
 have h1:=digs_ge (B:=256) (by decide) h0;have h2:256^8≤256^((digs 256 m).length-1):=Nat.pow_le_pow_right (by decide) (by omega);exact Nat.le_trans (show 9223372036854775808≤256^8 by decide) (Nat.le_trans h2 h1)
theorem size_eight {m:Nat} (h:(encS m).size=8):(m<9223372036854775808↔(encS m)[0].toNat≤127):=by
 have h1:=byte_at m (k:=0) (by omega);have hl:=digs_lt (B:=256) (by decide) m;rw [←encS_size,h] at hl;rw [h1,h];have e:(256:Nat)^(8-1-0)=72057594037927936:=by decide
 have e8:(256:Nat)^8=18446744073709551616:=by decide
 rw [e8] at hl;rw [e];omega
theorem size_less {m:Nat} (h:(encS m).size<8):m<9223372036854775808:=by
 have hl:=digs_lt (B:=256) (by decide) m;have h2:256^(digs 256 m).length≤256^7:=Nat.pow_le_pow_right (by decide) (by rw [←encS_size];omega);exact Nat.lt_of_lt_of_le hl (Nat.le_trans h2 (by decide))
theorem wrap_x {x:Nat} (h:x<256):wrap64 (x:Int)=(x:Int):=by unfold wrap64;omega
theorem encS_len_le (a:ByteArray):(encS (numS a)).size≤a.size:=enc_len _ (numS_lt a)
set_option maxRecDepth 100000 in
theorem rInt_any (a:ByteArray) (w:World) (ha:a.size≤100000000) :
  Calls Tryz.prog 115 #[.string a] w fun e w' =>e=.returned (.tuple #[.int .i64 ((intV (numS a):Nat):Int),.bool (intOk (numS a))])∧w=w' :=by
 have HC:=hD (Canon_any a · ha);have hl:=encS_len_le a;obtain ⟨m,hm⟩:∃m,numS a=m:=⟨_,rfl⟩;rw [hm] at HC hl ⊢;obtain ⟨c,hc⟩:∃c,encS m=c:=⟨_,rfl⟩;have hcs:(c.size:Int)≤100000000:=by rw [←hc];omega
 have HCM:=hD hc;rw [hc] at HC;clear hm hl ha;go_enter Tryz.func115,Tryz.ntmps115;go_wp2_with fail;refine (HC.out _).mono ?_;rintro e w1 ⟨rfl,rfl⟩;clear HC;have HP:=hD (fun k (h:k<c.size)=>pre_step m c.size h);have HBY:=hD (fun k (h:k<(encS m).size)=>byte_at m h)
 by_cases h8:8<c.size
 ·have HE:=hD (int_no (size_big (by rw [hc];exact h8)));have h8' :8<(c.size:Int):=by omega
  clear h8 hc;go_wp2_with fail;go_ret2;exact ⟨by rw [HE.out.1,HE.out.2];rfl,rfl⟩
 ·have h8' :¬8<(c.size:Int):=by omega
  by_cases h88:c.size=8∧∃h:0<c.size,127<c[0].toNat
  ·obtain ⟨h9,hp,ht⟩:=h88;have HE:=hD (int_no (m:=m) (by
    subst hc;have:=size_eight h9;omega))
   obtain ⟨x,hx⟩:∃x,c[0].toNat=x:=⟨_,rfl⟩;have ht' :127<(x:Int):=by omega
   have hbq:((c.size:Int)==8)=true:=by rw [beq_iff_eq];omega
   have hp' :0<(c.size:Int):=by omega
   clear h8 hc h9 ht;go_wp2_with fail;go_ret2;exact ⟨by rw [HE.out.1,HE.out.2];rfl,rfl⟩
  ·have hlt:m<9223372036854775808:=by
    subst hc;rcases (by omega:(encS m).size=8∨(encS m).size<8) with h|h
    ·refine (size_eight h).2 ?_;rcases Nat.lt_or_ge 127 ((encS m)[0]'(by omega)).toNat with h' |h'
     ·exact absurd ⟨h,by omega,h'⟩ h88
     ·exact h'
    ·exact size_less h
   have HE:=hD (int_yes hlt);have HLT:=hD hlt;have HZ:Hid (m/256^(c.size-0)=0):=hD (by
    rw [Nat.sub_zero, ←hc,encS_size];exact Nat.div_eq_of_lt (digs_lt (by decide) m))
   by_cases h9:c.size=8
   ·have hp:0<c.size:=by omega
    obtain ⟨x0,hx0⟩:∃x,c[0].toNat=x:=⟨_,rfl⟩;have ht' :¬127<(x0:Int):=fun h=>h88 ⟨h9,hp,by omega⟩
    have hbq:((c.size:Int)==8)=true:=by rw [beq_iff_eq];omega
    have hp' :0<(c.size:Int):=by omega
    clear h8 hc h9 h88 hlt;go_wp2_with fail
    go_loop [4,5] (fun nv i=>∃k:Nat,k≤c.size∧i=.int .i64 (k:Int)∧nv=.int .i64 ((m/256^(c.size-k):Nat):Int)) (fun _ i=>c.size-(intOf i).toNat)
    case atStart=>exact ⟨0,Nat.zero_le _,rfl,by rw [HZ.out];rfl⟩
    case round =>
     obtain ⟨k,hk,rfl,rfl⟩:=hrel
     by_cases hkl:k<c.size
     ·have hkl' :(k:Int)<(c.size:Int):=by omega
      have hst:=HP.out k hkl;have hby:c[k].toNat=m/256^(c.size-1-k)%256:=by
       have h:=HBY.out k (by rw [HCM.out];exact hkl);simp only [HCM.out] at h;exact h
      rw [←hby] at hst;obtain ⟨x,hx⟩:∃x,c[k].toNat=x:=⟨_,rfl⟩;obtain ⟨p,hp⟩:∃p,m/256^(c.size-k)=p:=⟨_,rfl⟩;obtain ⟨q,hq⟩:∃q,m/256^(c.size-(k+1))=q:=⟨_,rfl⟩;rw [hx,hp,hq] at hst;rw [hp];have hqm:q≤m:=by rw [←hq];exact Nat.div_le_self _ _
      obtain ⟨z,hz⟩:∃z,p*256=z:=⟨_,rfl⟩;have f1:(p:Int)*256=(z:Int):=by omega
      have f2:wrap64 (z:Int)=(z:Int):=by have:=HLT.out;unfold wrap64;omega
      have HXL:Hid (x<256):=hD (by rw [←hx];exact (c[k]).toNat_lt);have f3:(z:Int)+(x:Int)=(q:Int):=by omega
      have f4:wrap64 (q:Int)=(q:Int):=by have:=HLT.out;unfold wrap64;omega
      have HQ:=hD hq;clear hst hby hp hq hz hqm;go_wp2_with fail
      go_round
      case rel=>exact ⟨k+1,by omega,by go_num,by rw [HQ.out, ←f4, ←f3,wrap_x HXL.out]⟩
      case measure=>simp [intOf];omega
     ·have hge:¬(k:Int)<(c.size:Int):=by omega
      obtain rfl:k=c.size:=by omega
      have HF:=hD (show m/256^(c.size-c.size)=m by rw [Nat.sub_self,Nat.pow_zero,Nat.div_one]);obtain ⟨q,hq⟩:∃q,m/256^(c.size-c.size)=q:=⟨_,rfl⟩;rw [hq] at HF ⊢;clear hq;go_wp2_with fail;go_ret2;exact ⟨by rw [HE.out.1,HE.out.2,HF.out];rfl,rfl⟩
   ·have hbq:((c.size:Int)==8)=false:=by rw [beq_eq_false_iff_ne];omega
    have hb2:¬(c.size:Int)=8:=by omega
    clear h8 hc h9 h88 hlt;go_wp2_with fail
    go_loop [4,5] (fun nv i=>∃k:Nat,k≤c.size∧i=.int .i64 (k:Int)∧nv=.int .i64 ((m/256^(c.size-k):Nat):Int)) (fun _ i=>c.size-(intOf i).toNat)
    case atStart=>exact ⟨0,Nat.zero_le _,rfl,by rw [HZ.out];rfl⟩
    case round =>
     obtain ⟨k,hk,rfl,rfl⟩:=hrel
     by_cases hkl:k<c.size
     ·have hkl' :(k:Int)<(c.size:Int):=by omega
      have hst:=HP.out k hkl;have hby:c[k].toNat=m/256^(c.size-1-k)%256:=by
       have h:=HBY.out k (by rw [HCM.out];exact hkl);simp only [HCM.out] at h;exact h
      rw [←hby] at hst;obtain ⟨x,hx⟩:∃x,c[k].toNat=x:=⟨_,rfl⟩;obtain ⟨p,hp⟩:∃p,m/256^(c.size-k)=p:=⟨_,rfl⟩;obtain ⟨q,hq⟩:∃q,m/256^(c.size-(k+1))=q:=⟨_,rfl⟩;rw [hx,hp,hq] at hst;rw [hp];have hqm:q≤m:=by rw [←hq];exact Nat.div_le_self _ _
      obtain ⟨z,hz⟩:∃z,p*256=z:=⟨_,rfl⟩;have f1:(p:Int)*256=(z:Int):=by omega
      have f2:wrap64 (z:Int)=(z:Int):=by have:=HLT.out;unfold wrap64;omega
      have HXL:Hid (x<256):=hD (by rw [←hx];exact (c[k]).toNat_lt);have f3:(z:Int)+(x:Int)=(q:Int):=by omega
      have f4:wrap64 (q:Int)=(q:Int):=by have:=HLT.out;unfold wrap64;omega
      have HQ:=hD hq;clear hst hby hp hq hz hqm;go_wp2_with fail
      go_round
      case rel=>exact ⟨k+1,by omega,by go_num,by rw [HQ.out, ←f4, ←f3,wrap_x HXL.out]⟩
      case measure=>simp [intOf];omega
     ·have hge:¬(k:Int)<(c.size:Int):=by omega
      obtain rfl:k=c.size:=by omega
      have HF:=hD (show m/256^(c.size-c.size)=m by rw [Nat.sub_self,Nat.pow_zero,Nat.div_one]);obtain ⟨q,hq⟩:∃q,m/256^(c.size-c.size)=q:=⟨_,rfl⟩;rw [hq] at HF ⊢;clear hq;go_wp2_with fail;go_ret2;exact ⟨by rw [HE.out.1,HE.out.2,HF.out];rfl,rfl⟩
end Go.Proofs.YtblgfmjlajhipaaGreatDoor
namespace Go.Proofs.YtblgfmjlajhipaaGreatDoor
open Go.RowKit Go.Shelf
open Dgt
def smallB (m b:Nat):Bool:=decide ((encS m).size≤b)
def smallV (m b:Nat):Nat:=if smallB m b=true then m else 0
theorem small_no {m b:Nat} (h:b<(encS m).size):smallB m b=false∧smallV m b=0:=by
 have h1:smallB m b=false:=by simp only [smallB,decide_eq_false_iff_not];omega
 exact ⟨h1,by rw [smallV,h1];rfl⟩
theorem small_yes {m b:Nat} (h:(encS m).size≤b) (hb:b≤7):smallB m b=true∧smallV m b=m∧m<256^b∧m<9223372036854775808:=by
 have h1:smallB m b=true:=by simp only [smallB,decide_eq_true_eq];exact h
 refine ⟨h1,by rw [smallV,if_pos h1],?_,size_less (by omega)⟩;have hl:=digs_lt (B:=256) (by decide) m;rw [←encS_size] at hl;exact Nat.lt_of_lt_of_le hl (Nat.pow_le_pow_right (by decide) h)
theorem small_any (a:ByteArray) (b:Nat) (w:World) (ha:a.size≤100000000) (hb:b≤7) :
  Calls Tryz.prog 89 #[.string a,.int .i64 (b:Int)] w fun e w' =>e=.returned (.tuple #[.int .i64 ((smallV (numS a) b:Nat):Int),.bool (smallB (numS a) b)])∧w=w' :=by
 have HC:=hD (Canon_any a · ha);have HI:=hD (rInt_any a · ha);have hl:=encS_len_le a;obtain ⟨m,hm⟩:∃m,numS a=m:=⟨_,rfl⟩;rw [hm] at HC HI hl ⊢;obtain ⟨c,hc⟩:∃c,encS m=c:=⟨_,rfl⟩;rw [hc] at HC
 by_cases h:c.size≤b
 ·have hy:=small_yes (m:=m) (b:=b) (by rw [hc];exact h) hb;have HE:=hD hy;have HJ:=hD (int_yes hy.2.2.2);have h' :¬(b:Int)<(c.size:Int):=by omega
  clear hm hl ha hc h hy hb;go_enter Tryz.func89,Tryz.ntmps89;go_wp2_with fail;refine (HC.out _).mono ?_;rintro e w1 ⟨rfl,rfl⟩;go_wp2_with fail;refine (HI.out _).mono ?_;rintro e w1 ⟨rfl,rfl⟩;rw [HJ.out.1,HJ.out.2];go_wp2_with fail;go_ret2;exact ⟨by rw [HE.out.1,HE.out.2.1];rfl,rfl⟩
 ·have HE:=hD (small_no (m:=m) (b:=b) (by rw [hc];omega));have h' :(b:Int)<(c.size:Int):=by omega
  clear hm hl ha hc h hb;go_enter Tryz.func89,Tryz.ntmps89;go_wp2_with fail;refine (HC.out _).mono ?_;rintro e w1 ⟨rfl,rfl⟩;go_wp2_with fail;go_ret2;exact ⟨by rw [HE.out.1,HE.out.2];rfl,rfl⟩
theorem rRight_any (a:ByteArray) (w:World) (ha:a.size≤100000000) :
  Calls Tryz.prog 114 #[.string a] w fun e w' =>e=.returned (.bool (rightN a))∧w=w' :=by
 by_cases h0:a.size=0
 ·have e:a=⟨#[]⟩:=by
   have:a.data=#[]:=Array.eq_empty_of_size_eq_zero h0;cases a;simp only at this;rw [this]
  subst e;have HR:=hD rightN_nil;clear h0 ha;go_enter Tryz.func114,Tryz.ntmps114;go_wp2_with fail;go_ret;exact ⟨by rw [HR.out];rfl,rfl⟩
 ·have hp:0<a.size:=by omega
  have HR:=hD (rightN_cons hp);obtain ⟨x,hx⟩:∃x,a[0].toNat=x:=⟨_,rfl⟩;rw [hx] at HR;have hs1:((a.size:Int)==0)=false:=by rw [beq_eq_false_iff_ne];omega
  have hs2:¬(a.size:Int)=0:=by omega
  have hs3:0<(a.size:Int):=by omega
  by_cases hx0:x=0
  ·subst hx0;have hx' :a[0].toNat=0:=hx;have HR2:Hid (rightN a=false):=hD (by rw [HR.out];rfl);clear hx h0;go_enter Tryz.func114,Tryz.ntmps114;go_wp2_with fail;go_ret;exact ⟨by rw [HR2.out];rfl,rfl⟩
  ·have hx1:¬(x:Int)=0:=by omega
   have hx2:((x:Int) != 0)=true:=by simpa using hx1
   have HR2:Hid (rightN a=true):=hD (by rw [HR.out];simp [hx0]);clear h0 hx0;go_enter Tryz.func114,Tryz.ntmps114;go_wp2_with fail;go_ret;exact ⟨by rw [HR2.out];rfl,rfl⟩
end Go.Proofs.YtblgfmjlajhipaaGreatDoor
namespace Go.Proofs.YtblgfmjlajhipaaGreatDoor
open Go.RowKit Go.Shelf
open Dgt
def LimR (W:World) (v:Value) (l:List Nat):Prop :=
 okB 16777216 l∧l.length≤1000000000∧∃p cap,v=.slice p l.length cap∧l.length≤cap∧∀i (h:i<l.length),∃g off,p=some ⟨g,off,none⟩∧g<W.heap.size∧W.cell? ⟨g,off+i,none⟩=some (.int .i64 (l[i]:Int))
theorem LimR.up {A W:World} {v:Value} {l:List Nat} (h:LimR A v l) (hb:Below A.heap.size A W):LimR W v l:=by
 obtain ⟨ho,h0,p,cap,h1,h2,h4⟩:=h;refine ⟨ho,h0,p,cap,h1,h2,fun i hi=> ?_⟩;obtain ⟨g,off,e1,e2,e3⟩:=h4 i hi;exact ⟨g,off,e1,Nat.lt_of_lt_of_le e2 hb.size,by rw [clU hb e2];exact e3⟩
theorem LimR.nil_ (W:World):LimR W (.slice none 0 0) []:=⟨okB_nil _,by simp,none,0,rfl,Nat.le_refl _,fun i h=>absurd h (by simp)⟩
theorem LimR.take {W:World} {p:Option Addr} {n cap:Nat} {l:List Nat} (h:LimR W (.slice p n cap) l) {k:Nat} (hk:k≤n):LimR W (.slice p k cap) (l.take k):=by
 obtain ⟨ho,h0,p',cap',e,h1,h3⟩:=h
 injection e with e1 e2 e3
 subst e1;subst e2;subst e3;have hl:(l.take k).length=k:=by rw [List.length_take,Nat.min_eq_left hk]
 refine ⟨ho.take k,by omega,p,cap,by rw [hl],by omega,fun i hi=> ?_⟩;rw [hl] at hi;obtain ⟨g,off,a,b,c⟩:=h3 i (by omega);exact ⟨g,off,a,b,by rw [List.getElem_take];exact c⟩
theorem LimR.len {W:World} {p:Option Addr} {n cap:Nat} {l:List Nat} (h:LimR W (.slice p n cap) l):n=l.length∧n≤cap∧n≤1000000000:=by
 obtain ⟨ho,h0,p',cap',e,h1,h2⟩:=h
 injection e with e1 e2 e3
 subst e2;subst e3;exact ⟨rfl,h1,h0⟩
theorem LimR.open_ {W:World} {v:Value} {l:List Nat} (h:LimR W v l):∃p n cap,v=.slice p n cap∧n=l.length∧n≤cap∧n≤1000000000:=by
 obtain ⟨ho,h0,p',cap',e,h1,h2⟩:=h;exact ⟨_,_,_,e,rfl,h1,h0⟩
theorem LimR.cell {W:World} {p:Option Addr} {n cap:Nat} {l:List Nat} (h:LimR W (.slice p n cap) l) {i:Nat} (hi:i<l.length):∃g off,p=some ⟨g,off,none⟩∧g<W.heap.size∧W.cell? ⟨g,off+i,none⟩=some (.int .i64 (l[i]:Int)):=by
 obtain ⟨ho,h0,p',cap',e,h1,h3⟩:=h
 injection e with e1 e2 e3
 subst e1;exact h3 i hi
theorem LimR.ok {W:World} {v:Value} {l:List Nat} (h:LimR W v l):okB 16777216 l:=h.1
theorem LimR.block {W:World} {g cap:Nat} {t:TypeId} {l:List Nat} (ho:okB 16777216 l) {cs:Array Value} (hb:W.heap[g]? =some (.cells cs t (0,0))) (hc:∀i (h:i<l.length),cs[i]? =some (.int .i64 (l[i]:Int))) (h1:l.length≤cap) (h2:l.length≤1000000000):LimR W (.slice (some ⟨g,0,none⟩) l.length cap) l :=
 ⟨ho,h2,_,cap,rfl,h1,fun i hi=>⟨g,0,rfl,(Array.getElem?_eq_some_iff.1 hb).1,by rw [Lib.cell_of_heap hb,Nat.zero_add];exact hc i hi⟩⟩
def digC (kd:IntKind) (l:List Nat):List Value:=l.map fun x:Nat=>Value.int kd (x:Int)
theorem LimR.own {W:World} {base:Nat} {e:TypeId} {v:Value} {l:List Nat} (h:W.ownsRow base e 1 v l.length (digC .i64 l)) (ho:okB 16777216 l) (hl:l.length≤1000000000):LimR W v l:=by
 rcases h.2 with ⟨rfl,h0⟩|⟨g,cap,cur,rfl,hg,hgh,hnc,hcm,hcs,hct⟩
 ·have:l=[]:=List.eq_nil_of_length_eq_zero h0;subst this;exact LimR.nil_ W
 ·refine LimR.block ho hgh (fun i hi=> ?_) hnc hl;have hx:(digC .i64 l)[i]? =some (.int .i64 (l[i]:Int)):=by simp [digC,hi]
  rw [←hct,List.getElem?_take] at hx
  split at hx
  ·rw [←Array.getElem?_toList];exact hx
  ·cases hx
theorem rtrim_at (p:Option Addr) (n cap:Nat) (l:List Nat) (w:World) (hl:LimR w (.slice p n cap) l) :
  Calls Tryz.prog 116 #[.slice p n cap] w fun e w' =>∃k,e=.returned (.slice p k cap)∧LimR w' (.slice p k cap) (trimL 16777216 l)∧w=w' :=by
 obtain ⟨hn,hc,hcm⟩:=hl.len;have HL:=hD hl;have HN:=hD hn;clear hl hn;go_enter Tryz.func116,Tryz.ntmps116;go_wp2_with fail
 go_loop [0] (fun s=>∃k:Nat,k≤n∧s=.slice p k cap∧Hid (trimL 16777216 (l.take k)=trimL 16777216 l)) (fun s=>slen s)
 case atStart=>exact ⟨n,Nat.le_refl _,rfl,hD (by rw [HN.out,List.take_length])⟩
 case round =>
  obtain ⟨k,hk,rfl,HT⟩:=hrel;rcases k with _|j
  ·go_wp2_with fail;go_ret;exact ⟨_,rfl,by rw [←HT.out,List.take_zero,trimL_self (by decide) (okB_nil _) nzL_nil];exact HL.out.take hk,rfl⟩
  ·have hj:j<l.length:=by have:=HN.out;omega
   obtain ⟨g,off,hp,hg,h1⟩:=HL.out.cell hj;have HO:=hD (HL.out.ok.get hj);obtain ⟨x,hx⟩:∃x,l[j]=x:=⟨_,rfl⟩;rw [hx] at h1 HO;subst hp;have HX:=hD hx;clear hx;have hj2:(j:Int)≤1000000000:=by omega
   by_cases h0:x=0
   ·subst h0;have HS:Hid (trimL 16777216 (l.take j)=trimL 16777216 l):=hD (by
     rw [←HT.out,List.take_succ_eq_append_getElem hj,HX.out,trimL_zero])
    go_wp2_with fail
    go_round
    case rel=>exact ⟨j,by omega,rfl,HS⟩
    case measure=>simp [slen]
   ·have HS:Hid (trimL 16777216 l=l.take (j+1)):=hD (by
     rw [←HT.out];refine trimL_self (by decide) (HL.out.ok.take _) fun hne=> ?_
     have e:l.take (j+1)=l.take j++[x]:=by rw [List.take_succ_eq_append_getElem hj,HX.out]
     simp only [e,List.getLast_append,List.isEmpty_cons];simpa using h0)
    have hx0:¬((x:Int)=0):=by omega
    go_wp2_with fail;go_ret;exact ⟨_,rfl,by rw [HS.out];exact HL.out.take hk,rfl⟩
theorem rtrim_any (v:Value) (l:List Nat) (w:World) (hl:LimR w v l) :
  Calls Tryz.prog 116 #[v] w fun e w' =>∃v',e=.returned v' ∧LimR w' v' (trimL 16777216 l)∧w=w' :=by
 obtain ⟨p,n,cap,rfl,hn,hc,hcm⟩:=hl.open_;exact (rtrim_at p n cap l w hl).mono fun e w' ⟨k,h1,h2,h3⟩=>⟨_,h1,h2,h3⟩
end Go.Proofs.YtblgfmjlajhipaaGreatDoor
namespace Go.Proofs.YtblgfmjlajhipaaGreatDoor
open Go.RowKit Go.Shelf
open Dgt
end Go.Proofs.YtblgfmjlajhipaaGreatDoor
namespace Go.Proofs.YtblgfmjlajhipaaGreatDoor
open Go.RowKit Go.Shelf
open Dgt
def valR (l:List UInt8):Nat:=valB 256 (l.map UInt8.toNat).reverse
theorem valR_cons (x:UInt8) (l:List UInt8):valR (x::l)=valR l+256^l.length*x.toNat:=by
 unfold valR;rw [List.map_cons,List.reverse_cons,valB_snoc];simp
theorem valR_lt (l:List UInt8):valR l<256^l.length:=by
 have:okB 256 (l.map UInt8.toNat).reverse:=fun x hx=>by
  obtain ⟨y,_,rfl⟩:=List.mem_map.1 (List.mem_reverse.1 hx);exact y.toNat_lt
 simpa [valR] using valB_lt this
theorem bytesLess_val:∀(a b:List UInt8),a.length=b.length→Op.bytesLess a b=decide (valR a<valR b)
 | [],[],_=>by simp [Op.bytesLess]
 | [],_::_,h=>by simp at h
 | _::_,[],h=>by simp at h
 | x::a,y::b,h=>by
  have hl:a.length=b.length:=by simpa using h
  rw [Op.bytesLess,bytesLess_val a b hl,valR_cons,valR_cons];have h1:=valR_lt a;have h2:=valR_lt b;rw [hl] at h1 ⊢;obtain ⟨P,hP⟩:∃P,256^b.length=P:=⟨_,rfl⟩;rw [hP] at h1 h2 ⊢;rcases Nat.lt_trichotomy x.toNat y.toNat with hxy|hxy|hxy
  ·have hx:x<y:=hxy;have hm:P*(x.toNat+1)≤P*y.toNat:=Nat.mul_le_mul_left _ hxy;rw [Nat.mul_add,Nat.mul_one] at hm;have:valR a+P*x.toNat<valR b+P*y.toNat:=by omega
   simp [hx,this]
  ·have hx:x=y:=UInt8.toNat_inj.1 hxy;subst hx;have hn:¬x<x:=by simp
   simp [hn]
  ·have hx:¬x<y:=fun hh=>by have:x.toNat<y.toNat:=hh;omega
   have hne:(x==y)=false:=by
    rw [beq_eq_false_iff_ne];rintro rfl;omega
   have hm:P*(y.toNat+1)≤P*x.toNat:=Nat.mul_le_mul_left _ hxy;rw [Nat.mul_add,Nat.mul_one] at hm;have:¬valR a+P*x.toNat<valR b+P*y.toNat:=by omega
   simp [hx,hne,this]
theorem toList_enc (m:Nat):(encS m).toList=encL m:=by rw [ByteArray.toList_eq];rfl
theorem valR_encL (m:Nat):valR (encL m)=m:=numS_encS m
theorem less_enc {m n:Nat} (h:(encS m).size=(encS n).size):Op.bytesLess (encS m).toList (encS n).toList=decide (m<n):=by
 rw [toList_enc,toList_enc,bytesLess_val _ _ h,valR_encL,valR_encL]
theorem beq_enc (m n:Nat):((encS m).toList==(encS n).toList)=decide (m=n):=by
 rw [Bool.eq_iff_iff,beq_iff_eq,decide_eq_true_eq,toList_enc,toList_enc]
 constructor
 ·intro h;rw [←valR_encL m,h,valR_encL]
 ·rintro rfl;rfl
theorem size_lt_enc {m n:Nat} (h:(encS m).size<(encS n).size):m<n:=by
 rw [encS_size,encS_size] at h;exact digs_len_lt (by decide) h
theorem rCmp_any (a b:ByteArray) (w:World) (ha:a.size≤100000000) (hb:b.size≤100000000) :
  Calls Tryz.prog 54 #[.string a,.string b] w fun e w' =>e=.returned (.int .i64 (cmpI (numS a) (numS b)))∧w=w' :=by
 have HC:=hD (Canon_any a · ha);have HD:=hD (Canon_any b · hb);obtain ⟨m,hm⟩:∃m,numS a=m:=⟨_,rfl⟩;obtain ⟨n,hn⟩:∃n,numS b=n:=⟨_,rfl⟩;rw [hm] at HC ⊢;rw [hn] at HD ⊢;have h1:(encS m).size<(encS n).size→m<n:=size_lt_enc;have h2:(encS n).size<(encS m).size→n<m:=size_lt_enc;have h3:(encS m).size=(encS n).size→_:=less_enc (m:=m) (n:=n);have h4:=beq_enc m n;obtain ⟨c,hc⟩:∃c,encS m=c:=⟨_,rfl⟩;obtain ⟨d,hd⟩:∃d,encS n=d:=⟨_,rfl⟩;rw [hc] at HC h1 h2 h3 h4;rw [hd] at HD h1 h2 h3 h4;clear hc hd
 by_cases hs:c.size=d.size
 ·have h3:=h3 hs;have e1:((c.size:Int)==(d.size:Int))=true:=by rw [hs];simp
  have e2:(c.size:Int)=(d.size:Int):=by rw [hs]
  rcases Nat.lt_trichotomy m n with hlt|rfl|hgt
  ·have f1:Op.bytesLess c.toList d.toList=true:=by rw [h3];simpa using hlt
   have HE:=hD (cmpI_lt hlt);clear h1 h2 h3 h4 hs hlt;go_enter Tryz.func54,Tryz.ntmps54;go_wp2_with fail;refine (HC.out _).mono ?_;rintro e w1 ⟨rfl,rfl⟩;go_wp2_with fail;refine (HD.out _).mono ?_;rintro e w1 ⟨rfl,rfl⟩;go_wp2_with fail;go_ret;exact ⟨by rw [HE.out];rfl,rfl⟩
  ·have f1:Op.bytesLess c.toList d.toList=false:=by rw [h3];simp
   have f2:(c.toList==d.toList)=true:=by rw [h4];simp
   have HE:=hD (cmpI_eq (m:=m));clear h1 h2 h3 h4 hs;go_enter Tryz.func54,Tryz.ntmps54;go_wp2_with fail;refine (HC.out _).mono ?_;rintro e w1 ⟨rfl,rfl⟩;go_wp2_with fail;refine (HD.out _).mono ?_;rintro e w1 ⟨rfl,rfl⟩;go_wp2_with fail;go_ret;exact ⟨by rw [HE.out];rfl,rfl⟩
  ·have f1:Op.bytesLess c.toList d.toList=false:=by rw [h3];simp;omega
   have f2:(c.toList==d.toList)=false:=by rw [h4];simp;omega
   have HE:=hD (cmpI_gt hgt);clear h1 h2 h3 h4 hs hgt;go_enter Tryz.func54,Tryz.ntmps54;go_wp2_with fail;refine (HC.out _).mono ?_;rintro e w1 ⟨rfl,rfl⟩;go_wp2_with fail;refine (HD.out _).mono ?_;rintro e w1 ⟨rfl,rfl⟩;go_wp2_with fail;go_ret;exact ⟨by rw [HE.out];rfl,rfl⟩
 ·have e1:((c.size:Int)==(d.size:Int))=false:=by rw [beq_eq_false_iff_ne];omega
  have e2:¬(c.size:Int)=(d.size:Int):=by omega
  by_cases hlt:c.size<d.size
  ·have HE:=hD (cmpI_lt (h1 hlt));have f1:(c.size:Int)<(d.size:Int):=by omega
   clear h1 h2 h3 h4 hs hlt;go_enter Tryz.func54,Tryz.ntmps54;go_wp2_with fail;refine (HC.out _).mono ?_;rintro e w1 ⟨rfl,rfl⟩;go_wp2_with fail;refine (HD.out _).mono ?_;rintro e w1 ⟨rfl,rfl⟩;go_wp2_with fail;go_ret;exact ⟨by rw [HE.out];rfl,rfl⟩
  ·have HE:=hD (cmpI_gt (h2 (by omega)));have f1:¬(c.size:Int)<(d.size:Int):=by omega
   clear h1 h2 h3 h4 hs hlt;go_enter Tryz.func54,Tryz.ntmps54;go_wp2_with fail;refine (HC.out _).mono ?_;rintro e w1 ⟨rfl,rfl⟩;go_wp2_with fail;refine (HD.out _).mono ?_;rintro e w1 ⟨rfl,rfl⟩;go_wp2_with fail;go_ret;exact ⟨by rw [HE.out];rfl,rfl⟩
end Go.Proofs.YtblgfmjlajhipaaGreatDoor
