/- Contracts that the proofs of this seat share. Each theorem names its conditions. -/
import Derived.Deep.LoopGhost
import Derived.Test.YtblgfmjlajhipaaGreatDoorZa4
set_option maxHeartbeats 16000000
set_option linter.unusedVariables false
namespace Go.Proofs.YtblgfmjlajhipaaGreatDoor
open Go.RowKit Go.Shelf
open Dgt
theorem len32 (a:ByteArray):(digs 4294967296 (numS a)).length≤a.size:=by
 have h:=valB_lt (revB_ok a);rw [revB_len] at h;exact digs_len_le (by decide) (Nat.lt_of_lt_of_le h (Nat.pow_le_pow_left (by decide) _))
theorem enc_len (n:Nat) {k:Nat} (h:n<256^k):(encS n).size≤k:=by rw [encS_size];exact digs_len_le (by decide) h
theorem numS_lt (a:ByteArray):numS a<256^a.size:=by
 have h:=valB_lt (revB_ok a)
 rwa [revB_len] at h
theorem encS_zero:encS 0=⟨#[]⟩:=by unfold encS encL;rw [digs_zero];rfl
def remS (m n:Nat):Nat:=if n=0 then 0 else m%n
theorem Cmp_any (a b:ByteArray) (w:World) (ha:a.size≤100000000) (hb:b.size≤100000000) :
  Gv 128 #[.string a,.string b] w (.int .i64 (cmpI (numS a) (numS b))):=by
 unfold Gv;have la:=len32 a;have lb:=len32 b;obtain ⟨m,hm⟩:∃m,numS a=m:=⟨_,rfl⟩;obtain ⟨n,hn⟩:∃n,numS b=n:=⟨_,rfl⟩;have OA:=hD (of_any a · (by omega));have OB:=hD (of_any b · (by omega));rw [hm] at la OA;rw [hn] at lb OB;rw [hm,hn];have LA:=hD (show (digs 4294967296 m).length≤100000000 by omega);have LB:=hD (show (digs 4294967296 n).length≤100000000 by omega);clear la lb ha hb hm hn;go_enter Tryz.func128,Tryz.ntmps128;go_wp2_with fail;refine (OA.out _).mono ?_;rintro e w1 ⟨v1,rfl,hl,hb⟩;have H1:=hD hl;have HB:=hD hb;clear hl hb;go_wp2_with fail;refine (OB.out _).mono ?_;rintro e w2 ⟨v2,rfl,hl,hb⟩;have H1:=hD (H1.out.up hb);have H2:=hD hl;have HB:=mH HB hb;clear hl hb;go_wp2_with fail;refine (compare_any _ _ m n _ H1.out H2.out).mono ?_;rintro e w3 ⟨rfl,hb⟩;have HB:=mH HB hb;clear hb;go_wp2_with fail;go_ret;exact ⟨rfl,HB.out⟩
theorem Add_any (a b:ByteArray) (w:World) (ha:a.size≤100000000) (hb:b.size≤100000000) :
  Gv 96 #[.string a,.string b] w (.string (encS (numS a+numS b))):=by
 unfold Gv;have la:=len32 a;have lb:=len32 b;obtain ⟨m,hm⟩:∃m,numS a=m:=⟨_,rfl⟩;obtain ⟨n,hn⟩:∃n,numS b=n:=⟨_,rfl⟩;have OA:=hD (of_any a · (by omega));have OB:=hD (of_any b · (by omega));rw [hm] at la OA;rw [hn] at lb OB;rw [hm,hn];have LA:=hD (show (digs 4294967296 m).length≤100000000 by omega);have LB:=hD (show (digs 4294967296 n).length≤100000000 by omega);clear la lb ha hb hm hn;go_enter Tryz.func96,Tryz.ntmps96;go_wp2_with fail;refine (OA.out _).mono ?_;rintro e w1 ⟨v1,rfl,hl,hb⟩;have H1:=hD hl;have HB:=hD hb;clear hl hb;go_wp2_with fail;refine (OB.out _).mono ?_;rintro e w2 ⟨v2,rfl,hl,hb⟩;have H1:=hD (H1.out.up hb);have H2:=hD hl;have HB:=mH HB hb;clear hl hb;go_wp2_with fail;refine (sum_any _ _ _ _ _ H1.out H2.out (by have:=LA.out;omega) (by have:=LB.out;omega)).mono ?_;rintro e w3 ⟨v3,rfl,hl,hb⟩;rw [valB_digs (by decide),valB_digs (by decide)] at hl
 have H3:=hD hl;have HB:=mH HB hb;clear hl hb;go_wp2_with fail;refine (number_any _ _ _ H3.out (by have:=digs_len_add (B:=4294967296) (by decide) m n;have:=LA.out;have:=LB.out;omega)).mono ?_;rintro e w4 ⟨rfl,hb⟩;rw [valB_digs (by decide)];have HB:=mH HB hb;clear hb;go_wp2_with fail;go_ret;exact ⟨rfl,HB.out⟩
theorem Mul_any (a b:ByteArray) (w:World) (ha:a.size≤100000000) (hb:b.size≤100000000) :
  Gv 99 #[.string a,.string b] w (.string (encS (numS a*numS b))):=by
 unfold Gv;have la:=len32 a;have lb:=len32 b;obtain ⟨m,hm⟩:∃m,numS a=m:=⟨_,rfl⟩;obtain ⟨n,hn⟩:∃n,numS b=n:=⟨_,rfl⟩;have OA:=hD (of_any a · (by omega));have OB:=hD (of_any b · (by omega));rw [hm] at la OA;rw [hn] at lb OB;rw [hm,hn];have LA:=hD (show (digs 4294967296 m).length≤100000000 by omega);have LB:=hD (show (digs 4294967296 n).length≤100000000 by omega);clear la lb ha hb hm hn;go_enter Tryz.func99,Tryz.ntmps99;go_wp2_with fail;refine (OA.out _).mono ?_;rintro e w1 ⟨v1,rfl,hl,hb⟩;have H1:=hD hl;have HB:=hD hb;clear hl hb;go_wp2_with fail;refine (OB.out _).mono ?_;rintro e w2 ⟨v2,rfl,hl,hb⟩;have H1:=hD (H1.out.up hb);have H2:=hD hl;have HB:=mH HB hb;clear hl hb;go_wp2_with fail;refine (product_any _ _ _ _ _ H1.out H2.out (by have:=LA.out;omega) (by have:=LB.out;omega)).mono ?_;rintro e w3 ⟨v3,rfl,hl,hb⟩;rw [valB_digs (by decide),valB_digs (by decide)] at hl
 have H3:=hD hl;have HB:=mH HB hb;clear hl hb;go_wp2_with fail;refine (number_any _ _ _ H3.out (by have:=digs_len_mul (B:=4294967296) (by decide) m n;have:=LA.out;have:=LB.out;omega)).mono ?_;rintro e w4 ⟨rfl,hb⟩;rw [valB_digs (by decide)];have HB:=mH HB hb;clear hb;go_wp2_with fail;go_ret;exact ⟨rfl,HB.out⟩
theorem Sub_any (a b:ByteArray) (w:World) (ha:a.size≤100000000) (hb:b.size≤100000000) :
  Gv 101 #[.string a,.string b] w (.tuple #[.string (encS (numS a-numS b)),.bool (decide (numS b≤numS a))]):=by
 unfold Gv;have la:=len32 a;have lb:=len32 b;obtain ⟨m,hm⟩:∃m,numS a=m:=⟨_,rfl⟩;obtain ⟨n,hn⟩:∃n,numS b=n:=⟨_,rfl⟩;have OA:=hD (of_any a · (by omega));have OB:=hD (of_any b · (by omega));rw [hm] at la OA;rw [hn] at lb OB;rw [hm,hn];have LA:=hD (show (digs 4294967296 m).length≤100000000 by omega);have LB:=hD (show (digs 4294967296 n).length≤100000000 by omega);clear la lb ha hb hm hn;go_enter Tryz.func101,Tryz.ntmps101;go_wp2_with fail;refine (OA.out _).mono ?_;rintro e w1 ⟨v1,rfl,hl,hb⟩;have H1:=hD hl;have HB:=hD hb;clear hl hb;go_wp2_with fail;refine (OB.out _).mono ?_;rintro e w2 ⟨v2,rfl,hl,hb⟩;have H1:=hD (H1.out.up hb);have H2:=hD hl;have HB:=mH HB hb;clear hl hb;go_wp2_with fail;refine (compare_any _ _ m n _ H1.out H2.out).mono ?_;rintro e w3 ⟨rfl,hb⟩;have H1:=hD (H1.out.up hb);have H2:=hD (H2.out.up hb);have HB:=mH HB hb;clear hb;rcases Nat.lt_or_ge m n with h|h
 ·rw [cmpI_lt h];have HE:=hD (show encS (m-n)=⟨#[]⟩∧decide (n≤m)=false from ⟨by rw [Nat.sub_eq_zero_of_le (Nat.le_of_lt h)];exact encS_zero,by simpa using h⟩);clear h;go_wp2_with fail;go_ret2;exact ⟨by rw [HE.out.1,HE.out.2];rfl,HB.out⟩
 ·obtain ⟨c,hc,hc0⟩:=cmp_ge h;rw [hc];have HE:=hD (show decide (n≤m)=true by simpa using h);have HLE:=hD h;clear hc h;go_wp2_with fail;refine (less_any _ _ _ _ _ H1.out H2.out (by have:=LA.out;omega) (digs_len_mono (by decide) HLE.out) (by rw [valB_digs (by decide),valB_digs (by decide)];exact HLE.out)).mono ?_;rintro e w4 ⟨v3,rfl,hl,hb⟩;rw [valB_digs (by decide),valB_digs (by decide)] at hl;have H3:=hD hl;have HB:=mH HB hb;clear hl hb;go_wp2_with fail;refine (number_any _ _ _ H3.out (by have:=digs_len_mono (B:=4294967296) (by decide) (Nat.sub_le m n);have:=LA.out;omega)).mono ?_;rintro e w5 ⟨rfl,hb⟩;rw [valB_digs (by decide)];have HB:=mH HB hb;clear hb;go_wp2_with fail;go_ret2;exact ⟨by rw [HE.out];rfl,HB.out⟩
theorem Quo_any (a b:ByteArray) (w:World) (ha:a.size≤100000000) (hb:b.size≤100000000) :
  Gv 125 #[.string a,.string b] w (.tuple #[.string (encS (numS a/numS b)),.string (encS (remS (numS a) (numS b))),.bool (decide (0<numS b))]):=by
 unfold Gv;have la:=len32 a;have lb:=len32 b;obtain ⟨m,hm⟩:∃m,numS a=m:=⟨_,rfl⟩;obtain ⟨n,hn⟩:∃n,numS b=n:=⟨_,rfl⟩;have OA:=hD (of_any a · (by omega));have OB:=hD (of_any b · (by omega));rw [hm] at la OA;rw [hn] at lb OB;rw [hm,hn];have LA:=hD (show (digs 4294967296 m).length≤100000000 by omega);have LB:=hD (show (digs 4294967296 n).length≤100000000 by omega);clear la lb ha hb hm hn;go_enter Tryz.func125,Tryz.ntmps125;go_wp2_with fail;refine (OB.out _).mono ?_;rintro e w1 ⟨v1,rfl,hl,hb⟩;have H1:=hD hl;have HB:=hD hb;clear hl hb;obtain ⟨p,k,cp,rfl,hk,-,-⟩:=H1.out.open_
 by_cases h0:n=0
 ·have hk0:k=0:=by rw [hk,h0,digs_zero];rfl
  subst hk0;have HE:=hD (show encS (m/n)=⟨#[]⟩∧encS (remS m n)=⟨#[]⟩∧decide (0<n)=false from ⟨by rw [h0,Nat.div_zero];exact encS_zero,by rw [remS,if_pos h0];exact encS_zero,by simp [h0]⟩);clear hk h0;go_wp2_with fail
  go_ret3
  exact ⟨by rw [HE.out.1,HE.out.2.1,HE.out.2.2];rfl,HB.out⟩
 ·have hk0:¬(k:Int)=0:=by
   have:(digs 4294967296 n).length≠0:=fun e=>h0 ((digs_eq_nil (by decide)).1 (List.eq_nil_of_length_eq_zero e))
   omega
  have HE:=hD (show remS m n=m%n∧decide (0<n)=true from ⟨by rw [remS,if_neg h0],by simp;omega⟩);have HN:=hD (show 0<n by omega);have HN0:=hD (show k≠0 by omega);clear hk h0;go_wp2_with fail;refine (OA.out _).mono ?_;rintro e w2 ⟨v2,rfl,hl,hb⟩;have H1:=hD (H1.out.up hb);have H2:=hD hl;have HB:=mH HB hb;clear hl hb;go_wp2_with fail;refine (divide_any _ _ m n _ H2.out H1.out HN.out (by have:=LA.out;omega)).mono ?_;rintro e w3 ⟨vq,vr,rfl,hq,hr,hb⟩;have H1:=hD hq;have H2:=hD hr;have HB:=mH HB hb;clear hq hr hb;go_wp2_with fail;refine (number_any _ _ _ H1.out (by have:=digs_len_mono (B:=4294967296) (by decide) (Nat.div_le_self m n);have:=LA.out;omega)).mono ?_;rintro e w4 ⟨rfl,hb⟩;rw [valB_digs (by decide)];have H2:=hD (H2.out.up hb);have HB:=mH HB hb;clear hb;go_wp2_with fail
  refine (number_any _ _ _ H2.out (by have:=digs_len_mono (B:=4294967296) (by decide) (Nat.mod_le m n);have:=LA.out;omega)).mono ?_;rintro e w5 ⟨rfl,hb⟩;rw [valB_digs (by decide)];have HB:=mH HB hb;clear hb;go_wp2_with fail
  go_ret3
  exact ⟨by rw [HE.out.1,HE.out.2];rfl,HB.out⟩
end Go.Proofs.YtblgfmjlajhipaaGreatDoor
namespace Go.Proofs.YtblgfmjlajhipaaGreatDoor
open Go.RowKit Go.Shelf
open Dgt
set_option maxRecDepth 100000 in
theorem Gcd_any (a b:ByteArray) (w:World) (ha:a.size≤100000000) (hb:b.size≤100000000) :
  Gv 124 #[.string a,.string b] w (.string (encS (Nat.gcd (numS a) (numS b)))):=by
 unfold Gv;have la:=len32 a;have lb:=len32 b;obtain ⟨m0,hm⟩:∃m,numS a=m:=⟨_,rfl⟩;obtain ⟨n0,hn⟩:∃n,numS b=n:=⟨_,rfl⟩;have OA:=hD (of_any a · (by omega));have OB:=hD (of_any b · (by omega));rw [hm] at la OA;rw [hn] at lb OB;rw [hm,hn];have LA:=hD (show (digs 4294967296 m0).length≤100000000 by omega);have LB:=hD (show (digs 4294967296 n0).length≤100000000 by omega);clear la lb ha hb hm hn;go_enter Tryz.func124,Tryz.ntmps124;go_wp2_with fail;refine (OA.out _).mono ?_;rintro e w1 ⟨v1,rfl,hl,hb⟩;have H1:=hD hl;have HB:=hD hb;clear hl hb;go_wp2_with fail;refine (OB.out _).mono ?_;rintro e w2 ⟨v2,rfl,hl,hb⟩;have H1:=hD (H1.out.up hb);have H2:=hD hl;have HB:=mH HB hb;clear hl hb;go_wp2_with fail;clear OA OB
 go_loopg [5,6,7,8] n0 (fun n vx vy _ _ wr=>∃m:Nat,Hid (Lim wr vx (digs 4294967296 m))∧Hid (Lim wr vy (digs 4294967296 n))∧Hid (Nat.gcd m n=Nat.gcd m0 n0)∧Hid ((digs 4294967296 m).length≤100000000)∧Hid ((digs 4294967296 n).length≤100000000)∧Hid (Below w.heap.size w wr))
 case atStart=>exact ⟨m0,H1,H2,hD rfl,LA,LB,HB⟩
 case round =>
  clear H1 H2 HB LA LB;obtain ⟨m,HX,HY,HG,LA,LB,HB⟩:=hrel;obtain ⟨wo,hwo⟩:∃wo,wo=wr:=⟨_,rfl⟩;subst hwo;obtain ⟨p,k,cp,hpk,hk,-,-⟩:=HY.out.open_;subst hpk
  by_cases h0:gk=0
  ·have hk0:k=0:=by rw [hk,h0,digs_zero];rfl
   subst hk0;have HE:=hD (show Nat.gcd m0 n0=m by rw [←HG.out,h0,Nat.gcd_zero_right]);clear hk h0;go_wp2_with fail;refine (number_any _ _ _ HX.out (by have:=LA.out;omega)).mono ?_;rintro e w4 ⟨rfl,hb⟩;rw [valB_digs (by decide)];have HB:=mH HB hb;clear hb;go_wp2_with fail;go_ret;exact ⟨by rw [HE.out];rfl,HB.out⟩
  ·have hk0:0<(k:Int):=by
    have:(digs 4294967296 gk).length≠0:=fun e=>h0 ((digs_eq_nil (by decide)).1 (List.eq_nil_of_length_eq_zero e))
    omega
   have HN:=hD (show 0<gk by omega);clear hk h0;go_wp2_with fail;refine (divide_any _ _ m gk _ HX.out HY.out HN.out (by have:=LA.out;omega)).mono ?_;rintro e w3 ⟨vq,vr,rfl,hq,hr,hb⟩;have HY:=hD (HY.out.up hb);have HR:=hD hr;have HB:=mH HB hb;clear hq hr hb;go_wp2_with fail
   go_roundg (m%gk)
   case rel=>exact ⟨gk,HY,HR,hD (by rw [←HG.out,Nat.gcd_comm gk, ←Nat.gcd_rec,Nat.gcd_comm]),LB,hD (Nat.le_trans (digs_len_mono (by decide) (Nat.mod_le m gk)) LA.out),HB⟩
   case measure=>exact Nat.mod_lt _ HN.out
def rightN (a:ByteArray):Bool:=decide (encS (numS a)=a)
theorem rightN_nil:rightN ⟨#[]⟩=true:=by
 unfold rightN;rw [show numS ⟨#[]⟩=0 from rfl,encS_zero];rfl
theorem rightN_cons {a:ByteArray} (h:0<a.size):rightN a= !decide (a[0].toNat=0):=by
 have hl:(revB a).length=a.size:=revB_len a;have hne:revB a≠[]:=by intro e;rw [e] at hl;simp at hl;omega
 have hlast:(revB a).getLast hne=a[0].toNat:=by
  rw [List.getLast_eq_getElem];have:=revB_get a (k:=a.size-1) (by omega);simp only [hl];rw [this]
  congr 2;omega
 have key:encS (numS a)=a↔nzL (revB a):=by
  constructor
  ·intro h;have:=revB_encS (numS a);rw [h] at this;rw [this];exact nzL_digs (by decide) _
  ·intro hz
   apply ext_revB
   rw [revB_encS];exact digs_valB (by decide) (revB_ok a) hz
 unfold rightN
 by_cases h0:a[0].toNat=0
 ·have:¬nzL (revB a):=fun hz=>hz hne (hlast.trans h0)
  simp [key,this,h0]
 ·have:nzL (revB a):=fun _=>by rw [hlast];exact h0
  simp [key,this,h0]
theorem Right_any (a:ByteArray) (w:World) (ha:a.size≤100000000) :
  Calls Tryz.prog 104 #[.string a] w fun e w' =>e=.returned (.bool (rightN a))∧w=w' :=by
 by_cases h0:a.size=0
 ·have e:a=⟨#[]⟩:=by
   have:a.data=#[]:=Array.eq_empty_of_size_eq_zero h0;cases a;simp only at this;rw [this]
  subst e;have HR:=hD rightN_nil;clear h0 ha;go_enter Tryz.func104,Tryz.ntmps104;go_wp2_with fail;go_ret;exact ⟨by rw [HR.out];rfl,rfl⟩
 ·have hp:0<a.size:=by omega
  have HR:=hD (rightN_cons hp);obtain ⟨x,hx⟩:∃x,a[0].toNat=x:=⟨_,rfl⟩;rw [hx] at HR;have hl:a.data.toList≠[]:=fun e=>h0 (by
   have:a.data.toList.length=0:=by rw [e];rfl
   simpa using this)
  rw [←ByteArray.toList_eq] at hl;have hl2:a.toList.isEmpty=false:=by simpa using hl
  by_cases hx0:x=0
  ·subst hx0;have hx' :a[0].toNat=0:=hx;clear hx h0;go_enter Tryz.func104,Tryz.ntmps104;go_wp2_with fail;go_ret;exact ⟨by rw [HR.out];rfl,rfl⟩
  ·have hx1:¬(x:Int)=0:=by omega
   have hx2:((x:Int) != 0)=true:=by simpa using hx1
   have HR2:Hid (rightN a=true):=hD (by rw [HR.out];simp [hx0]);clear h0 hx0;go_enter Tryz.func104,Tryz.ntmps104;go_wp2_with fail;go_ret;exact ⟨by rw [HR2.out];rfl,rfl⟩
end Go.Proofs.YtblgfmjlajhipaaGreatDoor
namespace Go.Proofs.YtblgfmjlajhipaaGreatDoor
open Go.RowKit Go.Shelf
open Dgt
def bitsN (n:Nat):Nat:=(digs 2 n).length
theorem digs_len_eq {B n k:Nat} (hB:2≤B) (h1:B^k≤n) (h2:n<B^(k+1)):(digs B n).length=k+1:=by
 apply Nat.le_antisymm (digs_len_le hB h2)
 rcases Nat.lt_or_ge (digs B n).length (k+1) with h|h
 ·have h3:=digs_lt hB n;have h4:B^(digs B n).length≤B^k:=Nat.pow_le_pow_right (by omega) (by omega);omega
 ·exact h
theorem bits_of {n nb top:Nat} (hl:(digs 4294967296 n).length=nb+1) (ht:(digs 4294967296 n)[nb]? =some top):bitsN n=32*nb+Lib.bitLen top∧0<top∧top<4294967296:=by
 have ho:=okB_digs (B:=4294967296) (by decide) n;have hz:=nzL_digs (B:=4294967296) (by decide) n;have hv:=valB_digs (B:=4294967296) (by decide) n;obtain ⟨l,hll⟩:∃l,digs 4294967296 n=l:=⟨_,rfl⟩;rw [hll] at hl ht ho hz hv;obtain ⟨hi,hg⟩:=List.getElem?_eq_some_iff.1 ht;have hne:l≠[]:=by rintro rfl;simp at hi
 have ht0:0<top:=by
  have:=hz hne;rw [List.getLast_eq_getElem] at this;simp only [hl,Nat.add_sub_cancel] at this;rw [hg] at this;omega
 have htl:top<4294967296:=by rw [←hg];exact ho.get hi
 obtain ⟨b1,b2,b3⟩:=bitLen_bd ht0 (by omega);have hsp:=valB_split 4294967296 l nb;rw [Nat.min_eq_left (by omega),List.drop_eq_getElem_cons hi,hg,List.drop_eq_nil_of_le (by omega)] at hsp;simp only [valB,Nat.mul_zero,Nat.add_zero] at hsp;rw [hv] at hsp;have hlo:=valB_lt (ho.take nb);rw [List.length_take,Nat.min_eq_left (by omega)] at hlo;have e32:(4294967296:Nat)^nb=2^(32*nb):=by rw [Nat.pow_mul]
 refine ⟨?_,ht0,htl⟩;have h1:2^(32*nb+(Lib.bitLen top-1))≤n:=by
  rw [Nat.pow_add, ←e32];have:=Nat.mul_le_mul_left (4294967296^nb) b2;omega
 have h2:n<2^(32*nb+(Lib.bitLen top-1)+1):=by
  rw [show 32*nb+(Lib.bitLen top-1)+1=32*nb+Lib.bitLen top by omega,Nat.pow_add, ←e32];have:=Nat.mul_le_mul_left (4294967296^nb) (show top+1≤2^Lib.bitLen top from b3);rw [Nat.mul_add,Nat.mul_one] at this;omega
 have:=digs_len_eq (by decide) h1 h2;unfold bitsN;omega
set_option maxRecDepth 100000 in
theorem Bits_any (a:ByteArray) (w:World) (ha:a.size≤100000000) :
  Gv 106 #[.string a] w (.int .i64 ((bitsN (numS a):Nat):Int)):=by
 unfold Gv;have la:=len32 a;obtain ⟨n,hn⟩:∃n,numS a=n:=⟨_,rfl⟩;have OA:=hD (of_any a · (by omega));rw [hn] at la OA ⊢;have LA:=hD (show (digs 4294967296 n).length≤100000000 by omega);clear la ha hn;go_enter Tryz.func106,Tryz.ntmps106;go_wp2_with fail;refine (OA.out _).mono ?_;rintro e w1 ⟨v1,rfl,hl,hb⟩;obtain ⟨p,k,cp,rfl,hk,-,-⟩:=hl.open_;rcases k with _|j
 ·have HE:Hid (bitsN n=0):=hD (by
   have h0:digs 4294967296 n=[]:=List.eq_nil_of_length_eq_zero hk.symm;rw [digs_eq_nil (by decide)] at h0;rw [h0,bitsN,digs_zero];rfl)
  have HB:=hD hb;clear hb hl hk;go_wp2_with fail;go_ret;exact ⟨by rw [HE.out];rfl,HB.out⟩
 ·have hj:j<(digs 4294967296 n).length:=by omega
  obtain ⟨g,off,rfl,hg,hc⟩:=hl.cell hj;obtain ⟨top,ht⟩:∃t,(digs 4294967296 n)[j]=t:=⟨_,rfl⟩;have hbs:=bits_of hk.symm (List.getElem?_eq_some_iff.2 ⟨hj,ht⟩);rw [ht] at hc;have HE:=hD hbs.1;have h0:=hbs.2.1;have htl:(top:Int)≤4294967295:=by omega
  have hbl:(Lib.bitLen ((top:Int)).toNat:Int)=(Lib.bitLen top:Int):=by rw [Int.toNat_natCast]
  have hb64:(Lib.bitLen top:Int)≤64:=by have:=Lib.bitLen_le top 64 (by decide) (by omega);omega
  have hj9:(j:Int)≤100000000:=by have:=LA.out;omega
  have HB:=hD hb;have HBL:=hD hbl;clear hb hl hk hj ht hbs hbl;go_wp2_with fail;refine (Tryz.bits_Len32 (top:Int) _ (by omega) htl).mono ?_;rintro e w2 ⟨rfl,rfl⟩;rw [HBL.out];go_wp2_with fail;go_ret;exact ⟨by rw [HE.out];go_num,HB.out⟩
theorem lim_two (W:World) {x y:Nat} (hx:x<4294967296) (hy:y<4294967296):Lim (W.alloc (.cells #[.int .u32 (x:Int),.int .u32 (y:Int)] 133)) (.slice (some ⟨W.heap.size,0,none⟩) 2 2) [x,y]:=by
 refine LimK.block (kd:=.u32) (B:=4294967296) (g:=W.heap.size) (cap:=2) (t:=133) (l:=[x,y]) (fun z hz=> ?_) (cs:=#[.int .u32 (x:Int),.int .u32 (y:Int)]) (heap_alloc_new W _) (fun i h=> ?_) (by simp) (by omega)
 ·simp only [List.mem_cons,List.mem_nil_iff,or_false] at hz;rcases hz with rfl|rfl
  ·exact hx
  ·exact hy
 ·have h0:i=0∨i=1:=by simp at h;omega
  rcases h0 with rfl|rfl<;>rfl
theorem Of_any (n:Int) (w:World) (h9:n≤9223372036854775807) :
  Gv 97 #[.int .i64 n] w (.string (encS n.toNat)):=by
 unfold Gv
 by_cases hn:n≤0
 ·have HE:=hD (show encS n.toNat=⟨#[]⟩ by rw [show n.toNat=0 by omega];exact encS_zero);clear h9;go_enter Tryz.func97,Tryz.ntmps97;go_wp2_with fail;go_ret;exact ⟨by rw [HE.out];rfl,Below.refl _ _⟩
 ·obtain ⟨m,rfl⟩:∃m:Nat,n=m:=⟨n.toNat,by omega⟩;obtain ⟨x,hx⟩:∃x,m%4294967296=x:=⟨_,rfl⟩;obtain ⟨y,hy⟩:∃y,m/4294967296=y:=⟨_,rfl⟩;have hxl:x<4294967296:=by omega
  have hyl:y<4294967296:=by omega
  have q1:bits .and .i64 (m:Int) 4294967295=(x:Int):=by
   have h:(BitVec.ofInt 64 (m:Int) &&& BitVec.ofInt 64 4294967295).toNat=x:=by
    rw [BitVec.toNat_and,BitVec.ofInt_natCast,BitVec.toNat_ofNat,show (BitVec.ofInt 64 4294967295).toNat=4294967295 from rfl,Nat.mod_eq_of_lt (by omega), ←hx];exact Nat.and_two_pow_sub_one_eq_mod m 32
   show IntKind.i64.wrap ((BitVec.ofInt 64 (m:Int) &&& BitVec.ofInt 64 4294967295).toNat:Int)=_;rw [h,IntKind.wrap_i64];omega
  have q2:(m:Int)/4294967296=(y:Int):=by omega
  have q3:(x:Int)%4294967296=(x:Int):=by omega
  have q4:(y:Int)%4294967296=(y:Int):=by omega
  have HV:=hD (show valB 4294967296 [x,y]=m by simp only [valB];omega);have hm:¬(m:Int)≤0:=hn;have HL:=hD (lim_two w hxl hyl);have HB:=hD ((Below.refl w.heap.size w).alloc (Nat.le_refl _) (.cells #[.int .u32 (x:Int),.int .u32 (y:Int)] 133));clear hx hy hxl hyl hn h9;go_enter Tryz.func97,Tryz.ntmps97;go_wp2_with fail;refine (number_any _ _ _ HL.out (by simp)).mono ?_;rintro e w2 ⟨rfl,hb⟩;rw [HV.out];have HB:=mH HB hb;clear hb;go_wp2_with fail;go_ret;exact ⟨by rw [Int.toNat_natCast];rfl,HB.out⟩
end Go.Proofs.YtblgfmjlajhipaaGreatDoor
namespace Go.Proofs.YtblgfmjlajhipaaGreatDoor
open Go.RowKit Go.Shelf
open Dgt
def intOk (m:Nat):Bool:=decide (m<9223372036854775808)
def intV (m:Nat):Nat:=if intOk m=true then m else 0
theorem int_no {m:Nat} (h:9223372036854775808≤m):intOk m=false∧intV m=0:=by
 have h1:intOk m=false:=by simp only [intOk,decide_eq_false_iff_not];omega
 exact ⟨h1,by rw [intV,h1];rfl⟩
theorem int_yes {m:Nat} (h:m<9223372036854775808):intOk m=true∧intV m=m:=by
 have h1:intOk m=true:=by simp only [intOk,decide_eq_true_eq];exact h
 exact ⟨h1,by rw [intV,if_pos h1]⟩
end Go.Proofs.YtblgfmjlajhipaaGreatDoor
namespace Go.Proofs.YtblgfmjlajhipaaGreatDoor
open Go.RowKit Go.Shelf
open Dgt
def Sz (n k:Nat):Prop:=n<256^k
theorem Sz.mono {n k j:Nat} (h:Sz n k) (hj:k≤j):Sz n j:=Nat.lt_of_lt_of_le h (Nat.pow_le_pow_right (by decide) hj)
theorem Sz.le {m n k:Nat} (h:Sz n k) (hm:m≤n):Sz m k:=Nat.lt_of_le_of_lt hm h
theorem Sz.mul {m n i j:Nat} (hm:Sz m i) (hn:Sz n j):Sz (m*n) (i+j):=by
 unfold Sz at *;rw [Nat.pow_add];rcases Nat.eq_zero_or_pos m with rfl|h
 ·rw [Nat.zero_mul];exact Nat.mul_pos (Nat.pow_pos (by decide)) (Nat.pow_pos (by decide))
 ·exact Nat.mul_lt_mul_of_lt_of_le hm (Nat.le_of_lt hn) (Nat.pow_pos (by decide))
theorem Sz.add {m n i:Nat} (hm:Sz m i) (hn:Sz n i):Sz (m+n) (i+1):=by
 unfold Sz at *;rw [Nat.pow_succ];omega
theorem Sz.div {m i:Nat} (hm:Sz m i) (n:Nat):Sz (m/n) i:=hm.le (Nat.div_le_self _ _)
theorem Sz.sub {m i:Nat} (hm:Sz m i) (n:Nat):Sz (m-n) i:=hm.le (Nat.sub_le _ _)
theorem Sz.enc {n k:Nat} (h:Sz n k) (hk:k≤100000000):(encS n).size≤100000000:=Nat.le_trans (enc_len n h) hk
theorem Sz.num (a:ByteArray):Sz (numS a) a.size:=numS_lt a
theorem encS_size_lt {n k:Nat} (h:Sz n k):(encS n).size≤k:=enc_len n h
section
variable {a b:ByteArray} {m n:Nat} (ha:numS a=m) (hb:numS b=n) (sa:a.size≤100000000) (sb:b.size≤100000000) (w:World)
include ha hb sa sb
theorem Add_n:Gv 96 #[.string a,.string b] w (.string (encS (m+n))):=by subst ha;subst hb;exact Add_any a b w sa sb
theorem Mul_n:Gv 99 #[.string a,.string b] w (.string (encS (m*n))):=by subst ha;subst hb;exact Mul_any a b w sa sb
theorem Sub_n:Gv 101 #[.string a,.string b] w (.tuple #[.string (encS (m-n)),.bool (decide (n≤m))]):=by subst ha;subst hb;exact Sub_any a b w sa sb
theorem Quo_n:Gv 125 #[.string a,.string b] w (.tuple #[.string (encS (m/n)),.string (encS (remS m n)),.bool (decide (0<n))]):=by subst ha;subst hb;exact Quo_any a b w sa sb
theorem Gcd_n:Gv 124 #[.string a,.string b] w (.string (encS (Nat.gcd m n))):=by subst ha;subst hb;exact Gcd_any a b w sa sb
end
section
variable {a:ByteArray} {m:Nat} (ha:numS a=m) (sa:a.size≤100000000) (w:World)
include ha sa
end
theorem right_enc (n:Nat):rightN (encS n)=true:=by unfold rightN;rw [numS_encS];simp
end Go.Proofs.YtblgfmjlajhipaaGreatDoor
