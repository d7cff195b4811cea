/- Contracts that the proofs of this seat share. Each theorem names its conditions. -/
import Derived.Shelf.GgClosure.StringsIndexFunc
import Derived.Lib.AtoiAll
import Derived.Lib.UnsafeStr
import Derived.Test.YtabfjecegpaoaaaGreatDoorZa5
import Derived.Test.YtabfjecegpaoaaaGreatDoorZa6
import Derived.Test.YtabfjecegpaoaaaGreatDoorZa4
import Derived.Test.YtabfjecegpaoaaaGreatDoorZa9
import Derived.Test.YtabfjecegpaoaaaGreatDoorZa8
set_option maxHeartbeats 16000000
set_option linter.unusedVariables false
namespace Go.Proofs.YtabfjecegpaoaaaGreatDoor
open Go Go.Lib
def dB (c:UInt8):Bool:=decide (48≤c.toNat∧c.toNat≤57)
def notD (r:Nat):Bool:=decide (r<48)||decide (57<r)
def decF (v:Nat) (l:List UInt8):Nat:=l.foldl (fun a c=>a*10+(c.toNat-48)) v
theorem decF_nil (v:Nat):decF v []=v:=by simp only [decF,List.foldl_nil]
theorem decF_cons (v:Nat) (c:UInt8) (l:List UInt8):decF v (c::l)=decF (v*10+(c.toNat-48)) l:=by simp only [decF,List.foldl_cons]
def decV (l:List UInt8):Nat:=decF 0 l
def okP (l:List UInt8):Bool:= !l.isEmpty&& !(decide (1<l.length)&&(l.headD 0==48))&&l.all dB
def parB (s:ByteArray):Bool:=okP s.data.toList
def parV (s:ByteArray):Nat:=if okP s.data.toList=true then decV s.data.toList else 0
theorem decF_append:∀(a b:List UInt8) (v:Nat),decF v (a++b)=decF (decF v a) b
 | [],_,_=>rfl
 | c::a,b,v=>by rw [List.cons_append,decF_cons,decF_cons,decF_append a b]
theorem decF_pow:∀(l:List UInt8) (v:Nat),decF v l=v*10^l.length+decF 0 l
 | [],v=>by simp [decF_nil]
 | c::l,v=>by
  rw [decF_cons,decF_pow l,decF_cons,decF_pow l (0*10+_),List.length_cons,Nat.pow_succ,Nat.add_mul,Nat.mul_assoc,Nat.mul_comm 10,Nat.zero_mul,Nat.zero_add,Nat.add_assoc]
theorem decF_lt:∀(l:List UInt8),l.all dB=true→decF 0 l<10^l.length
 | [],_=>by simp [decF_nil]
 | c::l,h=>by
  simp only [List.all_cons,Bool.and_eq_true] at h;have hc:48≤c.toNat∧c.toNat≤57:=by simpa [dB] using h.1
  have ih:=decF_lt l h.2;rw [decF_cons,decF_pow,List.length_cons,Nat.pow_succ];obtain ⟨P,hP⟩:∃P,10^l.length=P:=⟨_,rfl⟩;rw [hP] at ih ⊢;have h2:(0*10+(c.toNat-48))*P≤9*P:=Nat.mul_le_mul_right P (by omega);omega
theorem decode_low (s:ByteArray) (i:Nat) (h:(s.get! i).toNat<128):Utf8.decode s i=((s.get! i).toNat,1):=by
 unfold Utf8.decode;simp only [Nat.add_zero];rw [if_pos h]
theorem decode_high (s:ByteArray) (i:Nat) (h:128≤(s.get! i).toNat):128≤(Utf8.decode s i).1:=by
 unfold Utf8.decode;simp only [Nat.add_zero];rw [if_neg (by omega)]
 split
 ·split
  ·assumption
  ·decide
 ·split
  ·split
   ·rename_i h2
    simp only [Bool.and_eq_true,decide_eq_true_eq] at h2;have:=h2.1;omega
   ·decide
  ·split
   ·split
    ·rename_i h2
     simp only [Bool.and_eq_true,decide_eq_true_eq] at h2;have:=h2.1;omega
    ·decide
   ·decide
theorem get_bang (s:ByteArray) {i:Nat} (h:i<s.size):s.get! i=s.data.toList[i]'(by simpa using h):=by
 have:s.get! i=s.data[i]! :=rfl;rw [this,getElem!_pos s.data i h];simp
theorem idx_digits (s:ByteArray):∀(f pos:Nat),s.size≤pos+f→decide (0≤idxFuncFrom notD true s f pos)= !((s.data.toList.drop pos).all dB)
 | 0,pos,h=>by
  have:s.data.toList.drop pos=[]:=List.drop_eq_nil_of_le (by simp;omega);rw [this];rfl
 | f+1,pos,h=>by
  unfold idxFuncFrom
  by_cases hp:pos<s.size
  ·rw [if_pos hp];have hl:pos<s.data.toList.length:=by simpa using hp
   rw [List.drop_eq_getElem_cons hl,List.all_cons];have hg:=get_bang s hp;obtain ⟨c,hc⟩:∃c,s.data.toList[pos]=c:=⟨_,rfl⟩;rw [hc] at hg ⊢
   by_cases hlow:c.toNat<128
   ·have hd:=decode_low s pos (by rw [hg];exact hlow);rw [hd,hg]
    by_cases hdig:48≤c.toNat∧c.toNat≤57
    ·have h1:notD c.toNat=false:=by simp [notD];omega
     have h2:dB c=true:=by simp [dB];exact hdig
     rw [h1,h2];simp only [Bool.false_eq_true,if_false,Bool.true_and];exact idx_digits s f (pos+1) (by omega)
    ·have h1:notD c.toNat=true:=by simp [notD];omega
     have h2:dB c=false:=by simp [dB];omega
     rw [h1,h2];simp
   ·have hd:=decode_high s pos (by rw [hg];omega);have h1:notD (Utf8.decode s pos).1=true:=by simp [notD];omega
    have h2:dB c=false:=by simp [dB];omega
    rw [h1,h2];simp
  ·rw [if_neg hp,List.drop_eq_nil_of_le (by simp;omega)];rfl
theorem has_other (s:ByteArray):decide (0≤idxFunc notD true s)= !(s.data.toList.all dB):=by
 have h:=idx_digits s s.size 0 (by omega);rw [List.drop_zero] at h;exact h
theorem uint_digits:∀(l:List UInt8) (v:Nat),l.all dB=true→v*10^l.length+decF 0 l<1844674407370955162→parseUint10 v l=.ok (decF v l)
 | [],v,_,_=>by rw [parseUint10,decF_nil]
 | c::l,v,h,hb=>by
  simp only [List.all_cons,Bool.and_eq_true] at h;have hc:48≤c.toNat∧c.toNat≤57:=by simpa [dB] using h.1
  rw [parseUint10,if_pos hc,decF_cons];have h1:v*10^(l.length+1)+decF 0 (c::l)=(v*10+(c.toNat-48))*10^l.length+decF 0 l:=by
   rw [decF_cons,decF_pow l (0*10+_),Nat.zero_mul,Nat.zero_add,Nat.pow_succ,Nat.add_mul,Nat.mul_assoc v 10,Nat.mul_comm 10 (10^l.length)];omega
  rw [List.length_cons,h1] at hb;have hp:1≤10^l.length:=Nat.one_le_pow _ _ (by decide);have h2:v*10+(c.toNat-48)≤(v*10+(c.toNat-48))*10^l.length:=Nat.le_mul_of_pos_right _ hp;rw [if_neg (by omega),if_neg (by omega)];exact uint_digits l _ h.2 hb
theorem atoi_digits {l:List UInt8} (h:l.all dB=true) (h0:l≠[]) (hl:l.length≤9):atoiAll l=.ok ((decV l:Nat):Int):=by
 match l,h0 with
 | c::r,_ =>
  have h' :=h;simp only [List.all_cons,Bool.and_eq_true] at h';have hc:48≤c.toNat∧c.toNat≤57:=by simpa [dB] using h'.1
  have hlt:=decF_lt (c::r) h;have hp:(10:Nat)^(c::r).length≤10^9:=Nat.pow_le_pow_right (by decide) hl;have hu:=uint_digits (c::r) 0 h (by rw [Nat.zero_mul,Nat.zero_add];omega);unfold atoiAll;have h1:¬(c.toNat=43∨c.toNat=45):=by omega
  simp only [if_neg h1,parseMag];rw [if_neg (by simp),hu];have h2:¬c.toNat=45:=by omega
  have h3:decF 0 (c::r)<10^9:=by omega
  simp only [h2,not_false_eq_true,true_and,false_and,if_false];rw [if_neg (by omega)]
  rfl
end Go.Proofs.YtabfjecegpaoaaaGreatDoor
namespace Go.Proofs.YtabfjecegpaoaaaGreatDoor
open Go.RowKit Go.Shelf
open Dgt
theorem below_bytes (w:World) (e:TypeId) (s:ByteArray):Below w.heap.size w (Lib.bytesWorld w e s):=by
 unfold Lib.bytesWorld;exact Lib.below_freeze ((Below.refl _ w).drew.alloc (Nat.le_refl _) _) (Nat.le_refl _) _
set_option maxRecDepth 100000 in
theorem other_any (x:Nat) (hx:x≤1114111) (w:World):Gv 112 #[.int .i32 (x:Int)] w (.bool (notD x)):=by
 unfold Gv
 by_cases h1:x<48
 ·have hE:Hid (notD x=true):=hD (by simp [notD,h1]);have h1' :(x:Int)<48:=by omega
  clear h1;go_enter Tryz.func112,Tryz.ntmps112;go_wp2_with fail;go_ret;exact ⟨by rw [hE.out];rfl,Below.refl _ _⟩
 ·have h1' :¬(x:Int)<48:=by omega
  by_cases h2:57<x
  ·have hE:Hid (notD x=true):=hD (by simp [notD,h2]);have h2' :57<(x:Int):=by omega
   clear h1 h2;go_enter Tryz.func112,Tryz.ntmps112;go_wp2_with fail;go_ret;exact ⟨by rw [hE.out];rfl,Below.refl _ _⟩
  ·have hE:Hid (notD x=false):=hD (by simp [notD];omega);have h2' :¬57<(x:Int):=by omega
   clear h1 h2;go_enter Tryz.func112,Tryz.ntmps112;go_wp2_with fail;go_ret;exact ⟨by rw [hE.out];rfl,Below.refl _ _⟩
theorem pred_any (w:World):PredGrows Tryz.prog 112 #[] notD w:=fun W x hx _=>other_any x hx W
theorem contains_any (s:ByteArray) (w:World) :
  Gv 111 #[.string s,.func (.func 112) #[] #[]] w (.bool (!(s.data.toList.all dB))):=by
 unfold Gv;have h:=Tryz.strings_ContainsFunc_grows 112 #[] (enters_of Tryz.func112 (by kernel_rfl) rfl) notD s w (pred_any w);rw [has_other] at h;exact h
theorem ext_takeB (r:List UInt8) (k:Nat):(⟨r.toArray⟩:ByteArray).extract 0 k=⟨(r.take k).toArray⟩:=by
 apply ByteArray.ext
 rw [ByteArray.data_extract];simp
theorem ext_dropB (r:List UInt8) (k:Nat):(⟨r.toArray⟩:ByteArray).extract k r.length=⟨(r.drop k).toArray⟩:=by
 apply ByteArray.ext
 rw [ByteArray.data_extract];simp;exact List.take_of_length_le (by simp)
theorem part_val {V n:Nat} {r:List UInt8} (h:V=0∨n=9) (hn:(r.take n).length=n):V*1000000000+decV (r.take n)=decF V (r.take n):=by
 rw [decF_pow,hn];rcases h with rfl|rfl
 ·simp [decV]
 ·rfl
set_option maxRecDepth 100000 in
theorem Parse_any (s:ByteArray) (w:World) (hs:s.size≤100000) :
  Gv 76 #[.string s] w (.tuple #[.string (encS (parV s)),.bool (parB s)]):=by
 unfold Gv;obtain ⟨l,rfl⟩:∃l:List UInt8,s=⟨l.toArray⟩:=⟨s.data.toList,by simp⟩;have hsl:l.length≤100000:=hs;have hsl' :(l.length:Int)≤100000:=by omega
 have HCF:=hD (contains_any (⟨l.toArray⟩:ByteArray));have hdl:(⟨l.toArray⟩:ByteArray).data.toList=l:=by simp
 rw [hdl] at HCF;have HOK:=hD (show parB ⟨l.toArray⟩=okP l from by unfold parB;rw [hdl]);have HPV:=hD (show parV ⟨l.toArray⟩=if okP l=true then decV l else 0 from by unfold parV;rw [hdl]);rcases l with _|⟨c,r⟩
 ·have hE1:Hid (parV ⟨([]:List UInt8).toArray⟩=0):=hD (by rw [HPV.out];rfl);have hE2:Hid (parB ⟨([]:List UInt8).toArray⟩=false):=hD (by rw [HOK.out];rfl);clear hs hsl hsl' hdl;go_enter Tryz.func76,Tryz.ntmps76;go_wp2_with fail;go_ret2;exact ⟨by rw [hE1.out,hE2.out,encS_zero];rfl,Below.refl _ _⟩
 ·have hl0:0<(⟨(c::r).toArray⟩:ByteArray).size:=Nat.succ_pos _;have hget:((⟨(c::r).toArray⟩:ByteArray)[0]'hl0)=c:=rfl;have hne:(⟨(c::r).toArray⟩:ByteArray).toList.isEmpty=false:=by rw [ByteArray.toList_eq];rfl
  have hsz:(⟨(c::r).toArray⟩:ByteArray).size=r.length+1:=rfl;obtain ⟨S,hS⟩:∃S:ByteArray,S=⟨(c::r).toArray⟩:=⟨_,rfl⟩;rw [←hS] at HCF HOK HPV hne hs hsz ⊢;clear hget hl0;have hl0:0<S.size:=by omega
  have hget:S[0]'hl0=c:=by subst hS;rfl
  have HS:=hD hS;obtain ⟨x,hx⟩:∃x,c.toNat=x:=⟨_,rfl⟩;obtain ⟨n,hn⟩:∃n:Nat,S.size=n:=⟨_,rfl⟩;have hrn:n=r.length+1:=by omega
  have hn9:(n:Int)≤100000:=by omega
  have hgx:(((S[0]'hl0).toNat:Nat):Int)=(x:Int):=by rw [hget,hx]
  have HX:=hD hx;have HN:=hD hn
  by_cases hz:1<n∧x=48
  ·have hE0:okP (c::r)=false:=by
    have h1:c=48:=UInt8.toNat_inj.1 (by rw [hx,hz.2];rfl);subst h1;have:1<r.length+1:=by omega
    have h2:decide (1<((48:UInt8)::r).length)=true:=by rw [decide_eq_true_eq];exact this
    simp only [okP,h2]
    rfl
   have hE1:Hid (parV S=0):=hD (by rw [HPV.out,hE0];rfl);have hE2:Hid (parB S=false):=hD (by rw [HOK.out,hE0]);have hb1:decide (1<(S.size:Int))=true:=by simp;omega
   have hxb:((((S[0]'hl0).toNat:Nat):Int)==48)=true:=by rw [beq_iff_eq];omega
   clear hs hsl hsl' hdl hz hx hn hE0 hget hgx hsz hrn hn9 hS;go_enter Tryz.func76,Tryz.ntmps76;go_wp2_with fail;go_ret2;exact ⟨by rw [hE1.out,hE2.out,encS_zero];rfl,Below.refl _ _⟩
  ·obtain ⟨bA,hbA⟩:∃bA:Bool,decide (1<(S.size:Int))=bA:=⟨_,rfl⟩;obtain ⟨bB,hbB⟩:∃bB:Bool,((((S[0]'hl0).toNat:Nat):Int)==48)=bB:=⟨_,rfl⟩;have hAB:(bA&&bB)=false:=by
    rw [←hbA, ←hbB]
    by_cases h1:1<n
    ·have:¬(x=48):=fun h=>hz ⟨h1,h⟩
     have:((((S[0]'hl0).toNat:Nat):Int)==48)=false:=by rw [beq_eq_false_iff_ne];omega
     rw [this,Bool.and_false]
    ·have:decide (1<(S.size:Int))=false:=by simp;omega
     rw [this,Bool.false_and]
   have HOK2:Hid (okP (c::r)=(c::r).all dB):=hD (by
    have h1:(decide (1<(c::r).length)&&((c::r).headD 0==48))=false:=by
     by_cases h1:1<n
     ·have h2:¬c=48:=fun h=>hz ⟨h1,by rw [←hx,h];rfl⟩
      simp [h2]
     ·have:¬1<(c::r).length:=by have e:(c::r).length=r.length+1:=rfl;omega
      simp only [this,decide_false,Bool.false_and]
    simp only [okP,h1,List.isEmpty_cons,Bool.not_false,Bool.true_and])
   have HSL:Hid (r.length<100000):=hD (by have h1:S.size≤100000:=hs;have h2:S.size=r.length+1:=hsz;omega);obtain ⟨bC,hbC⟩:∃bC:Bool,(c::r).all dB=bC:=⟨_,rfl⟩;rw [hbC] at HCF HOK2;have HBC:=hD hbC;clear hs hsl hsl' hdl hz hx hn hget hgx hsz hrn hn9 hbC hS;go_enter Tryz.func76,Tryz.ntmps76;cases bC
   ·have hE1:Hid (parV S=0):=hD (by rw [HPV.out,HOK2.out];rfl);have hE2:Hid (parB S=false):=hD (by rw [HOK.out,HOK2.out]);cases bA<;>cases bB
    all_goals first|cases hAB|skip
    all_goals
     go_wp2_with fail;refine (HCF.out _).mono ?_;rintro e w1 ⟨rfl,hb⟩;have HB:=hD hb;clear hb;go_wp2_with fail;go_ret2;exact ⟨by rw [hE1.out,hE2.out,encS_zero];rfl,HB.out⟩
   ·have hE1:Hid (parV S=decV (c::r)):=hD (by rw [HPV.out,HOK2.out];rfl);have hE2:Hid (parB S=true):=hD (by rw [HOK.out,HOK2.out]);cases bA<;>cases bB
    all_goals first|cases hAB|skip
    all_goals
     go_wp2_with fail;refine (HCF.out _).mono ?_;rintro e w1 ⟨rfl,hb⟩;have HB:=hD hb;clear hb;go_wp2_with fail
     go_loopw [0,4] (fun s v wr=>∃(q:List UInt8) (V:Nat),s=.string ⟨q.toArray⟩∧Hid (q.all dB=true)∧Hid (decF V q=decV (c::r))∧Hid (V=0∨q.length%9=0)∧Hid (Lim wr v (digs 4294967296 V))∧Hid (q.length≤100000)∧Hid (Below w.heap.size w wr)) (fun s _ _=>strLen s)
     case atStart=>exact ⟨c::r,0,by rw [HS.out],HBC,hD rfl,hD (.inl rfl),hD (by rw [digs_zero];exact LimK.nil_ _ _ _),hD HSL.out,HB⟩
     case round =>
      obtain ⟨q,V,rfl,HQ,HDV,HV9,HLV,HQL,HBW⟩:=hrel;have hVD:V≤decV (c::r):=by
       rw [←HDV.out,decF_pow];exact Nat.le_trans (Nat.le_mul_of_pos_right V (Nat.pow_pos (by decide))) (Nat.le_add_right _ _)
      have HLN:Hid ((digs 4294967296 V).length≤100000):=hD (by
       have h1:=decF_lt (c::r) HBC.out;have h2:decV (c::r)<4294967296^(c::r).length:=Nat.lt_of_lt_of_le h1 (Nat.pow_le_pow_left (by decide) _);exact Nat.le_trans (digs_len_le (by decide) (Nat.lt_of_le_of_lt hVD h2)) HSL.out)
      clear hVD;rcases q with _|⟨d,q'⟩
      ·have hne:(⟨#[]⟩:ByteArray).toList.isEmpty=true:=by rw [ByteArray.toList_eq];rfl
       have HR:Hid (V=decV (c::r)):=hD (by rw [←HDV.out,decF_nil]);go_wp2_with fail;refine (number_any _ _ _ HLV.out (by have:=HLN.out;omega)).mono ?_;rintro e w2 ⟨rfl,hb⟩;rw [valB_digs (by decide)];have HB2:=hD (HBW.out.trans (hb.mono HBW.out.size));clear hb;go_wp2_with fail;go_ret2;exact ⟨by rw [hE1.out,hE2.out,HR.out];rfl,HB2.out⟩
      ·obtain ⟨q,hq⟩:∃q,d::q' =q:=⟨_,rfl⟩;rw [hq] at HQ HDV HV9 HQL ⊢;have hq0:q≠[]:=by rw [←hq];simp
       obtain ⟨X,hX⟩:∃X:ByteArray,X=⟨q.toArray⟩:=⟨_,rfl⟩;have hne:X.toList.isEmpty=false:=by rw [hX,ByteArray.toList_eq, ←hq];rfl
       have hXs:X.size=q.length:=by rw [hX];rfl
       rw [←hX];obtain ⟨L,hL⟩:∃L,q.length=L:=⟨_,rfl⟩;rw [hL] at hXs;have hL0:0<L:=by rw [←hL];exact List.length_pos_iff.2 hq0
       have hL9:L≤100000:=by rw [←hL];exact HQL.out
       obtain ⟨m,hm⟩:∃m,L%9=m:=⟨_,rfl⟩;have hmod:(X.size:Int).tmod 9=(m:Int):=by rw [hXs, ←hm];exact (Int.ofNat_tmod L 9).symm
       obtain ⟨n,hn⟩:∃n:Nat,(if m=0 then 9 else m)=n:=⟨_,rfl⟩;have hnL:n≤L:=by rw [←hn];split<;>omega
       have hn0:0<n:=by rw [←hn];split<;>omega
       have hn9:n≤9:=by rw [←hn];split<;>omega
       have HMD:Hid ((L-n)%9=0∧(V=0∨n=9)):=hD (by
        constructor
        ·rw [←hn];split<;>omega
        ·rcases HV9.out with h|h
         ·exact .inl h
         ·rw [hL] at h;right;rw [←hn,if_pos (by omega)])
       have HT:Hid ((q.take n).length=n):=hD (by rw [List.length_take,hL];omega);have HAL:Hid ((q.take n).all dB=true∧(q.drop n).all dB=true):=hD (by
        have h:=HQ.out;rw [←List.take_append_drop n q,List.all_append,Bool.and_eq_true] at h;exact h)
       obtain ⟨p,hp⟩:∃p,decV (q.take n)=p:=⟨_,rfl⟩;have hp9:p<1000000000:=by
        have h1:=decF_lt (q.take n) HAL.out.1;have h2:(10:Nat)^(q.take n).length≤10^9:=Nat.pow_le_pow_right (by decide) (by rw [HT.out];exact hn9);rw [←hp];exact Nat.lt_of_lt_of_le h1 h2
       have HAT:Hid (Lib.atoiAll (X.extract 0 n).data.toList=.ok (p:Int)):=hD (by
        rw [hX,ext_takeB, ←hp];have e:(⟨(q.take n).toArray⟩:ByteArray).data.toList=q.take n:=by simp
        rw [e];exact atoi_digits HAL.out.1 (by intro h;have:=HT.out;rw [h] at this;simp at this;omega) (by rw [HT.out];exact hn9))
       have HXE2:Hid (X.extract n X.size=⟨(q.drop n).toArray⟩):=hD (by rw [hXs,hX, ←hL];exact ext_dropB q n);have HES:Hid ((X.extract 0 n).size≤9223372036854775806):=hD (by rw [ByteArray.size_extract];omega);have HVP:Hid (decF (V*1000000000+p) (q.drop n)=decV (c::r)):=hD (by
        rw [←hp,part_val HMD.out.2 HT.out, ←decF_append,List.take_append_drop,HDV.out])
       have HLX:=hD hL;have HN0:=hD hn0;have HNL:=hD hnL;have HL9:=hD hL9;have hmb:((m:Int)==0)=decide (m=0):=by
        by_cases h:m=0
        ·subst h;rfl
        ·rw [decide_eq_false h,beq_eq_false_iff_ne];omega
       have HP9:=hD hp9;have HXS:=hD hXs;have hnl1:(n:Int)≤(X.size:Int):=by omega
       have hn1:(n:Int)≤9:=by omega
       have hp1:(p:Int)<1000000000:=by omega
       have hwp:IntKind.u32.wrap (p:Int)=(p:Int):=by rw [IntKind.wrap_u32'];omega
       by_cases hm0:m=0
       ·rw [if_pos hm0] at hn;rw [decide_eq_true hm0] at hmb;clear hX hXs hq0 hL hL0 hL9 hm hnL hn0 hn9 hp hp9 hm0 hq HQ HDV HV9 HQL;subst hn;go_wp2_with fail;refine (Tryz.strconv_Atoi_ok _ HES.out _ HAT.out _).mono ?_;rintro e w2 ⟨rfl,hw2⟩;have hb2:Below wr.heap.size wr w2:=by
         rcases hw2 with rfl|⟨t,rfl⟩
         ·exact Below.refl _ _
         ·exact below_bytes _ _ _
        have HB2:=hD (HBW.out.trans (hb2.mono HBW.out.size));have hv:=HLV.out.up hb2;obtain ⟨pv,nv,cv,rfl,hnv,-⟩:=hv.open_;have H2:=hD hv;have hlp:(digs 4294967296 (V*1000000000)).length≤1000000000:=by
         have h1:V*1000000000<4294967296^((digs 4294967296 V).length+1):=by
          rw [Nat.pow_succ];have h2:=valB_lt (okB_digs (B:=4294967296) (by decide) V);rw [valB_digs (by decide)] at h2;exact Nat.mul_lt_mul_of_lt_of_le h2 (by decide) (by decide)
         exact Nat.le_trans (digs_len_le (by decide) h1) (by have:=HLN.out;omega)
        have hlq:(digs 4294967296 p).length≤1000000000:=Nat.le_trans (digs_len_le (k:=1) (by decide) (by have:=HP9.out;omega)) (by decide);have HLP:=hD hlp;have HLQ:=hD hlq;have HNV:=hD hnv;clear hw2 hb2 hv hlp hlq hnv;have HL1:=hD (lim_one w2 (r:=1000000000) (by decide));have H2:=hD (H2.out.up ((Below.refl _ w2).alloc (Nat.le_refl _) (.cells #[.int .u32 ((1000000000:Nat):Int)] 98)));have HB2:=hD (HB2.out.alloc HB2.out.size (.cells #[.int .u32 ((1000000000:Nat):Int)] 98));go_wp2_with fail;refine (product_any _ _ _ _ _ H2.out HL1.out (by have:=HLN.out;omega) (by decide)).mono ?_;rintro e w3 ⟨vp,rfl,hp,hb⟩;rw [valB_digs (by decide),valB_one] at hp;have HB3:=hD ((HB2.out.trans (hb.mono HB2.out.size)).alloc (Nat.le_trans HB2.out.size hb.size) (.cells #[.int .u32 (p:Int)] 98));have HP3:=hD (hp.up ((Below.refl _ w3).alloc (Nat.le_refl _) (.cells #[.int .u32 (p:Int)] 98)))
        have HLX1:=hD (lim_one w3 (r:=p) (by have:=HP9.out;omega));clear hb hp;go_wp2_with fail;refine (trim_any _ _ _ HLX1.out).mono ?_;rintro e w4 ⟨vr,rfl,hvr,rfl⟩;have hvr' :Lim (w3.alloc (.cells #[.int .u32 (p:Int)] 98)) vr (digs 4294967296 p):=by
         have e:trimL 4294967296 [p]=digs 4294967296 p:=by unfold trimL;rw [valB_one]
         rw [←e];exact hvr
        have HVR:=hD hvr';clear hvr hvr';go_wp2_with fail;refine (sum_any _ _ _ _ _ HP3.out HVR.out HLP.out HLQ.out).mono ?_;rintro e w5 ⟨vs,rfl,hs,hb⟩;rw [valB_digs (by decide),valB_digs (by decide)] at hs;have HS5:=hD hs;have HB5:=hD (HB3.out.trans (hb.mono HB3.out.size));clear hs hb;go_wp2_with fail
        go_roundw
        case rel=>exact ⟨q.drop 9,V*1000000000+p,by rw [HXE2.out],hD HAL.out.2,HVP,hD (by right;rw [List.length_drop,HLX.out];exact HMD.out.1),HS5,hD (by rw [List.length_drop,HLX.out];have:=HL9.out;omega),HB5⟩
        case measure =>
         rw [HXE2.out];have e1:∀l:List UInt8,strLen (.string ⟨l.toArray⟩)=l.length:=fun l=>rfl
         have e2:strLen (.string X)=L:=HXS.out;rw [e1,e2,List.length_drop,HLX.out];have:=HN0.out;have:=HNL.out;omega
       ·rw [if_neg hm0] at hn;subst hn;rw [decide_eq_false hm0] at hmb;clear hX hXs hq0 hL hL0 hL9 hm hnL hn0 hn9 hp hp9 hm0 hq HQ HDV HV9 HQL;go_wp2_with fail;refine (Tryz.strconv_Atoi_ok _ HES.out _ HAT.out _).mono ?_;rintro e w2 ⟨rfl,hw2⟩;have hb2:Below wr.heap.size wr w2:=by
         rcases hw2 with rfl|⟨t,rfl⟩
         ·exact Below.refl _ _
         ·exact below_bytes _ _ _
        have HB2:=hD (HBW.out.trans (hb2.mono HBW.out.size));have hv:=HLV.out.up hb2;obtain ⟨pv,nv,cv,rfl,hnv,-⟩:=hv.open_;have H2:=hD hv;have hlp:(digs 4294967296 (V*1000000000)).length≤1000000000:=by
         have h1:V*1000000000<4294967296^((digs 4294967296 V).length+1):=by
          rw [Nat.pow_succ];have h2:=valB_lt (okB_digs (B:=4294967296) (by decide) V);rw [valB_digs (by decide)] at h2;exact Nat.mul_lt_mul_of_lt_of_le h2 (by decide) (by decide)
         exact Nat.le_trans (digs_len_le (by decide) h1) (by have:=HLN.out;omega)
        have hlq:(digs 4294967296 p).length≤1000000000:=Nat.le_trans (digs_len_le (k:=1) (by decide) (by have:=HP9.out;omega)) (by decide);have HLP:=hD hlp;have HLQ:=hD hlq;have HNV:=hD hnv;clear hw2 hb2 hv hlp hlq hnv;have HL1:=hD (lim_one w2 (r:=1000000000) (by decide));have H2:=hD (H2.out.up ((Below.refl _ w2).alloc (Nat.le_refl _) (.cells #[.int .u32 ((1000000000:Nat):Int)] 98)));have HB2:=hD (HB2.out.alloc HB2.out.size (.cells #[.int .u32 ((1000000000:Nat):Int)] 98));go_wp2_with fail;refine (product_any _ _ _ _ _ H2.out HL1.out (by have:=HLN.out;omega) (by decide)).mono ?_;rintro e w3 ⟨vp,rfl,hp,hb⟩;rw [valB_digs (by decide),valB_one] at hp;have HB3:=hD ((HB2.out.trans (hb.mono HB2.out.size)).alloc (Nat.le_trans HB2.out.size hb.size) (.cells #[.int .u32 (p:Int)] 98));have HP3:=hD (hp.up ((Below.refl _ w3).alloc (Nat.le_refl _) (.cells #[.int .u32 (p:Int)] 98)))
        have HLX1:=hD (lim_one w3 (r:=p) (by have:=HP9.out;omega));clear hb hp;go_wp2_with fail;refine (trim_any _ _ _ HLX1.out).mono ?_;rintro e w4 ⟨vr,rfl,hvr,rfl⟩;have hvr' :Lim (w3.alloc (.cells #[.int .u32 (p:Int)] 98)) vr (digs 4294967296 p):=by
         have e:trimL 4294967296 [p]=digs 4294967296 p:=by unfold trimL;rw [valB_one]
         rw [←e];exact hvr
        have HVR:=hD hvr';clear hvr hvr';go_wp2_with fail;refine (sum_any _ _ _ _ _ HP3.out HVR.out HLP.out HLQ.out).mono ?_;rintro e w5 ⟨vs,rfl,hs,hb⟩;rw [valB_digs (by decide),valB_digs (by decide)] at hs;have HS5:=hD hs;have HB5:=hD (HB3.out.trans (hb.mono HB3.out.size));clear hs hb;go_wp2_with fail
        go_roundw
        case rel=>exact ⟨q.drop m,V*1000000000+p,by rw [HXE2.out],hD HAL.out.2,HVP,hD (by right;rw [List.length_drop,HLX.out];exact HMD.out.1),HS5,hD (by rw [List.length_drop,HLX.out];have:=HL9.out;omega),HB5⟩
        case measure =>
         rw [HXE2.out];have e1:∀l:List UInt8,strLen (.string ⟨l.toArray⟩)=l.length:=fun l=>rfl
         have e2:strLen (.string X)=L:=HXS.out;rw [e1,e2,List.length_drop,HLX.out];have:=HN0.out;have:=HNL.out;omega
end Go.Proofs.YtabfjecegpaoaaaGreatDoor
namespace Go.Proofs.YtabfjecegpaoaaaGreatDoor
open Go Go.Lib
end Go.Proofs.YtabfjecegpaoaaaGreatDoor
namespace Go.Proofs.YtabfjecegpaoaaaGreatDoor
open Go.RowKit Go.Shelf
open Dgt
end Go.Proofs.YtabfjecegpaoaaaGreatDoor
namespace Go.Proofs.YtabfjecegpaoaaaGreatDoor
open Go.RowKit Go.Shelf
open Dgt
end Go.Proofs.YtabfjecegpaoaaaGreatDoor
