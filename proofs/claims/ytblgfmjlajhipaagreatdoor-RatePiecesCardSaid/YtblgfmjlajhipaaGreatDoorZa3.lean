/- Contracts that the proofs of this seat share. Each theorem names its conditions. -/
import Derived.Test.YtblgfmjlajhipaaGreatDoorProg
import Derived.WalkKit
import Derived.WalkSpells
import Derived.WalkLawsBesides
import Derived.IntWalk
import Derived.Lib.Hide
import Derived.Laws.BitsAllLaws
import Derived.StillTailTactics
import Derived.Deep.OwnRows
import Derived.Lib.ConvBytes
import Derived.BigQuiet
import Derived.Deep.QuietTactic
import Derived.Test.YtblgfmjlajhipaaGreatDoorZa0
import Derived.Test.YtblgfmjlajhipaaGreatDoorZa1
import Derived.Test.YtblgfmjlajhipaaGreatDoorZa2
set_option maxHeartbeats 16000000
set_option linter.unusedVariables false
namespace Go.Proofs.YtblgfmjlajhipaaGreatDoor
open Go.RowKit Go.Shelf
open Dgt
theorem clU {A W:World} {g k:Nat} (hb:Below A.heap.size A W) (h:g<A.heap.size):W.cell? ⟨g,k,none⟩=A.cell? ⟨g,k,none⟩:=World.cell?_of_block (hb.block g h)
theorem hpU {A W:World} {g:Nat} {o:Obj} (hb:Below A.heap.size A W) (h:A.heap[g]? =some o):W.heap[g]? =some o:=(hb.block g (Array.getElem?_eq_some_iff.1 h).1).trans h
def LimK (kd:IntKind) (B:Nat) (W:World) (v:Value) (l:List Nat):Prop :=
 okB B l∧∃p cap,v=.slice p l.length cap∧l.length≤cap∧cap≤9223372036854775807∧∀i (h:i<l.length),∃g off,p=some ⟨g,off,none⟩∧g<W.heap.size∧W.cell? ⟨g,off+i,none⟩=some (.int kd (l[i]:Int))
abbrev Lim (W:World) (v:Value) (l:List Nat):Prop:=LimK .u32 4294967296 W v l
theorem LimK.up {kd:IntKind} {B:Nat} {A W:World} {v:Value} {l:List Nat} (h:LimK kd B A v l) (hb:Below A.heap.size A W):LimK kd B W v l:=by
 obtain ⟨ho,p,cap,h1,h2,h3,h4⟩:=h
 refine ⟨ho,p,cap,h1,h2,h3,fun i hi=> ?_⟩
 obtain ⟨g,off,e1,e2,e3⟩:=h4 i hi
 exact ⟨g,off,e1,Nat.lt_of_lt_of_le e2 hb.size,by rw [clU hb e2];exact e3⟩
theorem LimK.nil_ (kd:IntKind) (B:Nat) (W:World):LimK kd B W (.slice none 0 0) []:=⟨okB_nil B,none,0,rfl,Nat.le_refl _,by omega,fun i h=>absurd h (by simp)⟩
theorem LimK.block {kd:IntKind} {B:Nat} {W:World} {g cap:Nat} {t:TypeId} {l:List Nat} (ho:okB B l) {cs:Array Value} (hb:W.heap[g]? =some (.cells cs t (0,0))) (hc:∀i (h:i<l.length),cs[i]? =some (.int kd (l[i]:Int))) (h1:l.length≤cap) (h2:cap≤9223372036854775807):LimK kd B W (.slice (some ⟨g,0,none⟩) l.length cap) l :=
 ⟨ho,_,cap,rfl,h1,h2,fun i hi=>⟨g,0,rfl,(Array.getElem?_eq_some_iff.1 hb).1,by rw [Lib.cell_of_heap hb,Nat.zero_add];exact hc i hi⟩⟩
theorem LimK.take {kd:IntKind} {B:Nat} {W:World} {p:Option Addr} {n cap:Nat} {l:List Nat} (h:LimK kd B W (.slice p n cap) l) {k:Nat} (hk:k≤n):LimK kd B W (.slice p k cap) (l.take k):=by
 obtain ⟨ho,p',cap',e,h1,h2,h3⟩:=h
 injection e with e1 e2 e3
 subst e1;subst e2;subst e3
 have hl:(l.take k).length=k:=by rw [List.length_take,Nat.min_eq_left hk]
 refine ⟨ho.take k,p,cap,by rw [hl],by omega,h2,fun i hi=> ?_⟩
 rw [hl] at hi
 obtain ⟨g,off,a,b,c⟩:=h3 i (by omega)
 exact ⟨g,off,a,b,by rw [List.getElem_take];exact c⟩
theorem LimK.len {kd:IntKind} {B:Nat} {W:World} {p:Option Addr} {n cap:Nat} {l:List Nat} (h:LimK kd B W (.slice p n cap) l):n=l.length∧n≤cap∧cap≤9223372036854775807:=by
 obtain ⟨ho,p',cap',e,h1,h2,h3⟩:=h
 injection e with e1 e2 e3
 subst e2;subst e3
 exact ⟨rfl,h1,h2⟩
theorem LimK.open_ {kd:IntKind} {B:Nat} {W:World} {v:Value} {l:List Nat} (h:LimK kd B W v l):∃p n cap,v=.slice p n cap∧n=l.length∧n≤cap∧cap≤9223372036854775807:=by
 obtain ⟨ho,p',cap',e,h1,h2,h3⟩:=h
 exact ⟨_,_,_,e,rfl,h1,h2⟩
theorem LimK.cell {kd:IntKind} {B:Nat} {W:World} {p:Option Addr} {n cap:Nat} {l:List Nat} (h:LimK kd B W (.slice p n cap) l) {i:Nat} (hi:i<l.length):∃g off,p=some ⟨g,off,none⟩∧g<W.heap.size∧W.cell? ⟨g,off+i,none⟩=some (.int kd (l[i]:Int)):=by
 obtain ⟨ho,p',cap',e,h1,h2,h3⟩:=h
 injection e with e1 e2 e3
 subst e1
 exact h3 i hi
theorem LimK.ok {kd:IntKind} {B:Nat} {W:World} {v:Value} {l:List Nat} (h:LimK kd B W v l):okB B l:=h.1
def slen:Value→Nat
 | .slice _ k _=>k
 | _=>0
theorem trim_at (p:Option Addr) (n cap:Nat) (l:List Nat) (w:World) (hl:Lim w (.slice p n cap) l) :
  Calls Tryz.prog 133 #[.slice p n cap] w fun e w' =>∃k,e=.returned (.slice p k cap)∧Lim w' (.slice p k cap) (trimL 4294967296 l)∧w=w' :=by
 obtain ⟨hn,hc,hcm⟩:=hl.len
 have HL:=Lib.hid hl
 have HN:=Lib.hid hn
 clear hl hn
 go_enter Tryz.func133,Tryz.ntmps133
 go_wp2_with fail
 go_loop [0] (fun s=>∃k:Nat,k≤n∧s=.slice p k cap∧Hid (trimL 4294967296 (l.take k)=trimL 4294967296 l)) (fun s=>slen s)
 case atStart=>exact ⟨n,Nat.le_refl _,rfl,Lib.hid (by rw [HN.out,List.take_length])⟩
 case round =>
  obtain ⟨k,hk,rfl,HT⟩:=hrel
  rcases k with _|j
  ·go_wp2_with fail
   go_ret
   exact ⟨_,rfl,by rw [←HT.out,List.take_zero,trimL_self (by decide) (okB_nil _) nzL_nil];exact HL.out.take hk,rfl⟩
  ·have hj:j<l.length:=by have:=HN.out;omega
   obtain ⟨g,off,hp,hg,h1⟩:=HL.out.cell hj
   have HO:=Lib.hid (HL.out.ok.get hj)
   obtain ⟨x,hx⟩:∃x,l[j]=x:=⟨_,rfl⟩
   rw [hx] at h1 HO
   subst hp
   have HX:=Lib.hid hx
   clear hx
   have hj2:(j:Int)≤9223372036854775807:=by omega
   by_cases h0:x=0
   ·subst h0
    have HS:Hid (trimL 4294967296 (l.take j)=trimL 4294967296 l):=Lib.hid (by
     rw [←HT.out,List.take_succ_eq_append_getElem hj,HX.out,trimL_zero])
    go_wp2_with fail
    go_round
    case rel=>exact ⟨j,by omega,rfl,HS⟩
    case measure=>simp [slen]
   ·have HS:Hid (trimL 4294967296 l=l.take (j+1)):=Lib.hid (by
     rw [←HT.out]
     refine trimL_self (by decide) (HL.out.ok.take _) fun hne=> ?_
     have e:l.take (j+1)=l.take j++[x]:=by rw [List.take_succ_eq_append_getElem hj,HX.out]
     simp only [e,List.getLast_append,List.isEmpty_cons]
     simpa using h0)
    have hx0:¬((x:Int)=0):=by omega
    go_wp2_with fail
    go_ret
    exact ⟨_,rfl,by rw [HS.out];exact HL.out.take hk,rfl⟩
theorem trim_any (v:Value) (l:List Nat) (w:World) (hl:Lim w v l) :
  Calls Tryz.prog 133 #[v] w fun e w' =>∃v',e=.returned v' ∧Lim w' v' (trimL 4294967296 l)∧w=w' :=by
 obtain ⟨p,n,cap,rfl,hn,hc,hcm⟩:=hl.open_
 exact (trim_at p n cap l w hl).mono fun e w' ⟨k,h1,h2,h3⟩=>⟨_,h1,h2,h3⟩
end Go.Proofs.YtblgfmjlajhipaaGreatDoor
namespace Go.Proofs.YtblgfmjlajhipaaGreatDoor
open Go.RowKit Go.Shelf
open Dgt
def revB (s:ByteArray):List Nat:=(s.data.toList.map UInt8.toNat).reverse
def numS (s:ByteArray):Nat:=valB 256 (revB s)
theorem revB_len (s:ByteArray):(revB s).length=s.size:=by simp [revB]
theorem revB_ok (s:ByteArray):okB 256 (revB s):=by
 intro x hx
 simp only [revB,List.mem_reverse,List.mem_map] at hx
 obtain ⟨b,-,rfl⟩:=hx
 exact b.toNat_lt
theorem revB_get (s:ByteArray) {k:Nat} (h:k<s.size):(revB s)[k]'(by rw [revB_len];exact h)=(s[s.size-1-k]'(by omega)).toNat:=by
 simp only [revB,List.getElem_reverse,List.getElem_map,List.length_map,Array.length_toList]
 rfl
def cellsK (kd:IntKind) (l:List Nat):Array Value:=(l.map fun x:Nat=>Value.int kd (x:Int)).toArray
theorem cellsK_get {kd:IntKind} {l:List Nat} {i:Nat} (h:i<l.length):(cellsK kd l)[i]? =some (.int kd (l[i]:Int)):=by simp [cellsK,h]
theorem cellsK_set (kd:IntKind) (l:List Nat) (i x:Nat):(cellsK kd l).setIfInBounds i (.int kd (x:Int))=cellsK kd (l.set i x):=by
 unfold cellsK
 rw [List.map_set]
 simp
theorem set_block {W:World} {g i x:Nat} {kd:IntKind} {t:TypeId} {l:List Nat} (h:W.heap[g]? =some (.cells (cellsK kd l) t (0,0))):(W.setCell ⟨g,i,none⟩ (.int kd (x:Int))).heap[g]? =some (.cells (cellsK kd (l.set i x)) t (0,0)):=by
 rw [heap_self h,cellsK_set]
theorem cellsK_zeros (kd:IntKind) (n:Nat):cellsK kd (List.replicate n 0)=Array.replicate n (.int kd 0):=by
 simp [cellsK]
theorem of_step {r:List Nat} (hr:okB 256 r) {n k:Nat} (hk:k<r.length) (hn:r.length≤4*n) :
  ∃x,(fixd 4294967296 n (valB 256 (r.take k)))[k/4]? =some x∧x<256^(k%4)∧(fixd 4294967296 n (valB 256 (r.take k))).set (k/4) (x+r[k]*2^(8*(k%4)))=fixd 4294967296 n (valB 256 (r.take (k+1)))∧x+r[k]*2^(8*(k%4))<4294967296:=by
 have hj:k/4<n:=by omega
 have hl:(fixd 4294967296 n (valB 256 (r.take k))).length=n:=fixd_len _ _ _
 have hlt:valB 256 (r.take k)<256^k:=by
  have:=valB_lt (hr.take k)
  rwa [List.length_take,Nat.min_eq_left (Nat.le_of_lt hk)] at this
 have e32:∀j:Nat,(4294967296:Nat)^j=256^(4*j):=fun j=>by rw [Nat.pow_mul]
 have ek:(256:Nat)^k=4294967296^(k/4)*256^(k%4):=by rw [e32, ←Nat.pow_add];congr 1;omega
 have hdiv:valB 256 (r.take k)/4294967296^(k/4)<256^(k%4):=by
  rw [Nat.div_lt_iff_lt_mul (Nat.pow_pos (by decide)),Nat.mul_comm, ←ek];exact hlt
 have h4:(256:Nat)^(k%4)≤16777216:=by
  have:k%4≤3:=by omega
  calc (256:Nat)^(k%4)≤256^3:=Nat.pow_le_pow_right (by decide) this
   _=16777216:=by decide
 have hmod:valB 256 (r.take k)/4294967296^(k/4)%4294967296=valB 256 (r.take k)/4294967296^(k/4):=Nat.mod_eq_of_lt (by omega)
 have hg:(fixd 4294967296 n (valB 256 (r.take k)))[k/4]'(by omega)=valB 256 (r.take k)/4294967296^(k/4):=by rw [fixd_get,hmod]
 have hb:r[k]<256:=hr.get hk
 have p8:(2:Nat)^(8*(k%4))=256^(k%4):=by rw [Nat.pow_mul]
 have hx:valB 256 (r.take k)/4294967296^(k/4)+r[k]*256^(k%4)<4294967296:=by
  have h5:r[k]*256^(k%4)+256^(k%4)≤256*256^(k%4):=by
   rw [←Nat.succ_mul];exact Nat.mul_le_mul_right _ hb
  have h6:256*256^(k%4)≤256*16777216:=Nat.mul_le_mul_left _ h4
  omega
 refine ⟨_,by rw [List.getElem?_eq_getElem (by omega),hg],hdiv,?_,by rw [p8];exact hx⟩
 rw [p8]
 apply valB_inj ((fixd_ok (by decide) _ _).set hx) (fixd_ok (by decide) _ _) (by simp [fixd_len])
 have hv1:valB 256 (r.take k)<4294967296^n:=by
  rw [e32];exact Nat.lt_of_lt_of_le hlt (Nat.pow_le_pow_right (by decide) (by omega))
 have hv2:valB 256 (r.take (k+1))<4294967296^n:=by
  have:=valB_lt (hr.take (k+1))
  rw [List.length_take,Nat.min_eq_left (by omega)] at this
  rw [e32];exact Nat.lt_of_lt_of_le this (Nat.pow_le_pow_right (by decide) (by omega))
 have hs:=valB_set (B:=4294967296) (l:=fixd 4294967296 n (valB 256 (r.take k))) (k:=k/4) (valB 256 (r.take k)/4294967296^(k/4)+r[k]*256^(k%4)) (by omega)
 rw [hg,valB_fixd _ _ hv1,Nat.mul_add] at hs
 rw [valB_fixd _ _ hv2,valB_take_succ hk]
 have e:(256:Nat)^k*r[k]=4294967296^(k/4)*(r[k]*256^(k%4)):=by
  rw [ek,Nat.mul_assoc,Nat.mul_comm (256^(k%4))]
 rw [e]
 omega
theorem shl_join {x b s:Nat} (h:x<2^s):x ||| b*2^s=x+b*2^s:=by
 rw [Nat.or_comm,Nat.add_comm, ←Nat.shiftLeft_eq]
 exact (Nat.shiftLeft_add_eq_or_of_lt h b).symm
theorem infoU32:(Tryz.prog.info? 133).map (fun i=>(i.zero,i.size,i.bytes))=some (some (.int .u32 0),1,4):=by kernel_rfl
theorem infoU8:(Tryz.prog.info? 5).map (fun i=>(i.zero,i.size,i.bytes))=some (some (.int .u8 0),1,1):=by kernel_rfl
theorem madeCells_rep (z:Value) (n:Nat):madeCells #[z] n=Array.replicate n z:=by
 apply Array.ext
 ·simp [madeCells]
 ·intro i h1 h2
  simp [madeCells]
  rw [Nat.mod_one];rfl
theorem mk_limbs (n:Nat) (x:Int) (hx:x=n) (hn:n≤10000000000) (W:World):(Instr.makeSlice 130 (.int .i64 x) (.int .i64 x)).run Tryz.prog W =
  .ok (.slice (some ⟨W.heap.size,0,none⟩) n n) (W.alloc (.cells (cellsK .u32 (List.replicate n 0)) 133)):=by
 subst hx
 rw [run_make_row' 130 133 (.int .u32 0) 4 Tryz.underlying130 infoU32 rfl _ _ n (by omega) (by omega) W,madeCells_rep,cellsK_zeros]
theorem mk_bytes (n:Nat) (x:Int) (hx:x=n) (hn:n≤10000000000) (W:World):(Instr.makeSlice 106 (.int .i64 x) (.int .i64 x)).run Tryz.prog W =
  .ok (.slice (some ⟨W.heap.size,0,none⟩) n n) (W.alloc (.cells (cellsK .u8 (List.replicate n 0)) 5)):=by
 subst hx
 rw [run_make_row' 106 5 (.int .u8 0) 1 Tryz.underlying106 infoU8 rfl _ _ n (by omega) (by omega) W,madeCells_rep,cellsK_zeros]
theorem fixd_zero (B:Nat):∀n,fixd B n 0=List.replicate n 0
 | 0=>rfl
 | n+1=>by simp [fixd,fixd_zero B n,List.replicate_succ]
set_option maxRecDepth 100000 in
theorem of_any (a:ByteArray) (w:World) (ha:a.size≤1000000000) :
  Calls Tryz.prog 122 #[.string a] w fun e w' =>∃v',e=.returned v' ∧Lim w' v' (digs 4294967296 (numS a))∧Below w.heap.size w w' :=by
 obtain ⟨n,hn⟩:∃n,(a.size+3)/4=n:=⟨_,rfl⟩
 have hn4:a.size≤4*n:=by omega
 have hn1:n≤1000000000:=by omega
 have hmk:=mk_limbs n (((a.size:Int)+4-1)/4) (by omega) (by omega)
 have HN:=Lib.hid hn
 clear hn
 go_enter Tryz.func122,Tryz.ntmps122
 go_wp2_with fail
 clear hmk
 have HB:=Lib.hid ((Below.refl w.heap.size w).alloc (Nat.le_refl _) (.cells (cellsK .u32 (List.replicate n 0)) 133))
 have HK:=Lib.hid (heap_alloc_new w (.cells (cellsK .u32 (List.replicate n 0)) 133))
 obtain ⟨w0,hw0⟩:∃w0,w.alloc (.cells (cellsK .u32 (List.replicate n 0)) 133)=w0:=⟨_,rfl⟩
 rw [hw0] at HB HK ⊢
 obtain ⟨g,hg⟩:∃g,w.heap.size=g:=⟨_,rfl⟩
 have hgw:w.heap.size≤g:=Nat.le_of_eq hg
 rw [hg] at HK ⊢
 have HG:=Lib.hid hg
 clear hw0 hg
 go_loopw [13,4] (fun i _ wr=>∃k:Nat,k≤a.size∧i=.int .i64 (k:Int)∧Hid (wr.heap[g]? =some (.cells (cellsK .u32 (fixd 4294967296 n (valB 256 ((revB a).take k)))) 133 (0,0)))∧Hid (Below w.heap.size w wr)) (fun i _ _=>a.size-(intOf i).toNat)
 case atStart=>exact ⟨0,by omega,rfl,Lib.hid (by rw [List.take_zero,valB,fixd_zero];exact HK.out),HB⟩
 case round =>
  obtain ⟨k,hk,rfl,HC,HBW⟩:=hrel
  by_cases hlt:k<a.size
  ·have hlt' :(k:Int)<(a.size:Int):=by omega
   obtain ⟨x,e1,e2,e3,e4⟩:=of_step (revB_ok a) (n:=n) (k:=k) (by rw [revB_len];exact hlt) (by rw [revB_len];exact hn4)
   obtain ⟨b,hb⟩:∃b:Nat,(revB a)[k]'(by rw [revB_len];exact hlt)=b:=⟨_,rfl⟩
   have hbb:b<256:=by rw [←hb];exact (revB_ok a).get _
   obtain ⟨ix,hix⟩:∃ix,a.size-1-k=ix:=⟨_,rfl⟩
   have hixl:ix<a.size:=by omega
   have hb2:(a[ix]'hixl).toNat=b:=by rw [←hb,revB_get a hlt];simp only [hix]
   obtain ⟨j,hj⟩:∃j,k/4=j:=⟨_,rfl⟩
   obtain ⟨m,hm⟩:∃m,k%4=m:=⟨_,rfl⟩
   rw [hj] at e1 e3
   rw [hm] at e2 e3 e4
   rw [hb] at e3 e4
   have hjn:j<n:=by omega
   have hm4:m<4:=by omega
   have hcell:wr.cell? ⟨g,j,none⟩=some (.int .u32 (x:Int)):=by rw [Lib.cell_of_heap HC.out];simp [cellsK,e1]
   have hfr:wr.frozen? ⟨g,j,none⟩=false:=Lib.frozen_of_heap HC.out _
   have q1:IntKind.i64.wrap ((k:Int)/4)=(j:Int):=by rw [IntWalk.i64_in _ (by omega)];omega
   have q2:IntKind.i64.wrap ((a.size:Int)-1)=(a.size:Int)-1:=IntWalk.i64_in _ (by omega)
   have q3:IntKind.i64.wrap ((a.size:Int)-1-(k:Int))=(ix:Int):=by rw [IntWalk.i64_in _ (by omega)];omega
   have q4:(k:Int).tmod 4=(m:Int):=by rw [Int.tmod_eq_emod_of_nonneg (by omega)];omega
   obtain ⟨sh,hsh⟩:∃sh,8*m=sh:=⟨_,rfl⟩
   have hsh2:sh≤32:=by omega
   have q5:IntKind.i64.wrap (8*(m:Int))=(sh:Int):=by rw [IntWalk.i64_in _ (by omega)];omega
   have q6:IntKind.u32.wrap (b:Int)=(b:Int):=by rw [IntKind.wrap_u32'];omega
   rw [hsh] at e3 e4
   have e2' :x<2^sh:=by rw [←hsh,Nat.pow_mul];exact e2
   have e5:=shl_join (b:=b) e2'
   obtain ⟨y,hy⟩:∃y,b*2^sh=y:=⟨_,rfl⟩
   have q7:IntKind.u32.wrap ((b:Int)*2^sh)=(y:Int):=by
    have e:(b:Int)*2^sh=(y:Int):=by rw [←hy];simp
    rw [e,IntKind.wrap_u32'];rw [hy] at e4;omega
   rw [hy] at e3 e4 e5
   obtain ⟨z,hz⟩:∃z,x+y=z:=⟨_,rfl⟩
   have q8:bits .or .u32 (x:Int) (y:Int)=(z:Int):=by rw [u32_or_nat _ _ (by omega) (by omega),e5,hz]
   rw [hz] at e3 e4
   have E3:=Lib.hid e3;have E4:=Lib.hid e4;have E2:=Lib.hid e2
   have HJ:=Lib.hid hj;have HM:=Lib.hid hm;have HI:=Lib.hid hix
   clear hb e1 e2 e3 e4 hj hm hix e2' e5 hy hz hsh
   go_wp2_with fail
   refine wp_region_still_tail 19 (by kernel_rfl) (by kernel_rfl) ?_
   simp only [List.take_succ_cons,List.take_zero,List.drop_succ_cons,List.drop_zero]
   iterate 19 still_step
   refine wpStill_nil ?_
   clear q1 q2 q3 q4 q5 q6 q7 q8
   change wpList _ _ _ _ _ wr.drew
   go_wp2_with fail
   go_roundw
   case rel=>exact ⟨k+1,by omega,by go_num,Lib.hid (by rw [←E3.out];exact set_block HC.out),Lib.hid (HBW.out.setCell (p:=⟨g,j,none⟩) hgw _).drew⟩
   case measure=>simp [intOf];omega
  ·have hge:(a.size:Int)≤(k:Int):=by omega
   obtain rfl:k=a.size:=by omega
   have HL:Hid (Lim wr (.slice (some ⟨g,0,none⟩) n n) (fixd 4294967296 n (numS a))):=Lib.hid (by
    have h:=LimK.block (kd:=.u32) (B:=4294967296) (W:=wr) (g:=g) (cap:=n) (l:=fixd 4294967296 n (numS a)) (fixd_ok (by decide) _ _) (by rw [numS, ←List.take_length (l:=revB a),revB_len];exact HC.out) (fun i h=>cellsK_get h) (by rw [fixd_len];omega) (by omega)
    rwa [fixd_len] at h)
   go_wp2_with fail
   refine (trim_any _ _ _ HL.out).mono ?_
   rintro e w' ⟨v',rfl,hv,rfl⟩
   go_wp2_with fail
   go_ret
   refine ⟨_,rfl,?_,HG.out ▸ HBW.out⟩
   rw [←trimL_fixd (k:=n)]
   ·exact hv
   ·have h1:=valB_lt (revB_ok a)
    rw [revB_len] at h1
    rw [show (4294967296:Nat)=256^4 by decide, ←Nat.pow_mul]
    exact Nat.lt_of_lt_of_le h1 (Nat.pow_le_pow_right (by decide) hn4)
end Go.Proofs.YtblgfmjlajhipaaGreatDoor
namespace Go.Proofs.YtblgfmjlajhipaaGreatDoor
open Go.RowKit Go.Shelf
open Dgt
def encL (n:Nat):List UInt8:=(digs 256 n).reverse.map UInt8.ofNat
def encS (n:Nat):ByteArray:=⟨(encL n).toArray⟩
theorem revB_encS (n:Nat):revB (encS n)=digs 256 n:=by
 have ho:=okB_digs (B:=256) (by decide) n
 unfold revB encS encL
 simp only [List.map_map,List.map_reverse,List.reverse_reverse]
 have:∀x ∈ digs 256 n,(UInt8.toNat∘UInt8.ofNat) x=x:=fun x hx=>by
  have:=ho x hx
  simp [Nat.mod_eq_of_lt this]
 rw [List.map_congr_left this,List.map_id']
theorem numS_encS (n:Nat):numS (encS n)=n:=by rw [numS,revB_encS,valB_digs (by decide)]
theorem encS_size (n:Nat):(encS n).size=(digs 256 n).length:=by rw [←revB_len,revB_encS]
theorem bytes_of_revB (s:ByteArray):s.data.toList=(revB s).reverse.map UInt8.ofNat:=by
 unfold revB
 rw [List.reverse_reverse,List.map_map]
 have:∀x ∈ s.data.toList,(UInt8.ofNat∘UInt8.toNat) x=x:=fun x _=>by simp
 rw [List.map_congr_left this,List.map_id']
theorem ext_revB {s t:ByteArray} (h:revB s=revB t):s=t:=by
 have:s.data.toList=t.data.toList:=by rw [bytes_of_revB s,bytes_of_revB t,h]
 cases s;cases t
 simp only at this
 congr 1
 exact Array.ext' this
theorem encS_inj {m n:Nat} (h:encS m=encS n):m=n:=by rw [←numS_encS m,h,numS_encS]
theorem trimLeft_enc (l:List Nat) (ho:okB 256 l):Lib.trimLeftB (l.reverse.map UInt8.ofNat) 0=encL (valB 256 l):=by
 induction hn:l.length generalizing l with
 | zero =>
  have:l=[]:=List.eq_nil_of_length_eq_zero hn
  subst this
  simp [Lib.trimLeftB,encL,valB,digs_zero]
 | succ n ih =>
  have hne:l≠[]:=by rintro rfl;simp at hn
  obtain ⟨l',x,rfl⟩:∃l' x,l=l' ++[x]:=⟨l.dropLast,l.getLast hne,(List.dropLast_concat_getLast hne).symm⟩
  have ho' :okB 256 l' :=fun y hy=>ho y (by simp [hy])
  have hx:x<256:=ho x (by simp)
  by_cases h0:x=0
  ·subst h0
   have:=ih l' ho' (by simpa using hn)
   rw [valB_snoc,Nat.mul_zero,Nat.add_zero, ←this]
   simp [Lib.trimLeftB]
  ·have hz:nzL (l' ++[x]):=fun _=>by simpa using h0
   rw [encL,digs_valB (by decide) ho hz]
   have:(UInt8.ofNat x==0)=false:=by
    rw [beq_eq_false_iff_ne]
    intro h
    have:=congrArg UInt8.toNat h
    rw [UInt8.toNat_ofNat',Nat.mod_eq_of_lt hx] at this
    exact h0 this
   simp [Lib.trimLeftB,this]
theorem conv_bytes (W:World) (b:Nat) (l:List UInt8) (len cap:Nat) (hl:l.length=len) (hc:∀j (hj:j<l.length),W.cell? ⟨b,j,none⟩=some (.int .u8 (l[j].toNat:Int))) :
  (convert 106 9 (.slice (some ⟨b,0,none⟩) len cap)).run Tryz.prog W=.ok (.string ⟨l.toArray⟩) W:=by
 subst hl
 refine run_convert_bytes_back W _ _ 5 ⟨b,0,none⟩ cap l Tryz.underlying106 Tryz.underlying5 Tryz.underlying9 fun j hj=> ?_
 rw [←hc j hj]
 cases j<;>simp [Addr.add]
theorem put_step {R:List Nat} {k:Nat} (hk:k<R.length):(List.replicate (R.length-k) 0++(R.take k).reverse).set (R.length-1-k) R[k]=List.replicate (R.length-(k+1)) 0++(R.take (k+1)).reverse:=by
 have e1:R.length-k=(R.length-(k+1))+1:=by omega
 rw [e1,List.replicate_succ',List.append_assoc,List.set_append_right _ _ (by simp;omega)]
 have e2:R.length-1-k-(List.replicate (R.length-(k+1)) 0).length=0:=by simp;omega
 have e3:(R.take (k+1)).reverse=R[k]::(R.take k).reverse:=by rw [List.take_succ_eq_append_getElem hk,List.reverse_append];rfl
 rw [e2,e3]
 simp
theorem byte_of {l:List Nat} (ho:okB 4294967296 l) {k:Nat} (hk:k/4<l.length):l[k/4]/2^(8*(k%4))%256=valB 4294967296 l/256^k%256:=by
 have h:=get_of_val ho hk
 have hm:k%4<4:=Nat.mod_lt _ (by decide)
 have ek:(256:Nat)^k=4294967296^(k/4)*256^(k%4):=by
  rw [show (4294967296:Nat)=256^4 by decide, ←Nat.pow_mul, ←Nat.pow_add];congr 1;omega
 have p8:(2:Nat)^(8*(k%4))=256^(k%4):=by rw [Nat.pow_mul]
 rw [←h,ek, ←Nat.div_div_eq_div_mul,p8]
 obtain ⟨N,hN⟩:∃N,valB 4294967296 l/4294967296^(k/4)=N:=⟨_,rfl⟩
 rw [hN]
 have e:(4294967296:Nat)=256^(k%4)*256^(4-k%4):=by
  rw [←Nat.pow_add,show k%4+(4-k%4)=4 by omega]
 rw [e,Nat.mod_mul_right_div_self,Nat.mod_mod_of_dvd]
 exact ⟨256^(4-k%4-1),by rw [←Nat.pow_succ'];congr 1;omega⟩
theorem cell_up2 {A W:World} {g k B:Nat} (hb:Below B A W) (h:g<A.heap.size) (hB:g<B):W.cell? ⟨g,k,none⟩=A.cell? ⟨g,k,none⟩:=World.cell?_of_block (hb.block g hB)
set_option maxRecDepth 100000 in
theorem number_any (v:Value) (l:List Nat) (w:World) (hl:Lim w v l) (hlen:l.length≤1000000000) :
  Calls Tryz.prog 120 #[v] w fun e w' =>e=.returned (.string (encS (valB 4294967296 l)))∧Below w.heap.size w w' :=by
 obtain ⟨N,hN⟩:∃N,valB 4294967296 l=N:=⟨_,rfl⟩
 have HT:=Lib.hid (show trimL 4294967296 l=digs 4294967296 N by rw [trimL,hN])
 have htl:=trimL_len (B:=4294967296) (by decide) hl.ok
 rw [HT.out] at htl
 have HN:=Lib.hid hN
 have HL:=Lib.hid hl
 clear hN hl
 go_enter Tryz.func120,Tryz.ntmps120
 go_wp2_with fail
 refine (trim_any _ _ _ HL.out).mono ?_
 rintro e w1 ⟨v',rfl,hv,rfl⟩
 rw [HT.out] at hv
 obtain ⟨p,n,cap,rfl,hn,hc,hcm⟩:=hv.open_
 have HV:=Lib.hid hv
 have hn1:n≤1000000000:=by rw [hn];exact Nat.le_trans htl hlen
 have HNN:=Lib.hid hn
 clear hv hn htl hlen
 obtain ⟨n4,hn4⟩:∃n4,4*n=n4:=⟨_,rfl⟩
 have hmk:=mk_bytes n4 (4*(n:Int)) (by omega) (by omega)
 have hb4:n4≤4000000000:=by omega
 have H4:=Lib.hid hn4
 clear hn4
 go_wp2_with fail
 clear hmk
 have HB:=Lib.hid ((Below.refl w.heap.size w).alloc (Nat.le_refl _) (.cells (cellsK .u8 (List.replicate n4 0)) 5))
 have HK:=Lib.hid (heap_alloc_new w (.cells (cellsK .u8 (List.replicate n4 0)) 5))
 obtain ⟨w0,hw0⟩:∃w0,w.alloc (.cells (cellsK .u8 (List.replicate n4 0)) 5)=w0:=⟨_,rfl⟩
 rw [hw0] at HB HK ⊢
 obtain ⟨g,hg⟩:∃g,w.heap.size=g:=⟨_,rfl⟩
 have hgw:w.heap.size≤g:=Nat.le_of_eq hg
 rw [hg] at HK ⊢
 have HG:=Lib.hid hg
 clear hw0 hg
 obtain ⟨R,hR⟩:∃R,fixd 256 n4 N=R:=⟨_,rfl⟩
 have hRl:R.length=n4:=by rw [←hR,fixd_len]
 have HRL:=Lib.hid hRl
 have HRR:=Lib.hid hR
 clear hR hRl
 go_loopw [13,4] (fun i _ wr=>∃k:Nat,k≤n4∧i=.int .i64 (k:Int)∧Hid (wr.heap[g]? =some (.cells (cellsK .u8 (List.replicate (n4-k) 0++(R.take k).reverse)) 5 (0,0)))∧Hid (Below w.heap.size w wr)) (fun i _ _=>n4-(intOf i).toNat)
 case atStart=>exact ⟨0,by omega,rfl,Lib.hid (by rw [Nat.sub_zero,List.take_zero,List.reverse_nil,List.append_nil];exact HK.out),HB⟩
 case round =>
  obtain ⟨k,hk,rfl,HC,HBW⟩:=hrel
  by_cases hlt:k<n4
  ·have hlt' :(k:Int)<(n4:Int):=by omega
   have h4n:=H4.out
   obtain ⟨j,hj⟩:∃j,k/4=j:=⟨_,rfl⟩
   obtain ⟨m,hm⟩:∃m,k%4=m:=⟨_,rfl⟩
   have hjn:j<n:=by omega
   have hjl:j<(digs 4294967296 N).length:=by rw [←HNN.out];exact hjn
   have hm4:m<4:=by omega
   obtain ⟨g',off,hp,hg',hcell⟩:=HV.out.cell hjl
   subst hp
   have hkR:k<R.length:=by rw [HRL.out];exact hlt
   have hby:(digs 4294967296 N)[j]/2^(8*m)%256=R[k]:=by
    have h:=byte_of (l:=digs 4294967296 N) (okB_digs (by decide) _) (k:=k) (by rw [hj];exact hjl)
    simp only [hj,hm] at h
    rw [h,valB_digs (by decide)]
    have h2:=fixd_get 256 n4 N k (by rw [fixd_len];exact hlt)
    simp only [HRR.out] at h2
    exact h2.symm
   have hput:=put_step hkR
   rw [HRL.out] at hput
   obtain ⟨x,hx⟩:∃x,(digs 4294967296 N)[j]=x:=⟨_,rfl⟩
   have hxl:x<4294967296:=by rw [←hx];exact (okB_digs (by decide) _).get _
   obtain ⟨y,hy⟩:∃y,R[k]=y:=⟨_,rfl⟩
   rw [hx] at hcell hby
   rw [hy] at hby hput
   have hyl:y<256:=by rw [←hby];exact Nat.mod_lt _ (by decide)
   have hc1:wr.cell? ⟨g',off+j,none⟩=some (.int .u32 (x:Int)):=by rw [cell_up2 HBW.out hg' hg'];exact hcell
   obtain ⟨i,hi⟩:∃i,n4-1-k=i:=⟨_,rfl⟩
   have hin:i<n4:=by omega
   rw [hi] at hput
   have hfr:wr.frozen? ⟨g,i,none⟩=false:=Lib.frozen_of_heap HC.out _
   have hlen4:(List.replicate (n4-k) 0++(R.take k).reverse).length=n4:=by simp [HRL.out];omega
   obtain ⟨z,hz⟩:∃z,wr.cell? ⟨g,i,none⟩=some z:=by rw [Lib.cell_of_heap HC.out];exact ⟨_,cellsK_get (by rw [hlen4];exact hin)⟩
   obtain ⟨sh,hsh⟩:∃sh,8*m=sh:=⟨_,rfl⟩
   rw [hsh] at hby
   have q1:(k:Int)/4=(j:Int):=by omega
   have q2:(n4:Int)-1-(k:Int)=(i:Int):=by omega
   have q4:(k:Int)%4=(m:Int):=by omega
   have q5:8*(m:Int)=(sh:Int):=by omega
   have hsh2:sh≤32:=by omega
   have q6:(x:Int)/2^sh%256=(y:Int):=by rw [←hby];simp
   have HP:=Lib.hid hput;have HI:=Lib.hid hi
   clear hx hy hby hput hi hj hm hsh h4n hlen4
   go_wp2_with fail
   go_roundw
   case rel=>exact ⟨k+1,by omega,by go_num,Lib.hid (by rw [←HP.out];exact set_block HC.out),Lib.hid (HBW.out.setCell (p:=⟨g,i,none⟩) hgw _)⟩
   case measure=>simp [intOf];omega
  ·have hge:(n4:Int)≤(k:Int):=by omega
   obtain rfl:k=n4:=by omega
   have HC2:Hid (wr.heap[g]? =some (.cells (cellsK .u8 R.reverse) 5 (0,0))):=Lib.hid (by
    have:=HC.out
    rwa [Nat.sub_self, ←HRL.out,List.take_length,List.replicate_zero,List.nil_append] at this)
   have hcv:=conv_bytes wr g (R.reverse.map UInt8.ofNat) k k (by rw [List.length_map,List.length_reverse,HRL.out]) (fun j hj=>by
    rw [Lib.cell_of_heap HC2.out,cellsK_get (by simpa using hj)]
    have:R.reverse[j]'(by simpa using hj)<256:=by
     have ho:okB 256 R:=by rw [←HRR.out];exact fixd_ok (by decide) _ _
     exact ho _ (List.mem_reverse.1 (List.getElem_mem _))
    simp only [List.getElem_map,UInt8.toNat_ofNat',Nat.mod_eq_of_lt this])
   go_wp2_with fail
   refine (Tryz.strings_TrimLeft_one _ _ (by decide) _).mono ?_
   rintro e w2 ⟨rfl,rfl⟩
   go_wp2_with fail
   go_ret
   refine ⟨?_,HG.out ▸ HBW.out⟩
   have ho:okB 256 R:=by rw [←HRR.out];exact fixd_ok (by decide) _ _
   have hv:valB 256 R=N:=by
    rw [←HRR.out]
    apply valB_fixd
    have h1:=digs_lt (B:=4294967296) (by decide) N
    rw [←HNN.out,show (4294967296:Nat)=256^4 by decide, ←Nat.pow_mul,H4.out] at h1
    exact h1
   show Ending.returned (.string ⟨(Lib.trimLeftB (R.map UInt8.ofNat).reverse 0).toArray⟩)=_
   rw [←List.map_reverse,trimLeft_enc R ho,hv,HN.out];rfl
end Go.Proofs.YtblgfmjlajhipaaGreatDoor
namespace Go.Proofs.YtblgfmjlajhipaaGreatDoor
open Go.RowKit Go.Shelf
open Dgt
theorem carry_step {B:Nat} {S:List Nat} (s:Nat):valB B (S++[s%B])+B^(S.length+1)*(s/B)=valB B S+B^S.length*s:=by
 rw [valB_snoc,Nat.pow_succ,Nat.mul_assoc,Nat.add_assoc, ←Nat.mul_add,Nat.mod_add_div]
theorem set_here (S T:List Nat) (x y:Nat):(S++y::T).set S.length x=(S++[x])++T:=by simp
theorem set_zeros (S:List Nat) (x m:Nat):(S++List.replicate (m+1) 0).set S.length x=(S++[x])++List.replicate m 0:=by
 rw [List.replicate_succ];exact set_here S _ x 0
theorem take_all_succ {l:List Nat} {k:Nat} (h:l.length≤k) (B:Nat):valB B (l.take (k+1))=valB B (l.take k):=by
 rw [List.take_of_length_le h,List.take_of_length_le (by omega)]
theorem sum_step {B k c x y:Nat} {S la lb:List Nat} (hB:2≤B) (hS:S.length=k) (ho:okB B S) (hv:valB B S+B^k*c=valB B (la.take k)+valB B (lb.take k)) (hc:c≤1) (hk:k<la.length) (hx:la[k]=x) (hxl:x<B) (hyl:y<B)
  (hy:valB B (lb.take (k+1))=valB B (lb.take k)+B^k*y) :
  valB B (S++[(x+c+y)%B])+B^(k+1)*((x+c+y)/B)=valB B (la.take (k+1))+valB B (lb.take (k+1))∧okB B (S++[(x+c+y)%B])∧(x+c+y)/B≤1:=by
 have h:=carry_step (B:=B) (S:=S) (x+c+y)
 rw [hS] at h
 have e:B^k*(x+c+y)=B^k*x+B^k*c+B^k*y:=by rw [Nat.mul_add,Nat.mul_add]
 rw [e] at h
 refine ⟨?_,ho.append fun z hz=> ?_,?_⟩
 ·rw [valB_take_succ hk,hy,hx];omega
 ·simp only [List.mem_singleton] at hz
  subst hz;exact Nat.mod_lt _ (by omega)
 ·have:(x+c+y)/B<2:=by rw [Nat.div_lt_iff_lt_mul (by omega)];omega
  omega
theorem less_step {k c x y r c' :Nat} {S la lb:List Nat} (hS:S.length=k) (ho:okB 4294967296 S) (hv:valB 4294967296 S+valB 4294967296 (lb.take k)=valB 4294967296 (la.take k)+4294967296^k*c) (hk:k<la.length) (hx:la[k]=x)
  (hr:r<4294967296) (hy:valB 4294967296 (lb.take (k+1))=valB 4294967296 (lb.take k)+4294967296^k*y) (he:x+4294967296*c' =r+c+y) :
  valB 4294967296 (S++[r])+valB 4294967296 (lb.take (k+1))=valB 4294967296 (la.take (k+1))+4294967296^(k+1)*c' ∧okB 4294967296 (S++[r]):=by
 refine ⟨?_,ho.append fun z hz=> ?_⟩
 ·rw [valB_take_succ hk,hx,hy,valB_snoc,hS,Nat.pow_succ,Nat.mul_assoc]
  have e:=congrArg (4294967296^k* ·) he
  simp only [Nat.mul_add] at e
  omega
 ·simp only [List.mem_singleton] at hz
  subst hz;exact hr
set_option maxRecDepth 100000 in
theorem sum_any (va vb:Value) (la lb:List Nat) (w:World) (ha:Lim w va la) (hb:Lim w vb lb) (hla:la.length≤1000000000) (hlb:lb.length≤1000000000) :
  Calls Tryz.prog 121 #[va,vb] w fun e w' =>∃v',e=.returned v' ∧Lim w' v' (digs 4294967296 (valB 4294967296 la+valB 4294967296 lb))∧Below w.heap.size w w' :=by
 obtain ⟨pa,na,ca,rfl,hna,hca,hcma⟩:=ha.open_
 obtain ⟨pb,nb,cb,rfl,hnb,hcb,hcmb⟩:=hb.open_
 have HLA:=Lib.hid ha;have HLB:=Lib.hid hb
 have hna1:na≤1000000000:=by omega
 have hnb1:nb≤1000000000:=by omega
 have HNA:=Lib.hid hna;have HNB:=Lib.hid hnb
 clear ha hb hna hnb hla hlb
 by_cases hsw:na<nb
 ·have hmk:=mk_limbs (nb+1) ((nb:Int)+1) (by omega) (by omega)
  have hlt0:(na:Int)<(nb:Int):=by omega
  have hle:na≤nb:=by omega
  go_enter Tryz.func121,Tryz.ntmps121
  go_wp2_with fail
  clear hmk hlt0
  have HB:=Lib.hid ((Below.refl w.heap.size w).alloc (Nat.le_refl _) (.cells (cellsK .u32 (List.replicate (nb+1) 0)) 133))
  have HK:=Lib.hid (heap_alloc_new w (.cells (cellsK .u32 (List.replicate (nb+1) 0)) 133))
  obtain ⟨w0,hw0⟩:∃w0,w.alloc (.cells (cellsK .u32 (List.replicate (nb+1) 0)) 133)=w0:=⟨_,rfl⟩
  rw [hw0] at HB HK ⊢
  obtain ⟨g,hg⟩:∃g,w.heap.size=g:=⟨_,rfl⟩
  have hgw:w.heap.size≤g:=Nat.le_of_eq hg
  rw [hg] at HK ⊢
  have HG:=Lib.hid hg
  clear hw0 hg
  go_loopw [22,7,8,6] (fun i _ _ cv wr=>∃(k c:Nat) (S:List Nat),k≤nb∧i=.int .i64 (k:Int)∧cv=.int .u64 (c:Int)∧c≤1∧Hid (S.length=k)∧Hid (okB 4294967296 S)∧Hid (valB 4294967296 S+4294967296^k*c=valB 4294967296 (lb.take k)+valB 4294967296 (la.take k)) ∧
    Hid (wr.heap[g]? =some (.cells (cellsK .u32 (S++List.replicate (nb+1-k) 0)) 133 (0,0)))∧Hid (Below w.heap.size w wr)) (fun i _ _ _ _=>nb-(intOf i).toNat)
  case atStart=>exact ⟨0,0,[],by omega,rfl,rfl,by omega,Lib.hid rfl,Lib.hid (okB_nil _),Lib.hid (by simp [valB]),Lib.hid (by simpa using HK.out),HB⟩
  case round =>
   obtain ⟨k,c,S,hk,rfl,rfl,hc,HS,HO,HV,HC,HBW⟩:=hrel
   by_cases hlt:k<nb
   ·have hlt' :(k:Int)<(nb:Int):=by omega
    have hkA:k<lb.length:=by have:=HNB.out;omega
    obtain ⟨g1,off1,hp1,hg1,hc1⟩:=HLB.out.cell hkA
    have cA:wr.cell? ⟨g1,off1+k,none⟩=some (.int .u32 (lb[k]:Int)):=by rw [cell_up2 HBW.out hg1 hg1];exact hc1
    obtain ⟨x,hx⟩:∃x,lb[k]=x:=⟨_,rfl⟩
    have hxl:x<4294967296:=by rw [←hx];exact HLB.out.ok.get hkA
    rw [hx] at cA
    subst hp1
    obtain ⟨m,hm⟩:∃m,nb-k=m:=⟨_,rfl⟩
    have hm1:nb+1-k=m+1:=by omega
    have hm2:nb+1-(k+1)=m:=by omega
    have HC2:Hid (wr.heap[g]? =some (.cells (cellsK .u32 (S++List.replicate (m+1) 0)) 133 (0,0))):=Lib.hid (by rw [←hm1];exact HC.out)
    have hfr:wr.frozen? ⟨g,k,none⟩=false:=Lib.frozen_of_heap HC.out _
    obtain ⟨z,hz⟩:∃z,wr.cell? ⟨g,k,none⟩=some z:=by rw [Lib.cell_of_heap HC2.out];exact ⟨_,cellsK_get (by simp [HS.out])⟩
    by_cases hkb:k<na
    ·have hkb' :(k:Int)<(na:Int):=by omega
     have hkB:k<la.length:=by have:=HNA.out;omega
     obtain ⟨g2,off2,hp2,hg2,hc2⟩:=HLA.out.cell hkB
     have cB:wr.cell? ⟨g2,off2+k,none⟩=some (.int .u32 (la[k]:Int)):=by rw [cell_up2 HBW.out hg2 hg2];exact hc2
     obtain ⟨y,hy⟩:∃y,la[k]=y:=⟨_,rfl⟩
     have hyl:y<4294967296:=by rw [←hy];exact HLA.out.ok.get hkB
     rw [hy] at cB
     subst hp2
     have hst:=sum_step (by decide) HS.out HO.out HV.out hc hkA hx hxl hyl (by rw [valB_take_succ hkB,hy])
     obtain ⟨r,hr⟩:∃r,(x+c+y)%4294967296=r:=⟨_,rfl⟩
     obtain ⟨c',hc'⟩:∃c',(x+c+y)/4294967296=c' :=⟨_,rfl⟩
     rw [hr,hc'] at hst
     have q1:((x:Int)+(c:Int)+(y:Int))%4294967296=(r:Int):=by omega
     have q2:((x:Int)+(c:Int)+(y:Int))/4294967296=(c' :Int):=by omega
     have HST:=Lib.hid hst
     have HM:=Lib.hid hm2
     have HSS:=Lib.hid (set_zeros S r m)
     clear hst hr hc' hx hy hm hm1 hm2 hc1 hc2
     go_wp2_with fail
     go_roundw
     case rel=>exact ⟨k+1,c',S++[r],by omega,by go_num,rfl,HST.out.2.2,Lib.hid (by simp [HS.out]),Lib.hid HST.out.2.1,Lib.hid HST.out.1,Lib.hid (by rw [HM.out, ←HSS.out,HS.out];exact set_block HC2.out),Lib.hid (HBW.out.setCell (p:=⟨g,k,none⟩) hgw _)⟩
     case measure=>simp [intOf];omega
    ·have hkb' :¬(k:Int)<(na:Int):=by omega
     have hst:=sum_step (y:=0) (lb:=la) (by decide) HS.out HO.out HV.out hc hkA hx hxl (by decide) (by rw [take_all_succ (by have:=HNA.out;omega)];simp)
     obtain ⟨r,hr⟩:∃r,(x+c+0)%4294967296=r:=⟨_,rfl⟩
     obtain ⟨c',hc'⟩:∃c',(x+c+0)/4294967296=c' :=⟨_,rfl⟩
     rw [hr,hc'] at hst
     have q1:((x:Int)+(c:Int))%4294967296=(r:Int):=by omega
     have q2:((x:Int)+(c:Int))/4294967296=(c' :Int):=by omega
     have HST:=Lib.hid hst
     have HM:=Lib.hid hm2
     have HSS:=Lib.hid (set_zeros S r m)
     clear hst hr hc' hx hm hm1 hm2 hc1
     go_wp2_with fail
     go_roundw
     case rel=>exact ⟨k+1,c',S++[r],by omega,by go_num,rfl,HST.out.2.2,Lib.hid (by simp [HS.out]),Lib.hid HST.out.2.1,Lib.hid HST.out.1,Lib.hid (by rw [HM.out, ←HSS.out,HS.out];exact set_block HC2.out),Lib.hid (HBW.out.setCell (p:=⟨g,k,none⟩) hgw _)⟩
     case measure=>simp [intOf];omega
   ·have hge:(nb:Int)≤(k:Int):=by omega
    obtain rfl:k=nb:=by omega
    have HC2:Hid (wr.heap[g]? =some (.cells (cellsK .u32 (S++List.replicate (0+1) 0)) 133 (0,0))):=Lib.hid (by
     have:=HC.out
     rwa [show k+1-k=0+1 by omega] at this)
    have HSS:=Lib.hid (set_zeros S c 0)
    have hfr:wr.frozen? ⟨g,k,none⟩=false:=Lib.frozen_of_heap HC.out _
    obtain ⟨z,hz⟩:∃z,wr.cell? ⟨g,k,none⟩=some z:=by rw [Lib.cell_of_heap HC2.out];exact ⟨_,cellsK_get (by simp [HS.out])⟩
    have q1:(c:Int)%4294967296=(c:Int):=by omega
    have HL:Hid (Lim (wr.setCell ⟨g,k,none⟩ (.int .u32 (c:Int))) (.slice (some ⟨g,0,none⟩) (k+1) (k+1)) (S++[c])):=Lib.hid (by
     have h:=LimK.block (kd:=.u32) (B:=4294967296) (W:=wr.setCell ⟨g,k,none⟩ (.int .u32 (c:Int))) (g:=g) (cap:=k+1) (l:=S++[c]) (HO.out.append fun y hy=>by simp at hy;omega) (cs:=cellsK .u32 (S++[c])) (t:=133) (by
      have h1:=HSS.out
      rw [HS.out] at h1
      have:=set_block (i:=k) (x:=c) HC2.out
      rw [h1] at this
      simpa using this) (fun i h=>cellsK_get h) (by simp [HS.out]) (by omega)
     rwa [show (S++[c]).length=k+1 by simp [HS.out]] at h)
    have HBW:=Lib.hid (HBW.out.setCell (p:=⟨g,k,none⟩) hgw (.int .u32 (c:Int)))
    have HV2:Hid (trimL 4294967296 (S++[c])=digs 4294967296 (valB 4294967296 la+valB 4294967296 lb)):=Lib.hid (by
     unfold trimL
     have h:=HV.out
     rw [List.take_of_length_le (l:=lb) (by have:=HNB.out;omega),List.take_of_length_le (l:=la) (by have:=HNA.out;omega)] at h
     rw [valB_snoc,HS.out,h,Nat.add_comm])
    go_wp2_with fail
    refine (trim_any _ _ _ HL.out).mono ?_
    rintro e w' ⟨v',rfl,hv,rfl⟩
    go_wp2_with fail
    go_ret
    exact ⟨_,rfl,by rw [←HV2.out];exact hv,HG.out ▸ HBW.out⟩
 ·have hmk:=mk_limbs (na+1) ((na:Int)+1) (by omega) (by omega)
  have hlt0:¬(na:Int)<(nb:Int):=by omega
  have hle:nb≤na:=by omega
  go_enter Tryz.func121,Tryz.ntmps121
  go_wp2_with fail
  clear hmk hlt0
  have HB:=Lib.hid ((Below.refl w.heap.size w).alloc (Nat.le_refl _) (.cells (cellsK .u32 (List.replicate (na+1) 0)) 133))
  have HK:=Lib.hid (heap_alloc_new w (.cells (cellsK .u32 (List.replicate (na+1) 0)) 133))
  obtain ⟨w0,hw0⟩:∃w0,w.alloc (.cells (cellsK .u32 (List.replicate (na+1) 0)) 133)=w0:=⟨_,rfl⟩
  rw [hw0] at HB HK ⊢
  obtain ⟨g,hg⟩:∃g,w.heap.size=g:=⟨_,rfl⟩
  have hgw:w.heap.size≤g:=Nat.le_of_eq hg
  rw [hg] at HK ⊢
  have HG:=Lib.hid hg
  clear hw0 hg
  go_loopw [22,7,8,6] (fun i _ _ cv wr=>∃(k c:Nat) (S:List Nat),k≤na∧i=.int .i64 (k:Int)∧cv=.int .u64 (c:Int)∧c≤1∧Hid (S.length=k)∧Hid (okB 4294967296 S)∧Hid (valB 4294967296 S+4294967296^k*c=valB 4294967296 (la.take k)+valB 4294967296 (lb.take k)) ∧
    Hid (wr.heap[g]? =some (.cells (cellsK .u32 (S++List.replicate (na+1-k) 0)) 133 (0,0)))∧Hid (Below w.heap.size w wr)) (fun i _ _ _ _=>na-(intOf i).toNat)
  case atStart=>exact ⟨0,0,[],by omega,rfl,rfl,by omega,Lib.hid rfl,Lib.hid (okB_nil _),Lib.hid (by simp [valB]),Lib.hid (by simpa using HK.out),HB⟩
  case round =>
   obtain ⟨k,c,S,hk,rfl,rfl,hc,HS,HO,HV,HC,HBW⟩:=hrel
   by_cases hlt:k<na
   ·have hlt' :(k:Int)<(na:Int):=by omega
    have hkA:k<la.length:=by have:=HNA.out;omega
    obtain ⟨g1,off1,hp1,hg1,hc1⟩:=HLA.out.cell hkA
    have cA:wr.cell? ⟨g1,off1+k,none⟩=some (.int .u32 (la[k]:Int)):=by rw [cell_up2 HBW.out hg1 hg1];exact hc1
    obtain ⟨x,hx⟩:∃x,la[k]=x:=⟨_,rfl⟩
    have hxl:x<4294967296:=by rw [←hx];exact HLA.out.ok.get hkA
    rw [hx] at cA
    subst hp1
    obtain ⟨m,hm⟩:∃m,na-k=m:=⟨_,rfl⟩
    have hm1:na+1-k=m+1:=by omega
    have hm2:na+1-(k+1)=m:=by omega
    have HC2:Hid (wr.heap[g]? =some (.cells (cellsK .u32 (S++List.replicate (m+1) 0)) 133 (0,0))):=Lib.hid (by rw [←hm1];exact HC.out)
    have hfr:wr.frozen? ⟨g,k,none⟩=false:=Lib.frozen_of_heap HC.out _
    obtain ⟨z,hz⟩:∃z,wr.cell? ⟨g,k,none⟩=some z:=by rw [Lib.cell_of_heap HC2.out];exact ⟨_,cellsK_get (by simp [HS.out])⟩
    by_cases hkb:k<nb
    ·have hkb' :(k:Int)<(nb:Int):=by omega
     have hkB:k<lb.length:=by have:=HNB.out;omega
     obtain ⟨g2,off2,hp2,hg2,hc2⟩:=HLB.out.cell hkB
     have cB:wr.cell? ⟨g2,off2+k,none⟩=some (.int .u32 (lb[k]:Int)):=by rw [cell_up2 HBW.out hg2 hg2];exact hc2
     obtain ⟨y,hy⟩:∃y,lb[k]=y:=⟨_,rfl⟩
     have hyl:y<4294967296:=by rw [←hy];exact HLB.out.ok.get hkB
     rw [hy] at cB
     subst hp2
     have hst:=sum_step (by decide) HS.out HO.out HV.out hc hkA hx hxl hyl (by rw [valB_take_succ hkB,hy])
     obtain ⟨r,hr⟩:∃r,(x+c+y)%4294967296=r:=⟨_,rfl⟩
     obtain ⟨c',hc'⟩:∃c',(x+c+y)/4294967296=c' :=⟨_,rfl⟩
     rw [hr,hc'] at hst
     have q1:((x:Int)+(c:Int)+(y:Int))%4294967296=(r:Int):=by omega
     have q2:((x:Int)+(c:Int)+(y:Int))/4294967296=(c' :Int):=by omega
     have HST:=Lib.hid hst
     have HM:=Lib.hid hm2
     have HSS:=Lib.hid (set_zeros S r m)
     clear hst hr hc' hx hy hm hm1 hm2 hc1 hc2
     go_wp2_with fail
     go_roundw
     case rel=>exact ⟨k+1,c',S++[r],by omega,by go_num,rfl,HST.out.2.2,Lib.hid (by simp [HS.out]),Lib.hid HST.out.2.1,Lib.hid HST.out.1,Lib.hid (by rw [HM.out, ←HSS.out,HS.out];exact set_block HC2.out),Lib.hid (HBW.out.setCell (p:=⟨g,k,none⟩) hgw _)⟩
     case measure=>simp [intOf];omega
    ·have hkb' :¬(k:Int)<(nb:Int):=by omega
     have hst:=sum_step (y:=0) (lb:=lb) (by decide) HS.out HO.out HV.out hc hkA hx hxl (by decide) (by rw [take_all_succ (by have:=HNB.out;omega)];simp)
     obtain ⟨r,hr⟩:∃r,(x+c+0)%4294967296=r:=⟨_,rfl⟩
     obtain ⟨c',hc'⟩:∃c',(x+c+0)/4294967296=c' :=⟨_,rfl⟩
     rw [hr,hc'] at hst
     have q1:((x:Int)+(c:Int))%4294967296=(r:Int):=by omega
     have q2:((x:Int)+(c:Int))/4294967296=(c' :Int):=by omega
     have HST:=Lib.hid hst
     have HM:=Lib.hid hm2
     have HSS:=Lib.hid (set_zeros S r m)
     clear hst hr hc' hx hm hm1 hm2 hc1
     go_wp2_with fail
     go_roundw
     case rel=>exact ⟨k+1,c',S++[r],by omega,by go_num,rfl,HST.out.2.2,Lib.hid (by simp [HS.out]),Lib.hid HST.out.2.1,Lib.hid HST.out.1,Lib.hid (by rw [HM.out, ←HSS.out,HS.out];exact set_block HC2.out),Lib.hid (HBW.out.setCell (p:=⟨g,k,none⟩) hgw _)⟩
     case measure=>simp [intOf];omega
   ·have hge:(na:Int)≤(k:Int):=by omega
    obtain rfl:k=na:=by omega
    have HC2:Hid (wr.heap[g]? =some (.cells (cellsK .u32 (S++List.replicate (0+1) 0)) 133 (0,0))):=Lib.hid (by
     have:=HC.out
     rwa [show k+1-k=0+1 by omega] at this)
    have HSS:=Lib.hid (set_zeros S c 0)
    have hfr:wr.frozen? ⟨g,k,none⟩=false:=Lib.frozen_of_heap HC.out _
    obtain ⟨z,hz⟩:∃z,wr.cell? ⟨g,k,none⟩=some z:=by rw [Lib.cell_of_heap HC2.out];exact ⟨_,cellsK_get (by simp [HS.out])⟩
    have q1:(c:Int)%4294967296=(c:Int):=by omega
    have HL:Hid (Lim (wr.setCell ⟨g,k,none⟩ (.int .u32 (c:Int))) (.slice (some ⟨g,0,none⟩) (k+1) (k+1)) (S++[c])):=Lib.hid (by
     have h:=LimK.block (kd:=.u32) (B:=4294967296) (W:=wr.setCell ⟨g,k,none⟩ (.int .u32 (c:Int))) (g:=g) (cap:=k+1) (l:=S++[c]) (HO.out.append fun y hy=>by simp at hy;omega) (cs:=cellsK .u32 (S++[c])) (t:=133) (by
      have h1:=HSS.out
      rw [HS.out] at h1
      have:=set_block (i:=k) (x:=c) HC2.out
      rw [h1] at this
      simpa using this) (fun i h=>cellsK_get h) (by simp [HS.out]) (by omega)
     rwa [show (S++[c]).length=k+1 by simp [HS.out]] at h)
    have HBW:=Lib.hid (HBW.out.setCell (p:=⟨g,k,none⟩) hgw (.int .u32 (c:Int)))
    have HV2:Hid (trimL 4294967296 (S++[c])=digs 4294967296 (valB 4294967296 la+valB 4294967296 lb)):=Lib.hid (by
     unfold trimL
     have h:=HV.out
     rw [List.take_of_length_le (l:=la) (by have:=HNA.out;omega),List.take_of_length_le (l:=lb) (by have:=HNB.out;omega)] at h
     rw [valB_snoc,HS.out,h])
    go_wp2_with fail
    refine (trim_any _ _ _ HL.out).mono ?_
    rintro e w' ⟨v',rfl,hv,rfl⟩
    go_wp2_with fail
    go_ret
    exact ⟨_,rfl,by rw [←HV2.out];exact hv,HG.out ▸ HBW.out⟩
set_option maxRecDepth 100000 in
theorem less_any (va vb:Value) (la lb:List Nat) (w:World) (ha:Lim w va la) (hb:Lim w vb lb) (hla:la.length≤1000000000) (hlb:lb.length≤la.length) (hle:valB 4294967296 lb≤valB 4294967296 la) :
  Calls Tryz.prog 127 #[va,vb] w fun e w' =>∃v',e=.returned v' ∧Lim w' v' (digs 4294967296 (valB 4294967296 la-valB 4294967296 lb))∧Below w.heap.size w w' :=by
 obtain ⟨pa,na,ca,rfl,hna,hca,hcma⟩:=ha.open_
 obtain ⟨pb,nb,cb,rfl,hnb,hcb,hcmb⟩:=hb.open_
 have HLA:=Lib.hid ha;have HLB:=Lib.hid hb
 have hna1:na≤1000000000:=by omega
 have hnn:nb≤na:=by omega
 have HNA:=Lib.hid hna;have HNB:=Lib.hid hnb;have HLE:=Lib.hid hle
 clear ha hb hna hnb hla hlb hle
 have hmk:=mk_limbs na (na:Int) rfl (by omega)
 go_enter Tryz.func127,Tryz.ntmps127
 go_wp2_with fail
 clear hmk
 have HB:=Lib.hid ((Below.refl w.heap.size w).alloc (Nat.le_refl _) (.cells (cellsK .u32 (List.replicate na 0)) 133))
 have HK:=Lib.hid (heap_alloc_new w (.cells (cellsK .u32 (List.replicate na 0)) 133))
 obtain ⟨w0,hw0⟩:∃w0,w.alloc (.cells (cellsK .u32 (List.replicate na 0)) 133)=w0:=⟨_,rfl⟩
 rw [hw0] at HB HK ⊢
 obtain ⟨g,hg⟩:∃g,w.heap.size=g:=⟨_,rfl⟩
 have hgw:w.heap.size≤g:=Nat.le_of_eq hg
 rw [hg] at HK ⊢
 have HG:=Lib.hid hg
 clear hw0 hg
 go_loopw [14,7,8,6] (fun i _ _ cv wr=>∃(k c:Nat) (S:List Nat),k≤na∧i=.int .i64 (k:Int)∧cv=.int .u64 (c:Int)∧c≤1∧Hid (S.length=k)∧Hid (okB 4294967296 S)∧Hid (valB 4294967296 S+valB 4294967296 (lb.take k)=valB 4294967296 (la.take k)+4294967296^k*c) ∧
   Hid (wr.heap[g]? =some (.cells (cellsK .u32 (S++List.replicate (na-k) 0)) 133 (0,0)))∧Hid (Below w.heap.size w wr)) (fun i _ _ _ _=>na-(intOf i).toNat)
 case atStart=>exact ⟨0,0,[],by omega,rfl,rfl,by omega,Lib.hid rfl,Lib.hid (okB_nil _),Lib.hid (by simp [valB]),Lib.hid (by simpa using HK.out),HB⟩
 case round =>
  obtain ⟨k,c,S,hk,rfl,rfl,hc,HS,HO,HV,HC,HBW⟩:=hrel
  by_cases hlt:k<na
  ·have hlt' :(k:Int)<(na:Int):=by omega
   have hkA:k<la.length:=by have:=HNA.out;omega
   obtain ⟨g1,off1,hp1,hg1,hc1⟩:=HLA.out.cell hkA
   have cA:wr.cell? ⟨g1,off1+k,none⟩=some (.int .u32 (la[k]:Int)):=by rw [cell_up2 HBW.out hg1 hg1];exact hc1
   obtain ⟨x,hx⟩:∃x,la[k]=x:=⟨_,rfl⟩
   have hxl:x<4294967296:=by rw [←hx];exact HLA.out.ok.get hkA
   rw [hx] at cA
   subst hp1
   obtain ⟨m,hm⟩:∃m,na-k=m+1:=⟨na-k-1,by omega⟩
   have hm2:na-(k+1)=m:=by omega
   have HC2:Hid (wr.heap[g]? =some (.cells (cellsK .u32 (S++List.replicate (m+1) 0)) 133 (0,0))):=Lib.hid (by rw [←hm];exact HC.out)
   have hfr:wr.frozen? ⟨g,k,none⟩=false:=Lib.frozen_of_heap HC.out _
   obtain ⟨z,hz⟩:∃z,wr.cell? ⟨g,k,none⟩=some z:=by rw [Lib.cell_of_heap HC2.out];exact ⟨_,cellsK_get (by simp [HS.out])⟩
   by_cases hkb:k<nb
   ·have hkb' :(k:Int)<(nb:Int):=by omega
    have hkB:k<lb.length:=by have:=HNB.out;omega
    obtain ⟨g2,off2,hp2,hg2,hc2⟩:=HLB.out.cell hkB
    have cB:wr.cell? ⟨g2,off2+k,none⟩=some (.int .u32 (lb[k]:Int)):=by rw [cell_up2 HBW.out hg2 hg2];exact hc2
    obtain ⟨y,hy⟩:∃y,lb[k]=y:=⟨_,rfl⟩
    have hyl:y<4294967296:=by rw [←hy];exact HLB.out.ok.get hkB
    rw [hy] at cB
    subst hp2
    obtain ⟨r,hr⟩:∃r,(x+8589934592-c-y)%4294967296=r:=⟨_,rfl⟩
    obtain ⟨c',hc'⟩:∃c',(if x<c+y then 1 else 0)=c' :=⟨_,rfl⟩
    have hc1' :c' ≤1:=by rw [←hc'];split<;>omega
    have he:x+4294967296*c' =r+c+y:=by rw [←hc', ←hr];split<;>omega
    have hst:=less_step HS.out HO.out HV.out hkA hx (by omega) (by rw [valB_take_succ hkB,hy]) he
    have q1:IntKind.u64.wrap (IntKind.u64.wrap ((x:Int)-(c:Int))-(y:Int))/9223372036854775808=(c' :Int):=by rw [IntKind.wrap_u64,IntKind.wrap_u64, ←hc'];split<;>omega
    have q2:IntKind.u64.wrap (IntKind.u64.wrap ((x:Int)-(c:Int))-(y:Int))%4294967296=(r:Int):=by rw [IntKind.wrap_u64,IntKind.wrap_u64];omega
    have HST:=Lib.hid hst
    have HM:=Lib.hid hm2
    have HSS:=Lib.hid (set_zeros S r m)
    clear hst hr hc' hx hy hm hm2 hc1 hc2 he
    go_wp2_with fail
    go_roundw
    case rel=>exact ⟨k+1,c',S++[r],by omega,by go_num,rfl,hc1',Lib.hid (by simp [HS.out]),Lib.hid HST.out.2,Lib.hid HST.out.1,Lib.hid (by rw [HM.out, ←HSS.out,HS.out];exact set_block HC2.out),Lib.hid (HBW.out.setCell (p:=⟨g,k,none⟩) hgw _)⟩
    case measure=>simp [intOf];omega
   ·have hkb' :¬(k:Int)<(nb:Int):=by omega
    obtain ⟨r,hr⟩:∃r,(x+8589934592-c)%4294967296=r:=⟨_,rfl⟩
    obtain ⟨c',hc'⟩:∃c',(if x<c then 1 else 0)=c' :=⟨_,rfl⟩
    have hc1' :c' ≤1:=by rw [←hc'];split<;>omega
    have he:x+4294967296*c' =r+c+0:=by rw [←hc', ←hr];split<;>omega
    have hst:=less_step (y:=0) (lb:=lb) HS.out HO.out HV.out hkA hx (by omega) (by rw [take_all_succ (by have:=HNB.out;omega)];simp) he
    have q1:IntKind.u64.wrap ((x:Int)-(c:Int))/9223372036854775808=(c' :Int):=by rw [IntKind.wrap_u64, ←hc'];split<;>omega
    have q2:IntKind.u64.wrap ((x:Int)-(c:Int))%4294967296=(r:Int):=by rw [IntKind.wrap_u64];omega
    have HST:=Lib.hid hst
    have HM:=Lib.hid hm2
    have HSS:=Lib.hid (set_zeros S r m)
    clear hst hr hc' hx hm hm2 hc1 he
    go_wp2_with fail
    go_roundw
    case rel=>exact ⟨k+1,c',S++[r],by omega,by go_num,rfl,hc1',Lib.hid (by simp [HS.out]),Lib.hid HST.out.2,Lib.hid HST.out.1,Lib.hid (by rw [HM.out, ←HSS.out,HS.out];exact set_block HC2.out),Lib.hid (HBW.out.setCell (p:=⟨g,k,none⟩) hgw _)⟩
    case measure=>simp [intOf];omega
  ·have hge:(na:Int)≤(k:Int):=by omega
   obtain rfl:k=na:=by omega
   have HV2:Hid (trimL 4294967296 S=digs 4294967296 (valB 4294967296 la-valB 4294967296 lb)):=Lib.hid (by
    unfold trimL
    have h:=HV.out
    rw [List.take_of_length_le (l:=la) (by have:=HNA.out;omega),List.take_of_length_le (l:=lb) (by have:=HNB.out;omega)] at h
    have h1:=valB_lt HO.out
    rw [HS.out] at h1
    have h2:=HLE.out
    have h3:c=0:=by
     rcases (by omega:c=0∨c=1) with h|h
     ·exact h
     ·subst h;omega
    subst h3
    congr 1;omega)
   have HL:Hid (Lim wr (.slice (some ⟨g,0,none⟩) k k) S):=Lib.hid (by
    have h:=LimK.block (kd:=.u32) (B:=4294967296) (W:=wr) (g:=g) (cap:=k) (l:=S) HO.out (cs:=cellsK .u32 S) (t:=133) (by
     have:=HC.out
     simpa using this) (fun i h=>cellsK_get h) (by rw [HS.out];omega) (by omega)
    rwa [HS.out] at h)
   go_wp2_with fail
   refine (trim_any _ _ _ HL.out).mono ?_
   rintro e w' ⟨v',rfl,hv,rfl⟩
   go_wp2_with fail
   go_ret
   exact ⟨_,rfl,by rw [←HV2.out];exact hv,HG.out ▸ HBW.out⟩
end Go.Proofs.YtblgfmjlajhipaaGreatDoor
namespace Go.Proofs.YtblgfmjlajhipaaGreatDoor
open Go.RowKit Go.Shelf
open Dgt
theorem below_drewN {B:Nat} {a w:World} (h:Below B a w) (n:Nat):Below B a (w.drewN n):=⟨h.os,h.tape,h.output,h.size,h.block⟩
def cmpI (m n:Nat):Int:=if m<n then-1 else if n<m then 1 else 0
theorem cmpI_lt {m n:Nat} (h:m<n):cmpI m n= -1:=by rw [cmpI,if_pos h]
theorem cmpI_gt {m n:Nat} (h:n<m):cmpI m n=1:=by rw [cmpI,if_neg (by omega),if_pos h]
theorem cmpI_eq {m:Nat}:cmpI m m=0:=by rw [cmpI,if_neg (by omega),if_neg (by omega)]
theorem digs_len_lt {B m n:Nat} (hB:2≤B) (h:(digs B m).length<(digs B n).length):m<n:=by
 rcases Nat.lt_or_ge m n with h' |h'
 ·exact h'
 ·have:=digs_len_mono hB h';omega
theorem val_lt_of {B:Nat} {la lb:List Nat} (ha:okB B la) (hb:okB B lb) (hl:la.length=lb.length) {k:Nat} (hk:k<la.length) (hd:la.drop (k+1)=lb.drop (k+1)) (h:la[k]<lb[k]'(hl ▸ hk)):valB B la<valB B lb:=by
 have e1:=valB_split B la k
 have e2:=valB_split B lb k
 rw [Nat.min_eq_left (by omega),List.drop_eq_getElem_cons hk,valB] at e1
 rw [Nat.min_eq_left (by omega),List.drop_eq_getElem_cons (hl ▸ hk),valB, ←hd] at e2
 have h1:=valB_lt (ha.take k)
 rw [List.length_take,Nat.min_eq_left (by omega)] at h1
 have h2:B^k*(la[k]+B*valB B (la.drop (k+1)))+B^k≤B^k*(lb[k]'(hl ▸ hk)+B*valB B (la.drop (k+1))):=by
  rw [←Nat.mul_succ];exact Nat.mul_le_mul_left _ (by omega)
 omega
set_option maxRecDepth 100000 in
theorem compare_any (va vb:Value) (m n:Nat) (w:World) (ha:Lim w va (digs 4294967296 m)) (hb:Lim w vb (digs 4294967296 n)) :
  Calls Tryz.prog 126 #[va,vb] w fun e w' =>e=.returned (.int .i64 (cmpI m n))∧Below w.heap.size w w' :=by
 obtain ⟨la,hla⟩:∃l,digs 4294967296 m=l:=⟨_,rfl⟩
 obtain ⟨lb,hlb⟩:∃l,digs 4294967296 n=l:=⟨_,rfl⟩
 have HM:=Lib.hid hla;have HN:=Lib.hid hlb
 rw [hla] at ha;rw [hlb] at hb
 clear hla hlb
 obtain ⟨pa,na,ca,rfl,hna,hca,hcma⟩:=ha.open_
 obtain ⟨pb,nb,cb,rfl,hnb,hcb,hcmb⟩:=hb.open_
 have HLA:=Lib.hid ha;have HLB:=Lib.hid hb
 have HNA:=Lib.hid hna;have HNB:=Lib.hid hnb
 have hna1:na≤9223372036854775807:=by omega
 have hna2:(na:Int)≤9223372036854775807:=by omega
 clear ha hb hna hnb hcma hcmb hca hcb hna1
 by_cases hne:na=nb
 ·subst hne
  go_enter Tryz.func126,Tryz.ntmps126
  go_wp2_with fail
  go_loopw [5] (fun i wr=>∃(j:Nat) (i' :Int),j≤na∧i' =(j:Int)-1∧i=.int .i64 i' ∧Hid (la.drop j=lb.drop j)∧Hid (Below w.heap.size w wr)) (fun i _=>(intOf i+1).toNat)
  case atStart=>exact ⟨na,(na:Int)-1,Nat.le_refl _,rfl,rfl,Lib.hid (by rw [List.drop_eq_nil_of_le (by have:=HNA.out;omega),List.drop_eq_nil_of_le (by have:=HNB.out;omega)]),Lib.hid (Below.refl _ _)⟩
  case round =>
   obtain ⟨j,i',hj,hi',rfl,HD,HBW⟩:=hrel
   rcases j with _|k
   ·have hneg:i' <0:=by omega
    have HE:Hid (m=n):=Lib.hid (by
     have:=HD.out
     simp only [List.drop_zero] at this
     rw [←valB_digs (B:=4294967296) (by decide) m, ←valB_digs (B:=4294967296) (by decide) n,HM.out,HN.out,this])
    go_wp2_with fail
    go_ret
    exact ⟨by rw [HE.out,cmpI_eq];rfl,HBW.out⟩
   ·obtain rfl:i' =(k:Int):=by omega
    clear hi'
    have hkA:k<la.length:=by have:=HNA.out;omega
    have hkB:k<lb.length:=by have:=HNB.out;omega
    obtain ⟨g1,off1,hp1,hg1,hc1⟩:=HLA.out.cell hkA
    obtain ⟨g2,off2,hp2,hg2,hc2⟩:=HLB.out.cell hkB
    have cA:wr.cell? ⟨g1,off1+k,none⟩=some (.int .u32 (la[k]:Int)):=by rw [cell_up2 HBW.out hg1 hg1];exact hc1
    have cB:wr.cell? ⟨g2,off2+k,none⟩=some (.int .u32 (lb[k]:Int)):=by rw [cell_up2 HBW.out hg2 hg2];exact hc2
    subst hp1;subst hp2
    have hkn:k<na:=hj
    have HLT:Hid (la[k]<lb[k]→m<n):=Lib.hid (fun h=>by
     have:=val_lt_of HLA.out.ok HLB.out.ok (by have:=HNA.out;have:=HNB.out;omega) hkA HD.out h
     rwa [←HM.out, ←HN.out,valB_digs (by decide),valB_digs (by decide)] at this)
    have HGT:Hid (lb[k]<la[k]→n<m):=Lib.hid (fun h=>by
     have:=val_lt_of HLB.out.ok HLA.out.ok (by have:=HNA.out;have:=HNB.out;omega) hkB HD.out.symm h
     rwa [←HM.out, ←HN.out,valB_digs (by decide),valB_digs (by decide)] at this)
    have HEQ:Hid (la[k]=lb[k]→la.drop k=lb.drop k):=Lib.hid (fun h=>by
     rw [List.drop_eq_getElem_cons hkA,List.drop_eq_getElem_cons hkB,h,HD.out])
    obtain ⟨x,hx⟩:∃x,la[k]=x:=⟨_,rfl⟩
    obtain ⟨y,hy⟩:∃y,lb[k]=y:=⟨_,rfl⟩
    rw [hx] at cA HLT HGT HEQ;rw [hy] at cB HLT HGT HEQ
    clear hx hy hc1 hc2
    obtain ⟨wo,hwo⟩:∃wo,wo=wr:=⟨_,rfl⟩
    subst hwo
    by_cases hxy:x<y
    ·have hxy' :(x:Int)<(y:Int):=by omega
     have HF:=Lib.hid (HLT.out hxy)
     clear hxy
     go_wp2_with fail
     go_quiet (fail)
     go_wp2_with fail
     go_ret
     exact ⟨by rw [cmpI_lt HF.out];rfl,below_drewN HBW.out _⟩
    ·have hxy' :¬(x:Int)<(y:Int):=by omega
     clear hxy
     by_cases hyx:y<x
     ·have hyx' :(y:Int)<(x:Int):=by omega
      have HF:=Lib.hid (HGT.out hyx)
      clear hyx
      go_wp2_with fail
      go_quiet (fail)
      go_wp2_with fail
      go_quiet (fail)
      go_wp2_with fail
      go_ret
      exact ⟨by rw [cmpI_gt HF.out];rfl,below_drewN (below_drewN HBW.out _) _⟩
     ·have hyx' :¬(y:Int)<(x:Int):=by omega
      have HF:=Lib.hid (HEQ.out (by omega))
      clear hyx
      go_wp2_with fail
      go_quiet (fail)
      go_wp2_with fail
      go_quiet (fail)
      go_wp2_with fail
      go_roundw
      case rel=>exact ⟨k,(k:Int)-1,by omega,rfl,by go_num,HF,Lib.hid (below_drewN HBW.out _)⟩
      case measure=>simp [intOf]
 ·by_cases hlt:na<nb
  ·have HF:Hid (m<n):=Lib.hid (digs_len_lt (B:=4294967296) (by decide) (by rw [HM.out,HN.out];have:=HNA.out;have:=HNB.out;omega))
   have h1:¬((na:Int)=(nb:Int)):=by omega
   have h2:(na:Int)<(nb:Int):=by omega
   go_enter Tryz.func126,Tryz.ntmps126
   go_wp2_with fail
   go_ret
   exact ⟨by rw [cmpI_lt HF.out];rfl,Below.refl _ _⟩
  ·have HF:Hid (n<m):=Lib.hid (digs_len_lt (B:=4294967296) (by decide) (by rw [HM.out,HN.out];have:=HNA.out;have:=HNB.out;omega))
   have h1:¬((na:Int)=(nb:Int)):=by omega
   have h2:¬(na:Int)<(nb:Int):=by omega
   go_enter Tryz.func126,Tryz.ntmps126
   go_wp2_with fail
   go_ret
   exact ⟨by rw [cmpI_gt HF.out];rfl,Below.refl _ _⟩
end Go.Proofs.YtblgfmjlajhipaaGreatDoor
namespace Go.Proofs.YtblgfmjlajhipaaGreatDoor
open Go.RowKit Go.Shelf
open Dgt
theorem okB_snoc {B x:Nat} {S:List Nat} (h:okB B S) (hx:x<B):okB B (S++[x]):=h.append fun z hz=>by
 simp only [List.mem_singleton] at hz;subst hz;exact hx
theorem prod_inner {B i j x y p c:Nat} {Q P lb:List Nat} (hQ:Q.length=i+j) (hP:i+j<P.length) (hp:P[i+j]=p) (hj:j<lb.length) (hy:lb[j]=y)
  (hv:valB B Q+B^(i+j)*c=valB B (P.take (i+j))+B^i*(x*valB B (lb.take j))) :
  valB B (Q++[(x*y+p+c)%B])+B^(i+(j+1))*((x*y+p+c)/B)=valB B (P.take (i+(j+1)))+B^i*(x*valB B (lb.take (j+1))):=by
 have h:=carry_step (B:=B) (S:=Q) (x*y+p+c)
 rw [hQ] at h
 rw [←Nat.add_assoc,h,valB_take_succ hP,valB_take_succ hj,hp,hy,Nat.mul_add,Nat.mul_add,Nat.mul_add x,Nat.mul_add (B^i)]
 have e:B^i*(x*(B^j*y))=B^(i+j)*(x*y):=by
  rw [Nat.pow_add,Nat.mul_left_comm x,Nat.mul_assoc]
 rw [e]
 omega
theorem prod_small {B x y p c:Nat} (hx:x<B) (hy:y<B) (hp:p<B) (hc:c<B):(x*y+p+c)/B<B:=by
 rw [Nat.div_lt_iff_lt_mul (by omega)]
 have h1:x*y+y≤B*y:=by rw [←Nat.succ_mul];exact Nat.mul_le_mul_right y hx
 have h2:B*y+B≤B*B:=by rw [←Nat.mul_succ];exact Nat.mul_le_mul_left B hy
 have h3:x*y≤(B-1)*(B-1):=Nat.mul_le_mul (by omega) (by omega)
 have h4:(B-1)*(B-1)+(B-1)+(B-1)+1=B*B:=by
  obtain ⟨b,rfl⟩:∃b,B=b+1:=⟨B-1,by omega⟩
  simp only [Nat.add_sub_cancel,Nat.add_mul,Nat.mul_add];omega
 omega
theorem prod_outer {B i x c:Nat} {Q P la lb:List Nat} (hQ:Q.length=i+lb.length) (hP:P.length=i+lb.length) (hi:i<la.length) (hx:la[i]=x) (hPv:valB B P=valB B (la.take i)*valB B lb)
  (hv:valB B Q+B^(i+lb.length)*c=valB B (P.take (i+lb.length))+B^i*(x*valB B (lb.take lb.length))):valB B (Q++[c])=valB B (la.take (i+1))*valB B lb:=by
 rw [valB_snoc,hQ,hv,List.take_of_length_le (by omega),List.take_length,hPv,valB_take_succ hi,hx,Nat.add_mul,Nat.mul_assoc]
theorem put_mid {Q P Z:List Nat} {k x:Nat} (hQ:Q.length=k) (hk:k<P.length):(Q++(P.drop k++Z)).set k x=(Q++[x])++(P.drop (k+1)++Z):=by
 subst hQ
 rw [List.drop_eq_getElem_cons hk,List.cons_append]
 exact set_here Q _ x _
theorem get_mid {Q P Z:List Nat} {k:Nat} (hQ:Q.length=k) (hk:k<P.length):(Q++(P.drop k++Z))[k]? =some P[k]:=by
 subst hQ
 rw [List.getElem?_append_right (Nat.le_refl _),Nat.sub_self,List.drop_eq_getElem_cons hk]
 rfl
theorem cellsK_some {kd:IntKind} {l:List Nat} {i x:Nat} (h:l[i]? =some x):(cellsK kd l)[i]? =some (.int kd (x:Int)):=by
 simp [cellsK,h]
set_option maxRecDepth 100000 in
theorem product_any (va vb:Value) (la lb:List Nat) (w:World) (ha:Lim w va la) (hb:Lim w vb lb) (hla:la.length≤1000000000) (hlb:lb.length≤1000000000) :
  Calls Tryz.prog 123 #[va,vb] w fun e w' =>∃v',e=.returned v' ∧Lim w' v' (digs 4294967296 (valB 4294967296 la*valB 4294967296 lb))∧Below w.heap.size w w' :=by
 obtain ⟨pa,na,ca,rfl,hna,hca,hcma⟩:=ha.open_
 obtain ⟨pb,nb,cb,rfl,hnb,hcb,hcmb⟩:=hb.open_
 have HLA:=Lib.hid ha;have HLB:=Lib.hid hb
 have hna1:(na:Int)≤1000000000:=by omega
 have hnb1:(nb:Int)≤1000000000:=by omega
 have HNA:=Lib.hid hna;have HNB:=Lib.hid hnb
 clear ha hb hna hnb hla hlb hca hcb hcma hcmb
 obtain ⟨n,hn⟩:∃n,na+nb=n:=⟨_,rfl⟩
 have hmk:=mk_limbs n ((na:Int)+(nb:Int)) (by omega) (by omega)
 have HN:=Lib.hid hn
 clear hn
 go_enter Tryz.func123,Tryz.ntmps123
 go_wp2_with fail
 clear hmk
 have HB:=Lib.hid ((Below.refl w.heap.size w).alloc (Nat.le_refl _) (.cells (cellsK .u32 (List.replicate n 0)) 133))
 have HK:=Lib.hid (heap_alloc_new w (.cells (cellsK .u32 (List.replicate n 0)) 133))
 obtain ⟨w0,hw0⟩:∃w0,w.alloc (.cells (cellsK .u32 (List.replicate n 0)) 133)=w0:=⟨_,rfl⟩
 rw [hw0] at HB HK ⊢
 obtain ⟨g,hg⟩:∃g,w.heap.size=g:=⟨_,rfl⟩
 have hgw:w.heap.size≤g:=Nat.le_of_eq hg
 rw [hg] at HK ⊢
 have HG:=Lib.hid hg
 clear hw0 hg
 go_loopw [20,6,7,8,9,10,11,27] (fun i _ _ _ _ _ _ _ wr=>∃(k:Nat) (P:List Nat),k≤na∧i=.int .i64 (k:Int)∧Hid (P.length=k+nb)∧Hid (okB 4294967296 P)∧Hid (valB 4294967296 P=valB 4294967296 (la.take k)*valB 4294967296 lb) ∧
   Hid (wr.heap[g]? =some (.cells (cellsK .u32 (P++List.replicate (na-k) 0)) 133 (0,0)))∧Hid (Below w.heap.size w wr)) (fun i _ _ _ _ _ _ _ _=>na-(intOf i).toNat)
 case atStart=>exact ⟨0,List.replicate nb 0,by omega,rfl,Lib.hid (by simp),Lib.hid (fun x hx=>by rw [List.eq_of_mem_replicate hx];decide),Lib.hid (by rw [valB_zeros];simp [valB]),Lib.hid (by rw [Nat.sub_zero,List.replicate_append_replicate,Nat.add_comm nb na,HN.out];exact HK.out),HB⟩
 case round =>
  obtain ⟨k,P,hk,rfl,HPL,HPO,HPV,HC,HBW⟩:=hrel
  obtain ⟨wo,hwo⟩:∃wo,wo=wr:=⟨_,rfl⟩
  subst hwo
  by_cases hlt:k<na
  ·have hlt' :(k:Int)<(na:Int):=by omega
   have hkA:k<la.length:=by have:=HNA.out;omega
   obtain ⟨g1,off1,hp1,hg1,hc1⟩:=HLA.out.cell hkA
   have cA:wo.cell? ⟨g1,off1+k,none⟩=some (.int .u32 (la[k]:Int)):=by rw [cell_up2 HBW.out hg1 hg1];exact hc1
   obtain ⟨x,hx⟩:∃x,la[k]=x:=⟨_,rfl⟩
   have hxl:x<4294967296:=by rw [←hx];exact HLA.out.ok.get hkA
   rw [hx] at cA
   subst hp1
   have HX:=Lib.hid hx
   clear hx hc1
   have hxl' :(x:Int)<4294967296:=by omega
   go_wp2_with fail
   go_loopw [27,9,10,11,8] (fun i _ _ _ cv wr=>∃(j c:Nat) (Q:List Nat),j≤nb∧i=.int .i64 (j:Int)∧cv=.int .u64 (c:Int)∧(c:Int)<4294967296∧Hid (Q.length=k+j)∧Hid (okB 4294967296 Q) ∧
     Hid (valB 4294967296 Q+4294967296^(k+j)*c=valB 4294967296 (P.take (k+j))+4294967296^k*(x*valB 4294967296 (lb.take j))) ∧
     Hid (wr.heap[g]? =some (.cells (cellsK .u32 (Q++(P.drop (k+j)++List.replicate (na-k) 0))) 133 (0,0)))∧Hid (Below w.heap.size w wr)) (fun i _ _ _ _ _=>nb-(intOf i).toNat)
   case atStart=>exact ⟨0,0,P.take k,by omega,rfl,rfl,by omega,Lib.hid (by rw [List.length_take,HPL.out];omega),Lib.hid (HPO.out.take _),Lib.hid (by simp [valB]),Lib.hid (by rw [Nat.add_zero, ←List.append_assoc,List.take_append_drop];exact HC.out),HBW⟩
   case round =>
    obtain ⟨j,c,Q,hj,rfl,rfl,hc,HQ,HQO,HQV,HC,HBW⟩:=hrel
    by_cases hjl:j<nb
    ·have hjl' :(j:Int)<(nb:Int):=by omega
     have hjB:j<lb.length:=by have:=HNB.out;omega
     obtain ⟨g2,off2,hp2,hg2,hc2⟩:=HLB.out.cell hjB
     have cB:wr.cell? ⟨g2,off2+j,none⟩=some (.int .u32 (lb[j]:Int)):=by rw [cell_up2 HBW.out hg2 hg2];exact hc2
     obtain ⟨y,hy⟩:∃y,lb[j]=y:=⟨_,rfl⟩
     have hyl:y<4294967296:=by rw [←hy];exact HLB.out.ok.get hjB
     rw [hy] at cB
     subst hp2
     have hkj:k+j<P.length:=by rw [HPL.out];omega
     obtain ⟨p,hp⟩:∃p,P[k+j]=p:=⟨_,rfl⟩
     have hpl:p<4294967296:=by rw [←hp];exact HPO.out.get hkj
     have hst:=prod_inner HQ.out hkj hp hjB hy HQV.out
     have hsm:=prod_small hxl hyl hpl (c:=c) (by omega)
     have hget:=get_mid (Z:=List.replicate (na-k) 0) HQ.out hkj
     rw [hp] at hget
     have cP:wr.cell? ⟨g,k+j,none⟩=some (.int .u32 (p:Int)):=by rw [Lib.cell_of_heap HC.out];exact cellsK_some hget
     have hfr:wr.frozen? ⟨g,k+j,none⟩=false:=Lib.frozen_of_heap HC.out _
     obtain ⟨t,ht⟩:∃t,x*y=t:=⟨_,rfl⟩
     have htl:t≤18446744065119617025:=by rw [←ht];exact Nat.mul_le_mul (show x≤4294967295 by omega) (show y≤4294967295 by omega)
     rw [ht] at hst hsm
     have qt:(x:Int)*(y:Int)=(t:Int):=by rw [←ht];simp
     obtain ⟨r,hr⟩:∃r,(t+p+c)%4294967296=r:=⟨_,rfl⟩
     obtain ⟨c',hc'⟩:∃c',(t+p+c)/4294967296=c' :=⟨_,rfl⟩
     rw [hr,hc'] at hst
     rw [hc'] at hsm
     have hrl:r<4294967296:=by rw [←hr];exact Nat.mod_lt _ (by decide)
     have q1:((t:Int)+(p:Int)+(c:Int))%4294967296=(r:Int):=by omega
     have q2:((t:Int)+(p:Int)+(c:Int))/4294967296=(c' :Int):=by omega
     have htl' :(t:Int)≤18446744065119617025:=by omega
     have hpl' :(p:Int)<4294967296:=by omega
     have hkjn:k+j<n:=by have:=HN.out;omega
     have HST:=Lib.hid hst
     have HPM:=Lib.hid (put_mid (Z:=List.replicate (na-k) 0) (x:=r) HQ.out hkj)
     clear hst hr hc' hy hp hc2 hget ht htl
     go_wp2_with fail
     go_roundw
     case rel=>exact ⟨j+1,c',Q++[r],by omega,by go_num,rfl,by omega,Lib.hid (by rw [List.length_append,HQ.out];rfl),Lib.hid (okB_snoc HQO.out hrl),Lib.hid HST.out,Lib.hid (by rw [show k+(j+1)=k+j+1 from rfl, ←HPM.out];exact set_block HC.out),Lib.hid (HBW.out.setCell (p:=⟨g,k+j,none⟩) hgw _)⟩
     case measure=>simp [intOf];omega
    ·have hge:(nb:Int)≤(j:Int):=by omega
     obtain rfl:j=nb:=by omega
     obtain ⟨m,hm⟩:∃m,na-k=m+1:=⟨na-k-1,by omega⟩
     have hm2:na-(k+1)=m:=by omega
     have hkn:k+j<n:=by have:=HN.out;omega
     have hcl:c<4294967296:=by omega
     have HC2:Hid (wr.heap[g]? =some (.cells (cellsK .u32 (Q++List.replicate (m+1) 0)) 133 (0,0))):=Lib.hid (by
      have:=HC.out
      rwa [List.drop_eq_nil_of_le (by rw [HPL.out];omega),List.nil_append,hm] at this)
     have HSZ:=Lib.hid (set_zeros Q c m)
     have hfr:wr.frozen? ⟨g,k+j,none⟩=false:=Lib.frozen_of_heap HC2.out _
     obtain ⟨z,hz⟩:∃z,wr.cell? ⟨g,k+j,none⟩=some z:=by rw [Lib.cell_of_heap HC2.out];exact ⟨_,cellsK_get (by simp [HQ.out])⟩
     have q1:(c:Int)%4294967296=(c:Int):=by omega
     have HV2:=Lib.hid (prod_outer (c:=c) (la:=la) (lb:=lb) (by rw [HQ.out,HNB.out]) (by rw [HPL.out,HNB.out]) hkA HX.out HPV.out (by have:=HQV.out;rwa [HNB.out] at this))
     have HM:=Lib.hid hm2
     clear hm hm2
     go_wp2_with fail
     go_roundw
     case rel=>exact ⟨k+1,Q++[c],by omega,by go_num,Lib.hid (by rw [List.length_append,HQ.out];simp;omega),Lib.hid (okB_snoc HQO.out hcl),Lib.hid HV2.out,Lib.hid (by rw [HM.out, ←HSZ.out,HQ.out];exact set_block HC2.out),Lib.hid (HBW.out.setCell (p:=⟨g,k+j,none⟩) hgw _)⟩
     case measure=>simp [intOf];omega
  ·have hge:(na:Int)≤(k:Int):=by omega
   obtain rfl:k=na:=by omega
   have HL:Hid (Lim wo (.slice (some ⟨g,0,none⟩) n n) P):=Lib.hid (by
    have h:=LimK.block (kd:=.u32) (B:=4294967296) (W:=wo) (g:=g) (cap:=n) (l:=P) HPO.out (cs:=cellsK .u32 P) (t:=133) (by
     have:=HC.out
     rwa [Nat.sub_self,List.replicate_zero,List.append_nil] at this) (fun i h=>cellsK_get h) (by rw [HPL.out,HN.out];omega) (by have:=HN.out;omega)
    rwa [HPL.out,HN.out] at h)
   have HV2:Hid (trimL 4294967296 P=digs 4294967296 (valB 4294967296 la*valB 4294967296 lb)):=Lib.hid (by
    unfold trimL
    rw [HPV.out,List.take_of_length_le (by have:=HNA.out;omega)])
   go_wp2_with fail
   refine (trim_any _ _ _ HL.out).mono ?_
   rintro e w' ⟨v',rfl,hv,rfl⟩
   go_wp2_with fail
   go_ret
   exact ⟨_,rfl,by rw [←HV2.out];exact hv,HG.out ▸ HBW.out⟩
end Go.Proofs.YtblgfmjlajhipaaGreatDoor
namespace Go.Proofs.YtblgfmjlajhipaaGreatDoor
open Go Go.RowKit

theorem uH {A W : World} {b : Nat} {o : Obj} (hb : Below A.heap.size A W) (h : Hid (A.heap[b]? = some o)) : Hid (W.heap[b]? = some o) := Lib.hid (hpU hb h.out)
theorem mH {A W V : World} (h : Hid (Below A.heap.size A W)) (hb : Below W.heap.size W V) : Hid (Below A.heap.size A V) := Lib.hid (h.out.trans (hb.mono h.out.size))
theorem hD {p : Prop} (h : p) : Hid p := Lib.hid h
abbrev Gv (f : FuncId) (args : Array Value) (w : World) (v : Value) : Prop := Calls Tryz.prog f args w fun e w' => e = .returned v ∧ Below w.heap.size w w'
theorem rB {n : Nat} {w : World} : Below n w w := Below.refl n w
end Go.Proofs.YtblgfmjlajhipaaGreatDoor
