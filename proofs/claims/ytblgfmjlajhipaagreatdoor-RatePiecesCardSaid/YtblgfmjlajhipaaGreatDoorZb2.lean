/- Contracts that the proofs of this seat share. Each theorem names its conditions. -/
import Derived.OwnWalk
import Derived.Laws.AppendOwn
import Derived.Deep.QuietTactic
import Derived.BigQuiet
import Derived.Test.YtblgfmjlajhipaaGreatDoorZb1
import Derived.Test.YtblgfmjlajhipaaGreatDoorZa1
import Derived.Test.YtblgfmjlajhipaaGreatDoorZa3
set_option maxHeartbeats 16000000
set_option linter.unusedVariables false
namespace Go.Proofs.YtblgfmjlajhipaaGreatDoor
open Go.RowKit Go.Shelf
open Dgt
theorem infoInt:(Tryz.prog.info? 3).map (fun i=>(i.zero,i.size,i.bytes))=some (some (.int .i64 0),1,8):=by kernel_rfl
theorem info_partsN {P:Program} {t:TypeId} {z:Value} {a b:Nat} (h:(P.info? t).map (fun i=>(i.zero,i.size,i.bytes))=some (some z,a,b)):∃i,P.info? t=some i∧i.zero=some z∧i.size=a∧i.bytes=b:=by
 rcases hi:P.info? t with _|i
 ·rw [hi] at h;simp at h
 ·rw [hi] at h;simp at h;exact ⟨i,rfl,h.1,h.2.1,h.2.2⟩
theorem cell_fresh (w:World) (x:Value) (t:TypeId):∀(j:Nat) (u:Value),[x][j]? =some u→(w.alloc (.cells #[x] t)).cell? ((⟨w.heap.size,0,none⟩:Addr).add j)=some u:=by
 intro j u h;have hj:j=0:=by have:=(List.getElem?_eq_some_iff.1 h).1;simp at this;omega
 subst hj;simp at h;subst h;rw [show (⟨w.heap.size,0,none⟩:Addr).add 0=⟨w.heap.size,0,none⟩ from rfl,Lib.cell_of_heap (heap_alloc_new w _)];rfl
theorem below_grown {B size:Nat} {A W W' :World} {e:TypeId} {n:Nat} {v:Value} {xs:List Value} {o:Obj} (hb:Below B A W) (ho:W.ownsRow B e size v n xs) (hg:(W.alloc o).grownBy W' v.ownBlock) (hB:B≤A.heap.size):Below B A W' :=by
 refine (hb.alloc (Nat.le_trans hB hb.size) o).grown hg (Nat.le_trans hB (Nat.le_trans hb.size (by simp))) ?_;intro g h;rcases ho.2 with ⟨rfl,_⟩|⟨g',cap,cur,rfl,h1,_⟩
 ·cases h
 ·cases h;exact h1
theorem of_val {m j kk x:Nat} {l:List Nat} (h1:j≤8) (h2:(kk:Int)=56-8*(j:Int)) (h3:0≤(kk:Int)) (hv:valB 256 l.reverse=m/256^(8-j)) (hx:m/2^kk%256=x):Hid (valB 256 (l++[x]).reverse=m/256^(8-(j+1))):=hD (by
 rw [List.reverse_append,List.reverse_singleton,List.singleton_append,valB,hv];have hj:j≤7:=by omega
 have hk:kk=8*(7-j):=by omega
 rw [hk,Nat.pow_mul] at hx;rw [show 8-(j+1)=7-j by omega,show 8-j=(7-j)+1 by omega,Nat.pow_succ, ←Nat.div_div_eq_div_mul];rw [show (2:Nat)^8=256 from rfl] at hx;omega)
def strN (l:List Nat):ByteArray:=⟨(l.map UInt8.ofNat).toArray⟩
theorem numS_strN {l:List Nat} (ho:okB 256 l):numS (strN l)=valB 256 l.reverse:=by
 unfold numS revB strN
 congr 2
 rw [List.map_map];have:∀x ∈ l,(UInt8.toNat∘UInt8.ofNat) x=x:=fun x hx=>by
  show (UInt8.ofNat x).toNat=x;rw [UInt8.toNat_ofNat'];exact Nat.mod_eq_of_lt (ho x hx)
 have h2:=List.map_congr_left this;rw [List.map_id'] at h2;simpa using h2
theorem strN_size (l:List Nat):(strN l).size=l.length:=by
 show (l.map UInt8.ofNat).toArray.size=_;simp
theorem conv_own {dst:TypeId} (hd:Tryz.prog.underlying dst=some .string) {W:World} {base:Nat} {e:TypeId} {v:Value} {l:List Nat} (h:W.ownsRow base e 1 v l.length (digC .u8 l)) (ho:okB 256 l) :
  (convert 106 dst v).run Tryz.prog W=.ok (.string (strN l)) W:=by
 rcases h.2 with ⟨rfl,h0⟩|⟨g,cap,cur,rfl,hg,hgh,hnc,hcm,hcs,hct⟩
 ·have:l=[]:=List.eq_nil_of_length_eq_zero h0;subst this;rw [run_convert_bytes_string W _ _ 5 none 0 0 Tryz.underlying106 Tryz.underlying5 hd];rfl
 ·have h:=run_convert_bytes_back W 106 dst 5 ⟨g,0,none⟩ cap (l.map UInt8.ofNat) Tryz.underlying106 Tryz.underlying5 hd fun j hj=>by
   have hj' :j<l.length:=by simpa using hj
   have hx:(digC .u8 l)[j]? =some (.int .u8 (l[j]:Int)):=by simp [digC,hj']
   have hc:cur[j]? =some (.int .u8 (l[j]:Int)):=by
    rw [←hct,List.getElem?_take] at hx
    split at hx
    ·rw [←Array.getElem?_toList];exact hx
    ·cases hx
   have e:(⟨g,0,none⟩:Addr).add j=⟨g,j,none⟩:=by cases j<;>simp [Addr.add]
   rw [e,Lib.cell_of_heap hgh,hc];simp only [List.getElem_map,UInt8.toNat_ofNat'];rw [Nat.mod_eq_of_lt (ho.get hj')]
  rw [List.length_map] at h;exact h
set_option maxRecDepth 100000 in
theorem rOf_any (n:Int) (w:World) (hn:n<9223372036854775808) :
  Gv 47 #[.int .i64 n] w (.string (encS n.toNat)):=by
 unfold Gv;obtain ⟨i0,hi,hz0,hz1,hz2⟩:=info_partsN infoU8
 by_cases hp:0<n
 ·obtain ⟨m,hm⟩:∃m:Nat,n=(m:Int):=⟨n.toNat,by omega⟩;have hE:n.toNat=m:=by omega
  rw [hE];have HM:=hD hm;have hmb:m<256^8:=by omega
  have HMB:=hD hmb;clear hm hE hmb hn;go_enter Tryz.func47,Tryz.ntmps47;go_wp2_with fail
  go_loopw [3,4] (fun v i wr=>∃(j:Nat) (k:Int) (l:List Nat),i=.int .i64 k∧Hid (j≤8∧k=56-8*(j:Int))∧Hid (l.length=j)∧Hid (okB 256 l)∧Hid (valB 256 l.reverse=m/256^(8-j))∧Hid (wr.ownsRow w.heap.size 5 1 v l.length (digC .u8 l))∧Hid (Below w.heap.size w wr)) (fun _ i _=>(intOf i+8).toNat)
  case atStart=>exact ⟨0,56,[],rfl,hD ⟨by omega,by omega⟩,hD rfl,hD (okB_nil _),hD (by simp [valB];have:=HMB.out;omega),hD (World.ownsRow_nil _ _ _ _),hD rB⟩
  case round =>
   obtain ⟨j,k,l,rfl,HJ,HL,HOK,HV,HOWN,HB⟩:=hrel
   by_cases hlt:0≤k
   ·obtain ⟨kk,rfl⟩:∃kk:Nat,k=(kk:Int):=⟨k.toNat,by omega⟩;have hk56:(kk:Int)≤56:=by have:=HJ.out;omega
    obtain ⟨x,hx⟩:∃x,m/2^kk%256=x:=⟨_,rfl⟩;have q1:n/2^kk%256=(x:Int):=by rw [HM.out, ←hx];simp
    have HX:=hD hx;have hl8:l.length≤8:=by have:=HJ.out;have:=HL.out;omega
    have hlt0:0≤(kk:Int):=hlt;clear hx hlt;go_wp2_with (first|(at_builtin;refine wpList_append_own _ rfl _ _ 106 rfl w.heap.size 5 i0 (.int .u8 0) 1 1 Tryz.underlying106 hi hz0 hz1 hz2 rfl (by decide) _ _ _ rfl (HOWN.out.alloc _) ⟨wr.heap.size,0,none⟩ 1 1 [.int .u8 x] rfl rfl (cell_fresh wr _ _) (by simp [Value.oneCell']) (by unfold maxLen;omega) (by omega) (by have:=HB.out.size;simp;omega) ?_;intro v1 w1 hown' hgrow hnn;have HO1:=hD hown';have HG1:=hD hgrow;clear hown' hgrow hnn)|fail);have HX2:=hD (show x<256 by rw [←HX.out];exact Nat.mod_lt _ (by decide));have HVS:=hD (of_val HJ.out.1 HJ.out.2 hlt0 HV.out HX.out)
    go_roundw
    case rel=>exact ⟨j+1,(kk:Int)-8,l++[x],rfl,hD (by have:=HJ.out;omega),hD (by rw [List.length_append,HL.out];rfl),hD (HOK.out.append (fun y hy=>by simp at hy;rw [hy];exact HX2.out)),HVS,hD (by rw [List.length_append,digC,List.map_append];exact HO1.out),hD (below_grown HB.out HOWN.out HG1.out (Nat.le_refl _))⟩
    case measure=>simp [intOf];omega
   ·have hlt' :k<0:=by omega
    have hj8:j=8:=by have:=HJ.out;omega
    have hcv:=conv_own Tryz.underlying27 HOWN.out HOK.out;have HV8:Hid (numS (strN l)=m):=hD (by rw [numS_strN HOK.out,HV.out,hj8,Nat.sub_self,Nat.pow_zero,Nat.div_one]);have HS8:Hid ((strN l).size≤100000000):=hD (by rw [strN_size,HL.out,hj8];decide);clear hlt hj8;go_wp2_with fail;refine (Canon_any _ _ HS8.out).mono ?_;rintro e w1 ⟨rfl,rfl⟩;rw [HV8.out];go_wp2_with fail;go_ret;exact ⟨rfl,HB.out⟩
 ·have hE:n.toNat=0:=by omega
  have hp' :n≤0:=by omega
  rw [hE];clear hp hE hn;have hcv:(convert 106 27 (.slice none 0 0)).run Tryz.prog w=.ok (.string (strN [])) w:=conv_own (e:=5) (base:=0) Tryz.underlying27 (World.ownsRow_nil _ _ _ _) (okB_nil _);have HV8:Hid (numS (strN [])=0):=hD rfl;go_enter Tryz.func47,Tryz.ntmps47;go_wp2_with fail;refine wp_loop_rounds 1 ?_;rw [rounds_succ];go_wp2_with fail;refine (Canon_any _ _ (by decide)).mono ?_;rintro e w1 ⟨rfl,rfl⟩;rw [HV8.out];go_wp2_with fail;go_ret;exact ⟨rfl,Below.refl _ _⟩
end Go.Proofs.YtblgfmjlajhipaaGreatDoor
namespace Go.Proofs.YtblgfmjlajhipaaGreatDoor
open Go.RowKit Go.Shelf
open Dgt
theorem b24 (j:Nat):(16777216:Nat)^j=256^(3*j):=by rw [Nat.pow_mul]
theorem run_step {N L s k x:Nat} (hs:s≤k) (hk:k<L) (hx:N/256^(L-1-k)%256=x):N/256^(L-k)%256^(k-s)*256+x=N/256^(L-(k+1))%256^(k+1-s):=by
 rw [show L-(k+1)=L-1-k by omega,show L-k=(L-1-k)+1 by omega,show k+1-s=(k-s)+1 by omega,Nat.pow_succ 256 (L-1-k), ←Nat.div_div_eq_div_mul,Nat.pow_succ 256 (k-s),Nat.mul_comm (256^(k-s)) 256];obtain ⟨M,hM⟩:∃M,N/256^(L-1-k)=M:=⟨_,rfl⟩;rw [hM] at hx ⊢;rw [Nat.mod_mul, ←hx];omega
theorem run_digit {N L j e s:Nat} (hN:N<256^L) (he:L=3*j+e) (he0:0<e) (hs:s=e-3):N/256^(L-e)%256^(e-s)=N/16777216^j%16777216:=by
 rw [b24,show L-e=3*j by omega];rcases Nat.lt_or_ge e 3 with h|h
 ·have h1:N/256^(3*j)<256^e:=by
   rw [Nat.div_lt_iff_lt_mul (Nat.pow_pos (by decide)), ←Nat.pow_add,show e+3*j=L by omega];exact hN
  rw [show s=0 by omega,Nat.sub_zero,Nat.mod_eq_of_lt h1,Nat.mod_eq_of_lt];exact Nat.lt_of_lt_of_le h1 (Nat.le_trans (Nat.pow_le_pow_right (by decide) (show e≤3 by omega)) (by decide))
 ·rw [show e-s=3 by omega]
theorem run_val {N j d:Nat} {l:List Nat} (hl:l.length=j) (hv:valB 16777216 l=N%16777216^j) (hd:d=N/16777216^j%16777216):valB 16777216 (l++[d])=N%16777216^(j+1):=by
 rw [valB_snoc,hl,hv,Nat.pow_succ,Nat.mod_mul,hd]
theorem run_end {N j:Nat} {l:List Nat} (ho:okB 16777216 l) (hl:l.length=j) (hv:valB 16777216 l=N%16777216^j) (hL:(encS N).size≤3*j) (hj:j=0∨3*(j-1)<(encS N).size):l=digs 16777216 N:=by
 have hN:=digs_lt (B:=256) (by decide) N;rw [←encS_size] at hN;have h1:N<16777216^j:=by rw [b24];exact Nat.lt_of_lt_of_le hN (Nat.pow_le_pow_right (by decide) hL)
 rw [Nat.mod_eq_of_lt h1] at hv;refine valB_inj ho (okB_digs (by decide) _) ?_ (by rw [hv,valB_digs (by decide)]);rw [hl];rcases Nat.eq_zero_or_pos N with rfl|h0
 ·rw [digs_zero];rcases hj with h|h
  ·exact h
  ·rw [encS_size,digs_zero] at h;simp at h
 ·have h2:=digs_ge (B:=256) (by decide) h0;rw [←encS_size] at h2;rcases hj with rfl|h
  ·simp at h1;omega
  ·have hj0:0<j:=by
    rcases Nat.eq_zero_or_pos j with rfl|h'
    ·simp at h1;omega
    ·exact h'
   have h3:16777216^(j-1)≤N:=by rw [b24];exact Nat.le_trans (Nat.pow_le_pow_right (by decide) (by omega)) h2
   have h4:=digs_len_eq (B:=16777216) (k:=j-1) (by decide) h3 (by rw [show j-1+1=j by omega];exact h1);omega
set_option maxRecDepth 100000 in
theorem rof_any (a:ByteArray) (w:World) (ha:a.size≤100000000) :
  Calls Tryz.prog 90 #[.string a] w fun e w' =>∃v,e=.returned v∧LimR w' v (digs 16777216 (numS a))∧Below w.heap.size w w' :=by
 obtain ⟨i0,hi,hz0,hz1,hz2⟩:=info_partsN infoInt;have HC:=hD (Canon_any a · ha);have hl:=encS_len_le a;obtain ⟨N,hN⟩:∃N,numS a=N:=⟨_,rfl⟩;rw [hN] at HC hl ⊢;have HNL:Hid (N<256^(encS N).size):=hD (by rw [encS_size];exact digs_lt (by decide) N);have HBY:=hD (fun k (h:k<(encS N).size)=>byte_at N h);have HEND:=hD (fun j l (h1:okB 16777216 l) h2 h3 h4 h5=>run_end (N:=N) (j:=j) (l:=l) h1 h2 h3 h4 h5);obtain ⟨c,hc⟩:∃c,encS N=c:=⟨_,rfl⟩;rw [hc] at HC HNL HEND;have HCE:=hD hc;have hc8:(c.size:Int)≤100000000:=by rw [←hc];omega
 have HC8:Hid (c.size≤100000000):=hD (by omega);clear hN hl ha hc;go_enter Tryz.func90,Tryz.ntmps90;go_wp2_with fail;refine (HC.out _).mono ?_;rintro e w1 ⟨rfl,rfl⟩;clear HC;go_wp2_with fail
 go_loopw [3,4] (fun v i wr=>∃(j:Nat) (k:Int) (l:List Nat),i=.int .i64 k∧Hid (k=(c.size:Int)-3*(j:Int))∧Hid (-3<k)∧Hid (l.length=j)∧Hid (okB 16777216 l)∧Hid (valB 16777216 l=N%16777216^j)∧Hid (wr.ownsRow w.heap.size 3 1 v l.length (digC .i64 l))∧Hid (Below w.heap.size w wr)) (fun _ i _=>(intOf i+3).toNat)
 case atStart=>exact ⟨0,_,[],rfl,hD (by omega),hD (by omega),hD rfl,hD (okB_nil _),hD (by simp [valB,Nat.mod_one]),hD (World.ownsRow_nil _ _ _ _),hD rB⟩
 case round =>
  obtain ⟨j,k,l,rfl,HK,HK3,HL,HOK,HV,HOWN,HB⟩:=hrel
  by_cases hlt:0<k
  ·obtain ⟨e,rfl⟩:∃e:Nat,k=(e:Int):=⟨k.toNat,by omega⟩;obtain ⟨s,hs⟩:∃s,e-3=s:=⟨_,rfl⟩;have hms:max ((e:Int)-3) 0=(s:Int):=by omega
   have hec:(e:Int)≤(c.size:Int):=by have:=HK.out;omega
   have HS:=hD hs;have HE0:Hid (0<e):=hD (by omega);clear hs;go_wp2_with fail
   go_loop [5,6] (fun d i=>∃q:Nat,Hid (s≤q)∧Hid (q≤e)∧i=.int .i64 (q:Int)∧d=.int .i64 ((N/256^(c.size-q)%256^(q-s):Nat):Int)) (fun _ i=>e-(intOf i).toNat)
   case atStart=>exact ⟨s,hD (Nat.le_refl _),hD (by have:=HS.out;omega),rfl,by rw [Nat.sub_self,Nat.pow_zero,Nat.mod_one];rfl⟩
   case round =>
    obtain ⟨q,HQ1,HQ2,rfl,rfl⟩:=hrel
    by_cases hql:q<e
    ·have hqc:q<c.size:=by omega
     have hby:c[q].toNat=N/256^(c.size-1-q)%256:=by
      have h:=HBY.out q (by rw [HCE.out];exact hqc);simp only [HCE.out] at h;exact h
     have hst:=run_step (N:=N) HQ1.out hqc hby.symm;obtain ⟨x,hx⟩:∃x,c[q].toNat=x:=⟨_,rfl⟩;have hxl:(x:Int)<256:=by have:=(c[q]).toNat_lt;omega
     have hdl:N/256^(c.size-q)%256^(q-s)<256^(q-s):=Nat.mod_lt _ (Nat.pow_pos (by decide));have hdl2:256^(q-s)≤256^2:=Nat.pow_le_pow_right (by decide) (by have:=HS.out;omega);obtain ⟨d,hd⟩:∃d,N/256^(c.size-q)%256^(q-s)=d:=⟨_,rfl⟩;obtain ⟨d2,hd2⟩:∃d2,N/256^(c.size-(q+1))%256^(q+1-s)=d2:=⟨_,rfl⟩;rw [hx,hd,hd2] at hst;rw [hd] at hdl ⊢;have hd9:(d:Int)<65536:=by omega
     have f1:(d:Int)*256+(x:Int)=(d2:Int):=by omega
     have hql' :(q:Int)<(e:Int):=by omega
     have HD2:=hD hd2;clear hd hd2 hst hdl hdl2 hby;go_wp2_with fail
     go_round
     case rel=>exact ⟨q+1,hD (by have:=HQ1.out;omega),hD (by omega),by go_num,by rw [HD2.out]⟩
     case measure=>simp [intOf];omega
    ·have hqe:q=e:=by have:=HQ2.out;omega
     subst hqe;have hd:=run_digit (N:=N) (L:=c.size) (j:=j) (e:=q) (s:=s) HNL.out (by have:=HK.out;omega) HE0.out HS.out.symm;rw [hd];obtain ⟨d,hd2⟩:∃d,N/16777216^j%16777216=d:=⟨_,rfl⟩;rw [hd2];have HVS:=hD (run_val HL.out HV.out hd2.symm);have HDB:Hid (d<16777216):=hD (by rw [←hd2];exact Nat.mod_lt _ (by decide));have hqq:¬(q:Int)<(q:Int):=by omega
     have hl8:(l.length:Int)≤100000000:=by have:=HL.out;have:=HK.out;omega
     have hq9:(q:Int)≤100000000:=by omega
     clear hd hd2 hql hec hms;go_wp2_with (first|(at_builtin;refine wpList_append_own _ rfl _ _ 76 rfl w.heap.size 3 i0 (.int .i64 0) 1 8 Tryz.underlying76 hi hz0 hz1 hz2 rfl (by decide) _ _ _ rfl (HOWN.out.alloc _) ⟨wr.heap.size,0,none⟩ 1 1 [.int .i64 d] rfl rfl (cell_fresh wr _ _) (by simp [Value.oneCell']) (by unfold maxLen;omega) (by omega) (by have:=HB.out.size;simp;omega) ?_;intro v1 w1 hown' hgrow hnn;have HO1:=hD hown';have HG1:=hD hgrow;clear hown' hgrow hnn)|fail)
     go_roundw
     case rel=>exact ⟨j+1,(q:Int)-3,l++[d],rfl,hD (by have:=HK.out;omega),hD (by have:=HE0.out;omega),hD (by rw [List.length_append,HL.out];rfl),hD (HOK.out.append (fun y hy=>by simp at hy;rw [hy];exact HDB.out)),HVS,hD (by rw [List.length_append,digC,List.map_append];exact HO1.out),hD (below_grown HB.out HOWN.out HG1.out (Nat.le_refl _))⟩
     case measure=>simp [intOf];have:=HE0.out;omega
  ·have hlt' :k≤0:=by omega
   have hlt2:¬0<k:=hlt;have hfin:=HEND.out j l HOK.out HL.out HV.out (by have:=HK.out;omega) (by have:=HK.out;have:=HK3.out;omega);have HLR:=hD (LimR.own HOWN.out HOK.out (by have:=HL.out;have:=HK.out;have:=HC8.out;have:=HK3.out;omega));have HFIN:=hD hfin;clear hfin hlt hlt';go_wp2_with fail;go_ret;exact ⟨_,rfl,by rw [←HFIN.out];exact HLR.out,HB.out⟩
end Go.Proofs.YtblgfmjlajhipaaGreatDoor
namespace Go.Proofs.YtblgfmjlajhipaaGreatDoor
open Go.RowKit Go.Shelf
open Dgt
theorem three_val {x V:Nat} {b:List Nat} (hx:x<16777216) (hv:valB 256 b.reverse=V):valB 256 (b++[x/65536,x/256%256,x%256]).reverse=x+16777216*V:=by
 rw [List.reverse_append];simp only [List.reverse_cons,List.reverse_nil,List.nil_append,List.cons_append,valB,hv];omega
theorem drop_val {l:List Nat} {k:Nat} (h:k<l.length):valB 16777216 (l.drop k)=l[k]+16777216*valB 16777216 (l.drop (k+1)):=by
 rw [List.drop_eq_getElem_cons h];rfl
theorem own_up {B size:Nat} {A W:World} {e:TypeId} {v:Value} {n:Nat} {xs:List Value} (h:A.ownsRow B e size v n xs) (hb:Below A.heap.size A W):W.ownsRow B e size v n xs:=by
 refine ⟨h.1,?_⟩;rcases h.2 with h0|⟨g,cap,cur,e1,h1,h2,h3⟩
 ·exact .inl h0
 ·exact .inr ⟨g,cap,cur,e1,h1,hpU hb h2,h3⟩
theorem below_own {B size:Nat} {A W W' :World} {e:TypeId} {n:Nat} {v:Value} {xs:List Value} (hb:Below B A W) (ho:W.ownsRow B e size v n xs) (hg:W.grownBy W' v.ownBlock) (hB:B≤A.heap.size):Below B A W' :=by
 refine hb.grown hg (Nat.le_trans hB hb.size) ?_;intro g h;rcases ho.2 with ⟨rfl,_⟩|⟨g',cap,cur,rfl,h1,_⟩
 ·cases h
 ·cases h;exact h1
def ENM (u:Value) (g off n cap q x x1 x2 x3:Nat):Nat→Value
 | 0=>u
 | 1=>.slice (some ⟨g,off,none⟩) n cap
 | 2=>.int .i64 (q:Int)
 | 3=>.pointer (some ⟨g,off+q,none⟩)
 | 4=>.int .i64 (x:Int)
 | 5=>.int .i64 (x1:Int)
 | 6=>.int .u8 (x1:Int)
 | 7=>.slice (some ⟨g,off,none⟩) n cap
 | 8=>.int .i64 (q:Int)
 | 9=>.pointer (some ⟨g,off+q,none⟩)
 | 10=>.int .i64 (x:Int)
 | 11=>.int .i64 ((x:Int)/256)
 | 12=>.int .u8 (x2:Int)
 | 13=>.slice (some ⟨g,off,none⟩) n cap
 | 14=>.int .i64 (q:Int)
 | 15=>.pointer (some ⟨g,off+q,none⟩)
 | 16=>.int .i64 (x:Int)
 | 17=>.int .u8 (x3:Int)
 | _=>undef
def SNM (u:Value) (g off n cap q x x1 x2 x3:Nat) (ix:Nat) (v:Value) (w:World):Prop :=
 match ix with
 | 18=>∃gb,v=.slice (some ⟨gb,0,none⟩) 3 3∧w.heap[gb]? =some (.cells #[.int .u8 (x1:Int),.int .u8 (x2:Int),.int .u8 (x3:Int)] 5 (0,0))
 | ix=>v=ENM u g off n cap q x x1 x2 x3 ix
theorem SNM_up (u:Value) (g off n cap q x x1 x2 x3:Nat) (ix:Nat) (v:Value) (w w' :World) (hb:Below w.heap.size w w') (h:SNM u g off n cap q x x1 x2 x3 ix v w):SNM u g off n cap q x x1 x2 x3 ix v w' :=by
 unfold SNM at h ⊢
 split at h
 ·exact by obtain ⟨gb,e1,e2⟩:=h;exact ⟨gb,e1,hpU hb e2⟩
 ·exact h
set_option maxRecDepth 100000 in
theorem rnumber_any (v:Value) (l:List Nat) (w:World) (hl:LimR w v l) (h30:l.length≤30000000) :
  Gv 91 #[v] w (.string (encS (valB 16777216 l))):=by
 unfold Gv;obtain ⟨i0,hi,hz0,hz1,hz2⟩:=info_partsN infoU8;obtain ⟨p,n,cap,rfl,hn,hcp,-⟩:=hl.open_;have HL:=hD hl;have HN:=hD hn;have hn9:(n:Int)≤30000000:=by omega
 have H30:=hD h30;clear hl hn h30;go_enter Tryz.func91,Tryz.ntmps91;go_wp2_with fail
 go_loopw [3,4] (fun u i wr=>∃(j:Nat) (k:Int) (b:List Nat),i=.int .i64 k∧Hid (k=(n:Int)-1-(j:Int))∧Hid (-1≤k)∧Hid (b.length=3*j)∧Hid (okB 256 b)∧Hid (valB 256 b.reverse=valB 16777216 (l.drop (n-j)))∧Hid (wr.ownsRow w.heap.size 5 1 u b.length (digC .u8 b))∧Hid (Below w.heap.size w wr)) (fun _ i _=>(intOf i+1).toNat)
 case atStart=>exact ⟨0,_,[],rfl,hD (by omega),hD (by omega),hD rfl,hD (okB_nil _),hD (by rw [Nat.sub_zero,HN.out,List.drop_length];rfl),hD (World.ownsRow_nil _ _ _ _),hD rB⟩
 case round =>
  obtain ⟨j,k,b,rfl,HK,HK1,HBL,HOK,HV,HOWN,HB⟩:=hrel
  by_cases hlt:0≤k
  ·obtain ⟨q,rfl⟩:∃q:Nat,k=(q:Int):=⟨k.toNat,by omega⟩;have hqn:q<n:=by have:=HK.out;omega
   have hql:q<l.length:=by have:=HN.out;omega
   obtain ⟨g,off,rfl,hg,hcell⟩:=HL.out.cell hql;have hdv:=drop_val hql;have hxl:=HL.out.ok.get hql;obtain ⟨x,hx⟩:∃x,l[q]=x:=⟨_,rfl⟩;rw [hx] at hcell hdv hxl;have h3:=three_val (b:=b) hxl HV.out;have hqn' :(q:Int)<(n:Int):=by omega
   have hqc:(q:Int)<(cap:Int):=by omega
   have c1:wr.cell? ⟨g,off+q,none⟩=some (.int .i64 (x:Int)):=by rw [clU HB.out hg];exact hcell
   obtain ⟨x1,hx1⟩:∃x1,x/65536=x1:=⟨_,rfl⟩;obtain ⟨x2,hx2⟩:∃x2,x/256%256=x2:=⟨_,rfl⟩;obtain ⟨x3,hx3⟩:∃x3,x%256=x3:=⟨_,rfl⟩;rw [hx1,hx2,hx3] at h3;have q1:(x:Int)/65536=(x1:Int):=by omega
   have q2:IntKind.u8.wrap (x1:Int)=(x1:Int):=by rw [IntKind.wrap_u8'];omega
   have q3:IntKind.u8.wrap ((x:Int)/256)=(x2:Int):=by rw [IntKind.wrap_u8'];omega
   have q4:IntKind.u8.wrap (x:Int)=(x3:Int):=by rw [IntKind.wrap_u8'];omega
   have H3:=hD h3;have HDV:=hD hdv;have HXB:Hid (x1<256∧x2<256∧x3<256):=hD (by omega);clear h3 hdv hx hx1 hx2 hx3 hcell hql hqn hlt hxl;have hb9:b.length≤90000000:=by have:=HBL.out;have:=HK.out;omega
   have hcell:∀W,Below wr.heap.size wr W→W.cell? ⟨g,off+q,none⟩=some (.int .i64 (x:Int)):=fun W h=>by rw [clU h (Nat.lt_of_lt_of_le hg HB.out.size)];exact c1
   clear c1;go_wp2_with fail;obtain ⟨wo,hwo⟩:∃wo,wo=wr:=⟨_,rfl⟩;subst hwo;obtain ⟨u,hu⟩:∃u,u=u3:=⟨_,rfl⟩;subst hu;refine wp_region_last (w:=wo) (by kernel_rfl) (SNM u g off n cap q x x1 x2 x3) (fun v w' =>w'.ownsRow w.heap.size 5 1 v (b.length+3) (digC .u8 b++[.int .u8 (x1:Int),.int .u8 (x2:Int),.int .u8 (x3:Int)])∧Below w.heap.size w w') 19 (fun t=>(decide (3≤t)&&decide (t<4))||(decide (12≤t)&&decide (t<32))) (by kernel_rfl) (by kernel_rfl) (by kernel_rfl) (by kernel_rfl) (by kernel_rfl) rfl (SNM_up u g off n cap q x x1 x2 x3) ?_ ?_ ?_ ?_
   ·intro i hi o listed a w hR K hK;have ho:=hR.at_;have hi:i<19:=hi;have hii:i=0∨i=1∨i=2∨i=3∨i=4∨i=5∨i=6∨i=7∨i=8∨i=9∨i=10∨i=11∨i=12∨i=13∨i=14∨i=15∨i=16∨i=17∨i=18:=by omega
    rcases hii with rfl|rfl|rfl|rfl|rfl|rfl|rfl|rfl|rfl|rfl|rfl|rfl|rfl|rfl|rfl|rfl|rfl|rfl|rfl
    ·simp at ho;subst ho;have b3:a.tmps.getD 3 undef=u:=hR.early (j:=20) (by kernel_rfl) rfl ⟨0,.phase⟩ (by simp) rfl rfl;refine pSq ?_;go_simp;exact hK _ _ rfl rB
    ·simp at ho;subst ho;have b0:a.tmps.getD 0 undef=.slice (some ⟨g,off,none⟩) n cap:=hR.b 0;refine pSq ?_;go_simp;exact hK _ _ rfl rB
    ·simp at ho;subst ho;have b4:a.tmps.getD 4 undef=.int .i64 (q:Int):=hR.b 4;refine pSq ?_;go_simp;exact hK _ _ rfl rB
    ·simp at ho;subst ho;have e1:a.tmps.getD 13 undef=.slice (some ⟨g,off,none⟩) n cap:=hR.t 1;have e2:a.tmps.getD 14 undef=.int .i64 (q:Int):=hR.t 2;refine pSq ?_;go_simp;exact hK _ _ rfl rB
    ·simp at ho;subst ho;have e3:a.tmps.getD 15 undef=.pointer (some ⟨g,off+q,none⟩):=hR.t 3;have c1:=hcell w hR.below;refine pSq ?_;go_simp;exact hK _ _ rfl rB
    ·simp at ho;subst ho;have e4:a.tmps.getD 16 undef=.int .i64 (x:Int):=hR.t 4;refine pSq ?_;go_simp;exact hK _ _ rfl rB
    ·simp at ho;subst ho;have e5:a.tmps.getD 17 undef=.int .i64 (x1:Int):=hR.t 5;refine pSq ?_;go_simp;exact hK _ _ rfl rB
    ·simp at ho;subst ho;have b0:a.tmps.getD 0 undef=.slice (some ⟨g,off,none⟩) n cap:=hR.b 0;refine pSq ?_;go_simp;exact hK _ _ rfl rB
    ·simp at ho;subst ho;have b4:a.tmps.getD 4 undef=.int .i64 (q:Int):=hR.b 4;refine pSq ?_;go_simp;exact hK _ _ rfl rB
    ·simp at ho;subst ho;have e7:a.tmps.getD 19 undef=.slice (some ⟨g,off,none⟩) n cap:=hR.t 7;have e8:a.tmps.getD 20 undef=.int .i64 (q:Int):=hR.t 8;refine pSq ?_;go_simp;exact hK _ _ rfl rB
    ·simp at ho;subst ho;have e9:a.tmps.getD 21 undef=.pointer (some ⟨g,off+q,none⟩):=hR.t 9;have c1:=hcell w hR.below;refine pSq ?_;go_simp;exact hK _ _ rfl rB
    ·simp at ho;subst ho;have e10:a.tmps.getD 22 undef=.int .i64 (x:Int):=hR.t 10;refine pSq ?_;go_simp;exact hK _ _ rfl rB
    ·simp at ho;subst ho;have e11:a.tmps.getD 23 undef=.int .i64 ((x:Int)/256):=hR.t 11;refine pSq ?_;go_simp;exact hK _ _ rfl rB
    ·simp at ho;subst ho;have b0:a.tmps.getD 0 undef=.slice (some ⟨g,off,none⟩) n cap:=hR.b 0;refine pSq ?_;go_simp;exact hK _ _ rfl rB
    ·simp at ho;subst ho;have b4:a.tmps.getD 4 undef=.int .i64 (q:Int):=hR.b 4;refine pSq ?_;go_simp;exact hK _ _ rfl rB
    ·simp at ho;subst ho;have e13:a.tmps.getD 25 undef=.slice (some ⟨g,off,none⟩) n cap:=hR.t 13;have e14:a.tmps.getD 26 undef=.int .i64 (q:Int):=hR.t 14;refine pSq ?_;go_simp;exact hK _ _ rfl rB
    ·simp at ho;subst ho;have e15:a.tmps.getD 27 undef=.pointer (some ⟨g,off+q,none⟩):=hR.t 15;have c1:=hcell w hR.below;refine pSq ?_;go_simp;exact hK _ _ rfl rB
    ·simp at ho;subst ho;have e16:a.tmps.getD 28 undef=.int .i64 (x:Int):=hR.t 16;refine pSq ?_;go_simp;exact hK _ _ rfl rB
    ·simp at ho;subst ho;have e6:a.tmps.getD 18 undef=.int .u8 (x1:Int):=hR.t 6;have e12:a.tmps.getD 24 undef=.int .u8 (x2:Int):=hR.t 12;have e17:a.tmps.getD 29 undef=.int .u8 (x3:Int):=hR.t 17;have f6:(a.tmps[18]?).getD undef=.int .u8 (x1:Int):=by rw [←Array.getD_eq_getD_getElem?];exact e6
     have f12:(a.tmps[24]?).getD undef=.int .u8 (x2:Int):=by rw [←Array.getD_eq_getD_getElem?];exact e12
     have f17:(a.tmps[29]?).getD undef=.int .u8 (x3:Int):=by rw [←Array.getD_eq_getD_getElem?];exact e17
     refine pSq ?_;go_simp;exact hK _ _ (⟨_,rfl,heap_alloc_new _ _⟩) (rB.alloc (Nat.le_refl _) _)
   ·intro o a w' ho hS hbw hbase K hK;simp at ho;subst ho;have e0:a.tmps.getD 12 undef=u:=hS 0 (by decide);obtain ⟨gb,e18,hgb⟩:∃gb,a.tmps.getD 30 undef=.slice (some ⟨gb,0,none⟩) 3 3∧w'.heap[gb]? =some (.cells #[.int .u8 (x1:Int),.int .u8 (x2:Int),.int .u8 (x3:Int)] 5 (0,0)):=hS 18 (by decide);have hown:=own_up HOWN.out hbw;have hbl:=HB.out.trans (hbw.mono HB.out.size);refine pSq ?_;refine wp_append_own w' (.tmp 12) (.tmp 30) 106 rfl w.heap.size 5 i0 (.int .u8 0) 1 1 Tryz.underlying106 hi hz0 hz1 hz2 rfl (by decide) u b.length _ e0 hown ⟨gb,0,none⟩ 3 3 [.int .u8 (x1:Int),.int .u8 (x2:Int),.int .u8 (x3:Int)] e18 rfl (fun j z hj=> ?_) (by simp [Value.oneCell']) (by have:=hb9;unfold maxLen;omega) (by have:=hb9;omega) hbl.size ?_
    ·have e:(⟨gb,0,none⟩:Addr).add j=⟨gb,j,none⟩:=by cases j<;>simp [Addr.add]
     rw [e,Lib.cell_of_heap hgb];simpa using hj
    ·intro v' w'' h1 h2 h3;exact hK v' w'' ⟨h1,below_own hbl hown h2 (Nat.le_refl _)⟩
   ·intro o a w' ho hU K hK;simp at ho;subst ho;have hU' :w'.ownsRow w.heap.size 5 1 (a.tmps.getD 31 undef) (b.length+3) (digC .u8 b++[.int .u8 (x1:Int),.int .u8 (x2:Int),.int .u8 (x3:Int)])∧Below w.heap.size w w' :=hU;obtain ⟨z,hz⟩:∃z,a.tmps.getD 31 undef=z:=⟨_,rfl⟩;rw [hz] at hU';clear hU;refine pSq ?_;go_simp;exact hK _ hU'
   ·intro s w1 hU1 hU2;simp only [over,ovL,Nat.reduceAdd,Nat.reduceLeDiff,Nat.reduceLT];have HO1:=hD hU2.1;have HB1:=hD hU2.2;clear hU1 hU2 hb9;go_wp2_with fail
    go_roundw
    case rel=>exact ⟨j+1,(q:Int)-1,b++[x1,x2,x3],rfl,hD (by have:=HK.out;omega),hD (by omega),hD (by rw [List.length_append,HBL.out];simp;omega),hD (HOK.out.append (fun y hy=>by simp at hy;have:=HXB.out;rcases hy with rfl|rfl|rfl<;>omega)),hD (by rw [H3.out,show n-(j+1)=q by have:=HK.out;omega,HDV.out,show n-j=q+1 by have:=HK.out;omega]),hD (by rw [List.length_append,digC,List.map_append];exact HO1.out),HB1⟩
    case measure=>simp [intOf]
  ·have hlt' :k<0:=by omega
   have hj:j=n:=by have:=HK.out;have:=HK1.out;omega
   have hcv:=conv_own Tryz.underlying27 HOWN.out HOK.out;have HV8:Hid (numS (strN b)=valB 16777216 l):=hD (by rw [numS_strN HOK.out,HV.out,hj,Nat.sub_self,List.drop_zero]);have HS8:Hid ((strN b).size≤100000000):=hD (by rw [strN_size,HBL.out,hj];omega);clear hlt hj;go_wp2_with fail;refine (Canon_any _ _ HS8.out).mono ?_;rintro e w1 ⟨rfl,rfl⟩;rw [HV8.out];go_wp2_with fail;go_ret;exact ⟨rfl,HB.out⟩
end Go.Proofs.YtblgfmjlajhipaaGreatDoor
namespace Go.Proofs.YtblgfmjlajhipaaGreatDoor
open Go.RowKit Go.Shelf
open Dgt
theorem take_getD (B:Nat) (l:List Nat) (k:Nat):valB B (l.take (k+1))=valB B (l.take k)+B^k*l.getD k 0:=by
 rcases Nat.lt_or_ge k l.length with h|h
 ·rw [valB_take_succ h,List.getD_eq_getElem?_getD,List.getElem?_eq_getElem h];rfl
 ·rw [List.take_of_length_le (by omega),List.take_of_length_le h,List.getD_eq_getElem?_getD,List.getElem?_eq_none h];simp
theorem getD_lt {B:Nat} (hB:0<B) {l:List Nat} (h:okB B l) (k:Nat):l.getD k 0<B:=by
 rcases Nat.lt_or_ge k l.length with h1|h1
 ·rw [List.getD_eq_getElem?_getD,List.getElem?_eq_getElem h1];exact h.get h1
 ·rw [List.getD_eq_getElem?_getD,List.getElem?_eq_none h1];exact hB
theorem getD_ge {l:List Nat} {k:Nat} (h:l.length≤k):l.getD k 0=0:=by rw [List.getD_eq_getElem?_getD,List.getElem?_eq_none h];rfl
theorem getD_at {l:List Nat} {k:Nat} (h:k<l.length):l.getD k 0=l[k]:=by rw [List.getD_eq_getElem?_getD,List.getElem?_eq_getElem h];rfl
theorem add_round {B k c x y s Tu Tv:Nat} {o:List Nat} (hl:o.length=k) (hv:valB B o+c*B^k=Tu+Tv) (hs:s=c+x+y) :
  valB B (o++[s%B])+s/B*B^(k+1)=(Tu+B^k*x)+(Tv+B^k*y):=by
 rw [valB_snoc,hl,Nat.pow_succ];obtain ⟨P,hP⟩:∃P,B^k=P:=⟨_,rfl⟩;rw [hP] at hv ⊢;have h1:P*(s%B)+s/B*(P*B)=P*s:=by
  have:=Nat.div_add_mod s B;rw [Nat.mul_left_comm, ←Nat.mul_add,Nat.mul_comm (s/B) B,Nat.add_comm,this]
 rw [Nat.add_assoc,h1,hs,Nat.mul_add,Nat.mul_add];rw [Nat.mul_comm c P] at hv;omega
set_option maxRecDepth 100000 in
theorem rAdd_any (a b:ByteArray) (w:World) (ha:a.size≤9000000) (hb:b.size≤9000000) :
  Gv 48 #[.string a,.string b] w (.string (encS (numS a+numS b))):=by
 unfold Gv;obtain ⟨i0,hi,hz0,hz1,hz2⟩:=info_partsN infoInt;have SMA:=hD (small_any a 7 · (by omega) (by decide));have SMB:=hD (small_any b 7 · (by omega) (by decide));have OA:=hD (rof_any a · (by omega));have OB:=hD (rof_any b · (by omega));have la:(digs 16777216 (numS a)).length≤9000000:=Nat.le_trans (digs_len_le (by decide) (Nat.lt_of_lt_of_le (numS_lt a) (Nat.pow_le_pow_left (by decide) _))) ha;have lb:(digs 16777216 (numS b)).length≤9000000:=Nat.le_trans (digs_len_le (by decide) (Nat.lt_of_lt_of_le (numS_lt b) (Nat.pow_le_pow_left (by decide) _))) hb;have HA:=hD ha;have HB0:=hD hb;obtain ⟨A,hA⟩:∃A,numS a=A:=⟨_,rfl⟩;obtain ⟨B,hB⟩:∃B,numS b=B:=⟨_,rfl⟩;rw [hA] at SMA OA la;rw [hB] at SMB OB lb;rw [hA,hB];have LA:=hD la;have LB:=hD lb;clear ha hb la lb hA hB
 by_cases hab:(encS A).size≤7∧(encS B).size≤7
 ·obtain ⟨a1,a2,a3,-⟩:=small_yes (m:=A) hab.1 (by decide);obtain ⟨b1,b2,b3,-⟩:=small_yes (m:=B) hab.2 (by decide);rw [a1,a2] at SMA;rw [b1,b2] at SMB;have hA9:(A:Int)<72057594037927936:=by omega
  have hB9:(B:Int)<72057594037927936:=by omega
  have HOF:=hD (fun w=>rOf_any ((A:Int)+(B:Int)) w (by omega));have e:((A:Int)+(B:Int)).toNat=A+B:=by omega
  rw [e] at HOF;clear hab a1 a2 a3 b1 b2 b3 e;go_enter Tryz.func48,Tryz.ntmps48;go_wp2_with fail;refine (SMA.out _).mono ?_;rintro e w1 ⟨rfl,rfl⟩;go_wp2_with fail;refine (SMB.out _).mono ?_;rintro e w1 ⟨rfl,rfl⟩;go_wp2_with fail;refine (HOF.out _).mono ?_;rintro e w1 ⟨rfl,hb⟩;have HBX:=hD hb;clear hb;go_wp2_with fail;go_ret;exact ⟨rfl,HBX.out⟩
 obtain ⟨p1,x1,hp1⟩:∃p x,(fun w=>small_any a 7 w)=(fun w=>small_any a 7 w)∧p=smallB A 7∧x=smallV A 7:=⟨_,_,rfl,rfl,rfl⟩;obtain ⟨p2,x2,hp2⟩:∃p x,p=smallB B 7∧x=smallV B 7:=⟨_,_,rfl,rfl⟩;have hpp:p1=false∨(p1=true∧p2=false):=by
  rw [hp1.2.1,hp2.1];rcases Nat.lt_or_ge 7 (encS A).size with h|h
  ·exact .inl (small_no h).1
  ·refine .inr ⟨(small_yes h (by decide)).1,(small_no ?_).1⟩;rcases Nat.lt_or_ge 7 (encS B).size with h' |h'
   ·exact h'
   ·exact absurd ⟨h,h'⟩ hab
 rw [←hp1.2.1, ←hp1.2.2] at SMA;rw [←hp2.1, ←hp2.2] at SMB;clear hp1 hp2 hab;go_enter Tryz.func48,Tryz.ntmps48;go_wp2_with fail;refine (SMA.out _).mono ?_;rintro e w1 ⟨rfl,rfl⟩;go_wp2_with fail;refine (SMB.out _).mono ?_;rintro e w1 ⟨rfl,rfl⟩;rcases hpp with rfl|⟨rfl,rfl⟩
 all_goals
  go_wp2_with fail;refine (OA.out _).mono ?_;rintro e w1 ⟨vu,rfl,hl,hb⟩;have HU:=hD hl;have HB:=hD hb;clear hl hb;go_wp2_with fail;refine (OB.out _).mono ?_;rintro e w2 ⟨vv,rfl,hl,hb⟩;have HU:=hD (HU.out.up hb);have HV:=hD hl;have HB:=mH HB hb;clear hl hb;obtain ⟨pu,nu,cu,rfl,hnu,hcu,-⟩:=HU.out.open_;obtain ⟨pv,nv,cv,rfl,hnv,hcv,-⟩:=HV.out.open_;obtain ⟨U,hU⟩:∃U,digs 16777216 A=U:=⟨_,rfl⟩;obtain ⟨V,hV⟩:∃V,digs 16777216 B=V:=⟨_,rfl⟩;have hUV:valB 16777216 U=A:=by rw [←hU];exact valB_digs (by decide) A
  have hVV:valB 16777216 V=B:=by rw [←hV];exact valB_digs (by decide) B
  rw [hU] at HU hnu LA;rw [hV] at HV hnv LB;have HUV:=hD hUV;have HVV:=hD hVV;have HNU:=hD hnu;have HNV:=hD hnv;have hnu9:(nu:Int)≤9000000:=by have:=LA.out;omega
  have hnv9:(nv:Int)≤9000000:=by have:=LB.out;omega
  have hcu' :(nu:Int)≤(cu:Int):=by omega
  have hcv' :(nv:Int)≤(cv:Int):=by omega
  clear hU hV hUV hVV hnu hnv hcu hcv;go_wp2_with fail
  go_loopw [11,12,13] (fun v c i wr=>∃(k:Nat) (o:List Nat) (cc:Nat),i=.int .i64 (k:Int)∧c=.int .i64 (cc:Int)∧Hid (cc≤1)∧Hid (k≤max nu nv∨k=max nu nv+1∧cc=0)∧Hid (o.length=k)∧Hid (okB 16777216 o)∧Hid (valB 16777216 o+cc*16777216^k=valB 16777216 (U.take k)+valB 16777216 (V.take k))∧Hid (wr.ownsRow w2.heap.size 3 1 v o.length (digC .i64 o))∧Hid (Below w2.heap.size w2 wr)) (fun _ _ i _=>max nu nv+2-(intOf i).toNat)
  case atStart=>exact ⟨0,[],0,rfl,rfl,hD (by decide),hD (by omega),hD rfl,hD (okB_nil _),hD rfl,hD (World.ownsRow_nil _ _ _ _),hD rB⟩
  case round =>
   obtain ⟨k,o,cc,rfl,rfl,HC1,HKM,HOL,HOK,HVS,HOWN,HBW⟩:=hrel;have hk9:(k:Int)≤9000001:=by have:=HKM.out;omega
   by_cases hku:k<nu
   ·by_cases hkv:k<nv
    ·obtain ⟨x,hx⟩:∃x,U.getD k 0=x:=⟨_,rfl⟩;obtain ⟨y,hy⟩:∃y,V.getD k 0=y:=⟨_,rfl⟩;have hxB:x<16777216:=by rw [←hx];exact getD_lt (by decide) HU.out.ok k
     have hyB:y<16777216:=by rw [←hy];exact getD_lt (by decide) HV.out.ok k
     have hsr:=add_round (x:=x) (y:=y) HOL.out HVS.out rfl;rw [←hx, ←hy, ←take_getD, ←take_getD,hx,hy] at hsr;have hul:k<U.length:=by have:=HNU.out;omega
     obtain ⟨g1,off1,rfl,hg1,hcell1⟩:=HU.out.cell hul;rw [←getD_at hul,hx] at hcell1;have c1:wr.cell? ⟨g1,off1+k,none⟩=some (.int .i64 (x:Int)):=by rw [clU HBW.out hg1];exact hcell1
     have hvl:k<V.length:=by have:=HNV.out;omega
     obtain ⟨g2,off2,rfl,hg2,hcell2⟩:=HV.out.cell hvl;rw [←getD_at hvl,hy] at hcell2;have c2:wr.cell? ⟨g2,off2+k,none⟩=some (.int .i64 (y:Int)):=by rw [clU HBW.out hg2];exact hcell2
     have hcc:=HC1.out;obtain ⟨s,hs⟩:∃s,cc+x+y=s:=⟨_,rfl⟩;rw [hs] at hsr;obtain ⟨r,hr⟩:∃r,s%16777216=r:=⟨_,rfl⟩;obtain ⟨q,hq⟩:∃q,s/16777216=q:=⟨_,rfl⟩;rw [hr,hq] at hsr;have HSR:=hD hsr;have HRB:Hid (r<16777216):=hD (by rw [←hr];exact Nat.mod_lt _ (by decide));have HQ1:Hid (q≤1):=hD (by omega);have HKM2:Hid (k+1≤max nu nv∨k+1=max nu nv+1∧q=0):=hD (by omega);have f1:(cc:Int)+(x:Int)=((cc+x:Nat):Int):=by omega
     have f2:((cc+x:Nat):Int)+(y:Int)=(s:Int):=by omega
     obtain ⟨t,ht⟩:∃t,cc+x=t:=⟨_,rfl⟩;rw [ht] at f1 f2;have ht9:(t:Int)≤16777217:=by omega
     have hs9:(s:Int)≤33554433:=by omega
     have f3:(s:Int)%16777216=(r:Int):=by omega
     have f4:(s:Int)/16777216=(q:Int):=by omega
     have ku:(k:Int)<(nu:Int):=by omega
     have kv:(k:Int)<(nv:Int):=by omega
     clear hx hy hsr hs hr hq hcc hxB hyB hku hkv hul hcell1 hvl hcell2 ht;go_wp2_with (first|(at_builtin;refine wpList_append_own _ rfl _ _ 76 rfl w2.heap.size 3 i0 (.int .i64 0) 1 8 Tryz.underlying76 hi hz0 hz1 hz2 rfl (by decide) _ _ _ rfl (HOWN.out.alloc _) ⟨wr.heap.size,0,none⟩ 1 1 [.int .i64 r] rfl rfl (cell_fresh wr _ _) (by simp [Value.oneCell']) (by have:=HOL.out;unfold maxLen;omega) (by have:=HOL.out;omega) (by have:=HBW.out.size;simp;omega) ?_;intro v1 w1 hown' hgrow hnn;have HO1:=hD hown';have HG1:=hD hgrow;clear hown' hgrow hnn)|fail)
     go_roundw
     case rel=>exact ⟨k+1,o++[r],q,by go_num,rfl,HQ1,HKM2,hD (by rw [List.length_append,HOL.out];rfl),hD (HOK.out.append (fun y hy=>by simp at hy;rw [hy];exact HRB.out)),HSR,hD (by rw [List.length_append,digC,List.map_append];exact HO1.out),hD (below_grown HBW.out HOWN.out HG1.out (Nat.le_refl _))⟩
     case measure=>simp [intOf];have:=HKM.out;omega
    ·obtain ⟨x,hx⟩:∃x,U.getD k 0=x:=⟨_,rfl⟩;obtain ⟨y,hy⟩:∃y,V.getD k 0=y:=⟨_,rfl⟩;have hxB:x<16777216:=by rw [←hx];exact getD_lt (by decide) HU.out.ok k
     have hyB:y<16777216:=by rw [←hy];exact getD_lt (by decide) HV.out.ok k
     have hsr:=add_round (x:=x) (y:=y) HOL.out HVS.out rfl;rw [←hx, ←hy, ←take_getD, ←take_getD,hx,hy] at hsr;have hy0:y=0:=by rw [←hy];exact getD_ge (by have:=HNV.out;omega)
     have hul:k<U.length:=by have:=HNU.out;omega
     obtain ⟨g1,off1,rfl,hg1,hcell1⟩:=HU.out.cell hul;rw [←getD_at hul,hx] at hcell1;have c1:wr.cell? ⟨g1,off1+k,none⟩=some (.int .i64 (x:Int)):=by rw [clU HBW.out hg1];exact hcell1
     have hcc:=HC1.out;obtain ⟨s,hs⟩:∃s,cc+x+y=s:=⟨_,rfl⟩;rw [hs] at hsr;obtain ⟨r,hr⟩:∃r,s%16777216=r:=⟨_,rfl⟩;obtain ⟨q,hq⟩:∃q,s/16777216=q:=⟨_,rfl⟩;rw [hr,hq] at hsr;have HSR:=hD hsr;have HRB:Hid (r<16777216):=hD (by rw [←hr];exact Nat.mod_lt _ (by decide));have HQ1:Hid (q≤1):=hD (by omega);have HKM2:Hid (k+1≤max nu nv∨k+1=max nu nv+1∧q=0):=hD (by omega);have f1:(cc:Int)+(x:Int)=(s:Int):=by omega
     have hs9:(s:Int)≤33554433:=by omega
     have f3:(s:Int)%16777216=(r:Int):=by omega
     have f4:(s:Int)/16777216=(q:Int):=by omega
     have ku:(k:Int)<(nu:Int):=by omega
     have kv:¬(k:Int)<(nv:Int):=by omega
     clear hx hy hsr hs hr hq hcc hxB hyB hku hkv hy0 hul hcell1;go_wp2_with (first|(at_builtin;refine wpList_append_own _ rfl _ _ 76 rfl w2.heap.size 3 i0 (.int .i64 0) 1 8 Tryz.underlying76 hi hz0 hz1 hz2 rfl (by decide) _ _ _ rfl (HOWN.out.alloc _) ⟨wr.heap.size,0,none⟩ 1 1 [.int .i64 r] rfl rfl (cell_fresh wr _ _) (by simp [Value.oneCell']) (by have:=HOL.out;unfold maxLen;omega) (by have:=HOL.out;omega) (by have:=HBW.out.size;simp;omega) ?_;intro v1 w1 hown' hgrow hnn;have HO1:=hD hown';have HG1:=hD hgrow;clear hown' hgrow hnn)|fail)
     go_roundw
     case rel=>exact ⟨k+1,o++[r],q,by go_num,rfl,HQ1,HKM2,hD (by rw [List.length_append,HOL.out];rfl),hD (HOK.out.append (fun y hy=>by simp at hy;rw [hy];exact HRB.out)),HSR,hD (by rw [List.length_append,digC,List.map_append];exact HO1.out),hD (below_grown HBW.out HOWN.out HG1.out (Nat.le_refl _))⟩
     case measure=>simp [intOf];have:=HKM.out;omega
   ·by_cases hkv:k<nv
    ·obtain ⟨x,hx⟩:∃x,U.getD k 0=x:=⟨_,rfl⟩;obtain ⟨y,hy⟩:∃y,V.getD k 0=y:=⟨_,rfl⟩;have hxB:x<16777216:=by rw [←hx];exact getD_lt (by decide) HU.out.ok k
     have hyB:y<16777216:=by rw [←hy];exact getD_lt (by decide) HV.out.ok k
     have hsr:=add_round (x:=x) (y:=y) HOL.out HVS.out rfl;rw [←hx, ←hy, ←take_getD, ←take_getD,hx,hy] at hsr;have hx0:x=0:=by rw [←hx];exact getD_ge (by have:=HNU.out;omega)
     have hvl:k<V.length:=by have:=HNV.out;omega
     obtain ⟨g2,off2,rfl,hg2,hcell2⟩:=HV.out.cell hvl;rw [←getD_at hvl,hy] at hcell2;have c2:wr.cell? ⟨g2,off2+k,none⟩=some (.int .i64 (y:Int)):=by rw [clU HBW.out hg2];exact hcell2
     have hcc:=HC1.out;obtain ⟨s,hs⟩:∃s,cc+x+y=s:=⟨_,rfl⟩;rw [hs] at hsr;obtain ⟨r,hr⟩:∃r,s%16777216=r:=⟨_,rfl⟩;obtain ⟨q,hq⟩:∃q,s/16777216=q:=⟨_,rfl⟩;rw [hr,hq] at hsr;have HSR:=hD hsr;have HRB:Hid (r<16777216):=hD (by rw [←hr];exact Nat.mod_lt _ (by decide));have HQ1:Hid (q≤1):=hD (by omega);have HKM2:Hid (k+1≤max nu nv∨k+1=max nu nv+1∧q=0):=hD (by omega);have f1:(cc:Int)+(y:Int)=(s:Int):=by omega
     have hs9:(s:Int)≤33554433:=by omega
     have f3:(s:Int)%16777216=(r:Int):=by omega
     have f4:(s:Int)/16777216=(q:Int):=by omega
     have ku:¬(k:Int)<(nu:Int):=by omega
     have kv:(k:Int)<(nv:Int):=by omega
     clear hx hy hsr hs hr hq hcc hxB hyB hku hkv hx0 hvl hcell2;go_wp2_with (first|(at_builtin;refine wpList_append_own _ rfl _ _ 76 rfl w2.heap.size 3 i0 (.int .i64 0) 1 8 Tryz.underlying76 hi hz0 hz1 hz2 rfl (by decide) _ _ _ rfl (HOWN.out.alloc _) ⟨wr.heap.size,0,none⟩ 1 1 [.int .i64 r] rfl rfl (cell_fresh wr _ _) (by simp [Value.oneCell']) (by have:=HOL.out;unfold maxLen;omega) (by have:=HOL.out;omega) (by have:=HBW.out.size;simp;omega) ?_;intro v1 w1 hown' hgrow hnn;have HO1:=hD hown';have HG1:=hD hgrow;clear hown' hgrow hnn)|fail)
     go_roundw
     case rel=>exact ⟨k+1,o++[r],q,by go_num,rfl,HQ1,HKM2,hD (by rw [List.length_append,HOL.out];rfl),hD (HOK.out.append (fun y hy=>by simp at hy;rw [hy];exact HRB.out)),HSR,hD (by rw [List.length_append,digC,List.map_append];exact HO1.out),hD (below_grown HBW.out HOWN.out HG1.out (Nat.le_refl _))⟩
     case measure=>simp [intOf];have:=HKM.out;omega
    ·by_cases hc:0<cc
     ·obtain ⟨x,hx⟩:∃x,U.getD k 0=x:=⟨_,rfl⟩;obtain ⟨y,hy⟩:∃y,V.getD k 0=y:=⟨_,rfl⟩;have hxB:x<16777216:=by rw [←hx];exact getD_lt (by decide) HU.out.ok k
      have hyB:y<16777216:=by rw [←hy];exact getD_lt (by decide) HV.out.ok k
      have hsr:=add_round (x:=x) (y:=y) HOL.out HVS.out rfl;rw [←hx, ←hy, ←take_getD, ←take_getD,hx,hy] at hsr;have hx0:x=0:=by rw [←hx];exact getD_ge (by have:=HNU.out;omega)
      have hy0:y=0:=by rw [←hy];exact getD_ge (by have:=HNV.out;omega)
      have hcc:=HC1.out;have hc0:0<(cc:Int):=by omega
      obtain ⟨s,hs⟩:∃s,cc+x+y=s:=⟨_,rfl⟩;rw [hs] at hsr;obtain ⟨r,hr⟩:∃r,s%16777216=r:=⟨_,rfl⟩;obtain ⟨q,hq⟩:∃q,s/16777216=q:=⟨_,rfl⟩;rw [hr,hq] at hsr;have HSR:=hD hsr;have HRB:Hid (r<16777216):=hD (by rw [←hr];exact Nat.mod_lt _ (by decide));have HQ1:Hid (q≤1):=hD (by omega);have HKM2:Hid (k+1≤max nu nv∨k+1=max nu nv+1∧q=0):=hD (by have:=HKM.out;omega);have f1:cc=s:=by omega
      have hs9:(s:Int)≤33554433:=by omega
      have f3:(s:Int)%16777216=(r:Int):=by omega
      have f4:(s:Int)/16777216=(q:Int):=by omega
      subst f1;have ku:¬(k:Int)<(nu:Int):=by omega
      have kv:¬(k:Int)<(nv:Int):=by omega
      clear hx hy hsr hs hr hq hcc hxB hyB hku hkv hx0 hy0;go_wp2_with (first|(at_builtin;refine wpList_append_own _ rfl _ _ 76 rfl w2.heap.size 3 i0 (.int .i64 0) 1 8 Tryz.underlying76 hi hz0 hz1 hz2 rfl (by decide) _ _ _ rfl (HOWN.out.alloc _) ⟨wr.heap.size,0,none⟩ 1 1 [.int .i64 r] rfl rfl (cell_fresh wr _ _) (by simp [Value.oneCell']) (by have:=HOL.out;unfold maxLen;omega) (by have:=HOL.out;omega) (by have:=HBW.out.size;simp;omega) ?_;intro v1 w1 hown' hgrow hnn;have HO1:=hD hown';have HG1:=hD hgrow;clear hown' hgrow hnn)|fail)
      go_roundw
      case rel=>exact ⟨k+1,o++[r],q,by go_num,rfl,HQ1,HKM2,hD (by rw [List.length_append,HOL.out];rfl),hD (HOK.out.append (fun y hy=>by simp at hy;rw [hy];exact HRB.out)),HSR,hD (by rw [List.length_append,digC,List.map_append];exact HO1.out),hD (below_grown HBW.out HOWN.out HG1.out (Nat.le_refl _))⟩
      case measure=>simp [intOf];have:=HKM.out;omega
     ·have hc0:cc=0:=by omega
      subst hc0;have hv:=HVS.out;rw [Nat.zero_mul,Nat.add_zero,List.take_of_length_le (by have:=HNU.out;omega),List.take_of_length_le (by have:=HNV.out;omega),HUV.out,HVV.out] at hv;have HRES:=hD hv;have HLR:=hD (LimR.own HOWN.out HOK.out (by have:=HOL.out;omega));have HOL9:Hid (o.length≤30000000):=hD (by have:=HOL.out;omega);have ku:¬(k:Int)<(nu:Int):=by omega
      have kv:¬(k:Int)<(nv:Int):=by omega
      clear hv hku hkv hc;go_wp2_with fail;refine (rnumber_any _ _ _ HLR.out HOL9.out).mono ?_;rintro e w4 ⟨rfl,hb⟩;rw [HRES.out];have HB4:=hD ((HB.out.trans (HBW.out.mono HB.out.size)).trans (hb.mono (Nat.le_trans HB.out.size HBW.out.size)));clear hb;go_wp2_with fail;go_ret;exact ⟨rfl,HB4.out⟩
end Go.Proofs.YtblgfmjlajhipaaGreatDoor
namespace Go.Proofs.YtblgfmjlajhipaaGreatDoor
open Go.RowKit Go.Shelf
open Dgt
theorem sub_round {B k c x y r c2 Tu Tv:Nat} {o:List Nat} (hl:o.length=k) (hv:valB B o+Tv=Tu+c*B^k) (hs:r+y+c=x+B*c2) :
  valB B (o++[r])+(Tv+B^k*y)=(Tu+B^k*x)+c2*B^(k+1):=by
 rw [valB_snoc,hl,Nat.pow_succ];obtain ⟨P,hP⟩:∃P,B^k=P:=⟨_,rfl⟩;rw [hP] at hv ⊢;have h1:P*r+P*y+P*c=P*x+c2*(P*B):=by
  rw [←Nat.mul_add, ←Nat.mul_add,hs,Nat.mul_add,Nat.mul_comm c2,Nat.mul_assoc]
 rw [Nat.mul_comm c P] at hv;omega
theorem sub_end {B n c TU TV:Nat} {o:List Nat} (ho:okB B o) (hl:o.length=n) (hv:valB B o+TV=TU+c*B^n) (hc:c≤1) (hle:TV≤TU):valB B o=TU-TV:=by
 have h:=valB_lt ho;rw [hl] at h;obtain ⟨P,hP⟩:∃P,B^n=P:=⟨_,rfl⟩;rw [hP] at hv h;rcases (by omega:c=0∨c=1) with rfl|rfl<;>omega
def OkS (v:Value):Prop:=∀n c,v=.slice none n c→c=0
theorem own_shape {W:World} {base size:Nat} {e:TypeId} {v:Value} {n:Nat} {xs:List Value} (h:W.ownsRow base e size v n xs):∃p k c,v=.slice p k c∧(p=none→c=0)∧(∀g off s,p=some ⟨g,off,s⟩→base≤g∧off=0∧s=none)∧(p=none→n=0):=by
 rcases h.2 with ⟨rfl,h0⟩|⟨g,cap,cur,rfl,hg,hgh,hnc,hcm,hcs,hct⟩
 ·exact ⟨none,0,0,rfl,fun _=>rfl,fun g off s h=>(by cases h),fun _=>h0⟩
 ·exact ⟨some ⟨g,0,none⟩,n,cap,rfl,fun h=>(by cases h),fun g' off s h=>(by cases h;exact ⟨hg,rfl,rfl⟩),fun h=>(by cases h)⟩
set_option maxRecDepth 100000 in
theorem rminus_ok (vu vv:Value) (U V:List Nat) (w:World) (hu:LimR w vu U) (hv:LimR w vv V) (hle:valB 16777216 V≤valB 16777216 U) (hlen:V.length≤U.length) (hl9:U.length≤30000000) :
  Calls Tryz.prog 94 #[vu,vv] w fun e w' =>∃v',e=.returned v' ∧LimR w' v' (digs 16777216 (valB 16777216 U-valB 16777216 V))∧OkS v' ∧Below w.heap.size w w' :=by
 obtain ⟨i0,hi,hz0,hz1,hz2⟩:=info_partsN infoInt;obtain ⟨pu,nu,cu,rfl,hnu,hcu,-⟩:=hu.open_;obtain ⟨pv,nv,cv,rfl,hnv,hcv,-⟩:=hv.open_;have HU:=hD hu;have HV:=hD hv;have HNU:=hD hnu;have HNV:=hD hnv;have HLE:=hD hle;have HLEN:=hD hlen;have HL9:=hD hl9;have hnu9:(nu:Int)≤30000000:=by omega
 have hnv9:(nv:Int)≤30000000:=by omega
 have hcu' :(nu:Int)≤(cu:Int):=by omega
 have hcv' :(nv:Int)≤(cv:Int):=by omega
 clear hu hv hle hlen hl9 hnu hnv hcu hcv;go_enter Tryz.func94,Tryz.ntmps94;go_wp2_with fail
 go_loopw [5,6,7] (fun v c i wr=>∃(k:Nat) (o:List Nat) (cc:Nat),i=.int .i64 (k:Int)∧c=.int .i64 (cc:Int)∧Hid (cc≤1)∧Hid (k≤nu)∧Hid (o.length=k)∧Hid (okB 16777216 o)∧Hid (valB 16777216 o+valB 16777216 (V.take k)=valB 16777216 (U.take k)+cc*16777216^k)∧Hid (wr.ownsRow w.heap.size 3 1 v o.length (digC .i64 o))∧Hid (Below w.heap.size w wr)) (fun _ _ i _=>nu-(intOf i).toNat)
 case atStart=>exact ⟨0,[],0,rfl,rfl,hD (by decide),hD (Nat.zero_le _),hD rfl,hD (okB_nil _),hD rfl,hD (World.ownsRow_nil _ _ _ _),hD rB⟩
 case round =>
  obtain ⟨k,o,cc,rfl,rfl,HC1,HKM,HOL,HOK,HVS,HOWN,HBW⟩:=hrel;have hk9:(k:Int)≤30000000:=by have:=HKM.out;omega
  by_cases hku:k<nu
  ·obtain ⟨x,hx⟩:∃x,U.getD k 0=x:=⟨_,rfl⟩;obtain ⟨y,hy⟩:∃y,V.getD k 0=y:=⟨_,rfl⟩;have hxB:x<16777216:=by rw [←hx];exact getD_lt (by decide) HU.out.ok k
   have hyB:y<16777216:=by rw [←hy];exact getD_lt (by decide) HV.out.ok k
   have HX:=hD hx;have HY:=hD hy;have hul:k<U.length:=by have:=HNU.out;omega
   obtain ⟨g1,off1,rfl,hg1,hcell1⟩:=HU.out.cell hul;rw [←getD_at hul,hx] at hcell1;have c1:wr.cell? ⟨g1,off1+k,none⟩=some (.int .i64 (x:Int)):=by rw [clU HBW.out hg1];exact hcell1
   have ku:(k:Int)<(nu:Int):=by omega
   have hcc:=HC1.out
   by_cases hkv:k<nv
   ·by_cases hdc:(x:Int)-cc-y<0
    ·have hvl:k<V.length:=by have:=HNV.out;omega
     obtain ⟨g2,off2,rfl,hg2,hcell2⟩:=HV.out.cell hvl;rw [←getD_at hvl,hy] at hcell2;have c2:wr.cell? ⟨g2,off2+k,none⟩=some (.int .i64 (y:Int)):=by rw [clU HBW.out hg2];exact hcell2
     obtain ⟨r,hr⟩:∃r:Nat,(x:Int)-cc-y+16777216*1=(r:Int):=⟨((x:Int)-cc-y+16777216*1).toNat,by omega⟩;have hsr:=sub_round (B:=16777216) (c2:=1) (x:=x) (y:=y) (r:=r) HOL.out HVS.out (by omega);rw [←hx, ←hy, ←take_getD, ←take_getD] at hsr;have HSR:=hD hsr;have HRB:Hid (r<16777216):=hD (by omega);obtain ⟨t,ht⟩:∃t:Int,(x:Int)-(cc:Int)=t:=⟨_,rfl⟩;have ht0: -1≤t:=by omega
     have ht1:t<16777216:=by omega
     obtain ⟨d,hd⟩:∃d:Int,t-(y:Int)=d:=⟨_,rfl⟩;have hd0: -16777216≤d:=by omega
     have hd1:d<16777216:=by omega
     have hdn:d<0:=by omega
     have f3:d+16777216=(r:Int):=by omega
     have hr9:(r:Int)<16777216:=by omega
     have kv:(k:Int)<(nv:Int):=by omega
     clear hx hy hsr hr hcc hyB hxB hku hkv hul hcell1 hdc hvl hcell2;go_wp2_with (first|(at_builtin;refine wpList_append_own _ rfl _ _ 76 rfl w.heap.size 3 i0 (.int .i64 0) 1 8 Tryz.underlying76 hi hz0 hz1 hz2 rfl (by decide) _ _ _ rfl (HOWN.out.alloc _) ⟨wr.heap.size,0,none⟩ 1 1 [.int .i64 r] rfl rfl (cell_fresh wr _ _) (by simp [Value.oneCell']) (by have:=HOL.out;unfold maxLen;omega) (by have:=HOL.out;omega) (by have:=HBW.out.size;simp;omega) ?_;intro v1 w1 hown' hgrow hnn;have HO1:=hD hown';have HG1:=hD hgrow;clear hown' hgrow hnn)|fail)
     go_roundw
     case rel=>exact ⟨k+1,o++[r],1,by go_num,rfl,hD (by decide),hD (by omega),hD (by rw [List.length_append,HOL.out];rfl),hD (HOK.out.append (fun y hy=>by simp at hy;rw [hy];exact HRB.out)),HSR,hD (by rw [List.length_append,digC,List.map_append];exact HO1.out),hD (below_grown HBW.out HOWN.out HG1.out (Nat.le_refl _))⟩
     case measure=>simp [intOf];omega
    ·have hvl:k<V.length:=by have:=HNV.out;omega
     obtain ⟨g2,off2,rfl,hg2,hcell2⟩:=HV.out.cell hvl;rw [←getD_at hvl,hy] at hcell2;have c2:wr.cell? ⟨g2,off2+k,none⟩=some (.int .i64 (y:Int)):=by rw [clU HBW.out hg2];exact hcell2
     obtain ⟨r,hr⟩:∃r:Nat,(x:Int)-cc-y+16777216*0=(r:Int):=⟨((x:Int)-cc-y+16777216*0).toNat,by omega⟩;have hsr:=sub_round (B:=16777216) (c2:=0) (x:=x) (y:=y) (r:=r) HOL.out HVS.out (by omega);rw [←hx, ←hy, ←take_getD, ←take_getD] at hsr;have HSR:=hD hsr;have HRB:Hid (r<16777216):=hD (by omega);obtain ⟨t,ht⟩:∃t:Int,(x:Int)-(cc:Int)=t:=⟨_,rfl⟩;have ht0: -1≤t:=by omega
     have ht1:t<16777216:=by omega
     obtain ⟨d,hd⟩:∃d:Int,t-(y:Int)=d:=⟨_,rfl⟩;have hd0: -16777216≤d:=by omega
     have hd1:d<16777216:=by omega
     have hdn:¬d<0:=by omega
     have f3:d=(r:Int):=by omega
     subst f3;have hr9:(r:Int)<16777216:=by omega
     have kv:(k:Int)<(nv:Int):=by omega
     clear hx hy hsr hr hcc hyB hxB hku hkv hul hcell1 hdc hvl hcell2;go_wp2_with (first|(at_builtin;refine wpList_append_own _ rfl _ _ 76 rfl w.heap.size 3 i0 (.int .i64 0) 1 8 Tryz.underlying76 hi hz0 hz1 hz2 rfl (by decide) _ _ _ rfl (HOWN.out.alloc _) ⟨wr.heap.size,0,none⟩ 1 1 [.int .i64 r] rfl rfl (cell_fresh wr _ _) (by simp [Value.oneCell']) (by have:=HOL.out;unfold maxLen;omega) (by have:=HOL.out;omega) (by have:=HBW.out.size;simp;omega) ?_;intro v1 w1 hown' hgrow hnn;have HO1:=hD hown';have HG1:=hD hgrow;clear hown' hgrow hnn)|fail)
     go_roundw
     case rel=>exact ⟨k+1,o++[r],0,by go_num,rfl,hD (by decide),hD (by omega),hD (by rw [List.length_append,HOL.out];rfl),hD (HOK.out.append (fun y hy=>by simp at hy;rw [hy];exact HRB.out)),HSR,hD (by rw [List.length_append,digC,List.map_append];exact HO1.out),hD (below_grown HBW.out HOWN.out HG1.out (Nat.le_refl _))⟩
     case measure=>simp [intOf];omega
   ·by_cases hdc:(x:Int)-cc-y<0
    ·have hy0:y=0:=by rw [←hy];exact getD_ge (by have:=HNV.out;omega)
     obtain ⟨r,hr⟩:∃r:Nat,(x:Int)-cc-y+16777216*1=(r:Int):=⟨((x:Int)-cc-y+16777216*1).toNat,by omega⟩;have hsr:=sub_round (B:=16777216) (c2:=1) (x:=x) (y:=y) (r:=r) HOL.out HVS.out (by omega);rw [←hx, ←hy, ←take_getD, ←take_getD] at hsr;have HSR:=hD hsr;have HRB:Hid (r<16777216):=hD (by omega);obtain ⟨d,hd⟩:∃d:Int,(x:Int)-(cc:Int)=d:=⟨_,rfl⟩;have hd0: -16777216≤d:=by omega
     have hd1:d<16777216:=by omega
     have hdn:d<0:=by omega
     have f3:d+16777216=(r:Int):=by omega
     have hr9:(r:Int)<16777216:=by omega
     have kv:¬(k:Int)<(nv:Int):=by omega
     clear hx hy hsr hr hcc hyB hxB hku hkv hul hcell1 hdc hy0;go_wp2_with (first|(at_builtin;refine wpList_append_own _ rfl _ _ 76 rfl w.heap.size 3 i0 (.int .i64 0) 1 8 Tryz.underlying76 hi hz0 hz1 hz2 rfl (by decide) _ _ _ rfl (HOWN.out.alloc _) ⟨wr.heap.size,0,none⟩ 1 1 [.int .i64 r] rfl rfl (cell_fresh wr _ _) (by simp [Value.oneCell']) (by have:=HOL.out;unfold maxLen;omega) (by have:=HOL.out;omega) (by have:=HBW.out.size;simp;omega) ?_;intro v1 w1 hown' hgrow hnn;have HO1:=hD hown';have HG1:=hD hgrow;clear hown' hgrow hnn)|fail)
     go_roundw
     case rel=>exact ⟨k+1,o++[r],1,by go_num,rfl,hD (by decide),hD (by omega),hD (by rw [List.length_append,HOL.out];rfl),hD (HOK.out.append (fun y hy=>by simp at hy;rw [hy];exact HRB.out)),HSR,hD (by rw [List.length_append,digC,List.map_append];exact HO1.out),hD (below_grown HBW.out HOWN.out HG1.out (Nat.le_refl _))⟩
     case measure=>simp [intOf];omega
    ·have hy0:y=0:=by rw [←hy];exact getD_ge (by have:=HNV.out;omega)
     obtain ⟨r,hr⟩:∃r:Nat,(x:Int)-cc-y+16777216*0=(r:Int):=⟨((x:Int)-cc-y+16777216*0).toNat,by omega⟩;have hsr:=sub_round (B:=16777216) (c2:=0) (x:=x) (y:=y) (r:=r) HOL.out HVS.out (by omega);rw [←hx, ←hy, ←take_getD, ←take_getD] at hsr;have HSR:=hD hsr;have HRB:Hid (r<16777216):=hD (by omega);obtain ⟨d,hd⟩:∃d:Int,(x:Int)-(cc:Int)=d:=⟨_,rfl⟩;have hd0: -16777216≤d:=by omega
     have hd1:d<16777216:=by omega
     have hdn:¬d<0:=by omega
     have f3:d=(r:Int):=by omega
     subst f3;have hr9:(r:Int)<16777216:=by omega
     have kv:¬(k:Int)<(nv:Int):=by omega
     clear hx hy hsr hr hcc hyB hxB hku hkv hul hcell1 hdc hy0;go_wp2_with (first|(at_builtin;refine wpList_append_own _ rfl _ _ 76 rfl w.heap.size 3 i0 (.int .i64 0) 1 8 Tryz.underlying76 hi hz0 hz1 hz2 rfl (by decide) _ _ _ rfl (HOWN.out.alloc _) ⟨wr.heap.size,0,none⟩ 1 1 [.int .i64 r] rfl rfl (cell_fresh wr _ _) (by simp [Value.oneCell']) (by have:=HOL.out;unfold maxLen;omega) (by have:=HOL.out;omega) (by have:=HBW.out.size;simp;omega) ?_;intro v1 w1 hown' hgrow hnn;have HO1:=hD hown';have HG1:=hD hgrow;clear hown' hgrow hnn)|fail)
     go_roundw
     case rel=>exact ⟨k+1,o++[r],0,by go_num,rfl,hD (by decide),hD (by omega),hD (by rw [List.length_append,HOL.out];rfl),hD (HOK.out.append (fun y hy=>by simp at hy;rw [hy];exact HRB.out)),HSR,hD (by rw [List.length_append,digC,List.map_append];exact HO1.out),hD (below_grown HBW.out HOWN.out HG1.out (Nat.le_refl _))⟩
     case measure=>simp [intOf];omega
  ·have hkn:k=nu:=by have:=HKM.out;omega
   have hfin:=sub_end HOK.out HOL.out (by have h:=HVS.out;rw [List.take_of_length_le (l:=V) (by have:=HNU.out;have:=HLEN.out;omega),List.take_of_length_le (l:=U) (by have:=HNU.out;omega)] at h;exact h) HC1.out HLE.out;have HFIN:=hD hfin;have HLR:=hD (LimR.own HOWN.out HOK.out (by have:=HOL.out;omega));have ku:¬(k:Int)<(nu:Int):=by omega
   obtain ⟨po,no,co,hvo,hpo,-,-⟩:=own_shape HOWN.out;have HPO:=hD hpo;have hvo2:=hvo;rw [hvo] at HLR;clear hfin hku hkn hpo hvo2;subst hvo;go_wp2_with fail;refine (rtrim_at _ _ _ _ _ HLR.out).mono ?_;rintro e w4 ⟨k',rfl,hl,rfl⟩;have HT:=hD (show LimR wr (.slice po k' co) (digs 16777216 (valB 16777216 U-valB 16777216 V)) by rw [←HFIN.out];exact hl);clear hl;go_wp2_with fail;go_ret;exact ⟨_,rfl,HT.out,fun n c e=>by cases e;exact HPO.out rfl,HBW.out⟩
end Go.Proofs.YtblgfmjlajhipaaGreatDoor
namespace Go.Proofs.YtblgfmjlajhipaaGreatDoor
open Go.RowKit Go.Shelf
open Dgt
theorem mk_ints (n:Nat) (x:Int) (hx:x=n) (hn:n≤1000000000) (W:World):(Instr.makeSlice 76 (.int .i64 x) (.int .i64 x)).run Tryz.prog W =
  .ok (.slice (some ⟨W.heap.size,0,none⟩) n n) (W.alloc (.cells (cellsK .i64 (List.replicate n 0)) 3)):=by
 subst hx;rw [run_make_row' 76 3 (.int .i64 0) 8 Tryz.underlying76 infoInt rfl _ _ n (by omega) (by omega) W,madeCells_rep,cellsK_zeros]
set_option maxRecDepth 100000 in
theorem rMul_any (a b:ByteArray) (w:World) (ha:a.size≤9000000) (hb:b.size≤9000000) :
  Gv 52 #[.string a,.string b] w (.string (encS (numS a*numS b))):=by
 unfold Gv;have SMA:=hD (small_any a 3 · (by omega) (by decide));have SMB:=hD (small_any b 4 · (by omega) (by decide));have OA:=hD (rof_any a · (by omega));have OB:=hD (rof_any b · (by omega));have la:(digs 16777216 (numS a)).length≤9000000:=Nat.le_trans (digs_len_le (by decide) (Nat.lt_of_lt_of_le (numS_lt a) (Nat.pow_le_pow_left (by decide) _))) ha;have lb:(digs 16777216 (numS b)).length≤9000000:=Nat.le_trans (digs_len_le (by decide) (Nat.lt_of_lt_of_le (numS_lt b) (Nat.pow_le_pow_left (by decide) _))) hb;obtain ⟨A,hA⟩:∃A,numS a=A:=⟨_,rfl⟩;obtain ⟨B,hB⟩:∃B,numS b=B:=⟨_,rfl⟩;rw [hA] at SMA OA la;rw [hB] at SMB OB lb;rw [hA,hB];have LA:=hD la;have LB:=hD lb;clear ha hb la lb hA hB
 by_cases hab:(encS A).size≤3∧(encS B).size≤4
 ·obtain ⟨a1,a2,a3,-⟩:=small_yes (m:=A) hab.1 (by decide);obtain ⟨b1,b2,b3,-⟩:=small_yes (m:=B) hab.2 (by decide);rw [a1,a2] at SMA;rw [b1,b2] at SMB;obtain ⟨t,ht⟩:∃t,A*B=t:=⟨_,rfl⟩;have htl:t≤72057594037927936:=by rw [←ht];exact Nat.le_trans (Nat.mul_le_mul (show A≤16777216 by omega) (show B≤4294967296 by omega)) (by decide)
  have qt:(A:Int)*(B:Int)=(t:Int):=by rw [←ht];simp
  have HOF:=hD (fun w=>rOf_any (t:Int) w (by omega));rw [ht];have e:((t:Int)).toNat=t:=by omega
  rw [e] at HOF;have htl' :(t:Int)≤72057594037927936:=by omega
  clear hab a1 a2 a3 b1 b2 b3 e ht htl;go_enter Tryz.func52,Tryz.ntmps52;go_wp2_with fail;refine (SMA.out _).mono ?_;rintro e w1 ⟨rfl,rfl⟩;go_wp2_with fail;refine (SMB.out _).mono ?_;rintro e w1 ⟨rfl,rfl⟩;go_wp2_with fail;refine (HOF.out _).mono ?_;rintro e w1 ⟨rfl,hb⟩;have HBX:=hD hb;clear hb;go_wp2_with fail;go_ret;exact ⟨rfl,HBX.out⟩
 obtain ⟨p1,x1,hp1⟩:∃p x,p=smallB A 3∧x=smallV A 3:=⟨_,_,rfl,rfl⟩;obtain ⟨p2,x2,hp2⟩:∃p x,p=smallB B 4∧x=smallV B 4:=⟨_,_,rfl,rfl⟩;have hpp:p1=false∨(p1=true∧p2=false):=by
  rw [hp1.1,hp2.1];rcases Nat.lt_or_ge 3 (encS A).size with h|h
  ·exact .inl (small_no h).1
  ·refine .inr ⟨(small_yes h (by decide)).1,(small_no ?_).1⟩;rcases Nat.lt_or_ge 4 (encS B).size with h' |h'
   ·exact h'
   ·exact absurd ⟨h,h'⟩ hab
 rw [←hp1.1, ←hp1.2] at SMA;rw [←hp2.1, ←hp2.2] at SMB;clear hp1 hp2 hab;go_enter Tryz.func52,Tryz.ntmps52;go_wp2_with fail;refine (SMA.out _).mono ?_;rintro e w1 ⟨rfl,rfl⟩;go_wp2_with fail;refine (SMB.out _).mono ?_;rintro e w1 ⟨rfl,rfl⟩;rcases hpp with rfl|⟨rfl,rfl⟩
 all_goals
  go_wp2_with fail;refine (OA.out _).mono ?_;rintro e w2 ⟨vu,rfl,hl,hb⟩;have HU:=hD hl;have HB0:=hD hb;clear hl hb;go_wp2_with fail;refine (OB.out _).mono ?_;rintro e w3 ⟨vv,rfl,hl,hb⟩;have HLA:=hD (HU.out.up hb);have HLB:=hD hl;have HB0:=hD (HB0.out.trans (hb.mono HB0.out.size));clear hl hb;obtain ⟨pa,na,ca,rfl,hna,hca,-⟩:=HLA.out.open_;obtain ⟨pb,nb,cb,rfl,hnb,hcb,-⟩:=HLB.out.open_;obtain ⟨la,hU⟩:∃la,digs 16777216 A=la:=⟨_,rfl⟩;obtain ⟨lb,hV⟩:∃lb,digs 16777216 B=lb:=⟨_,rfl⟩;have hUV:valB 16777216 la=A:=by rw [←hU];exact valB_digs (by decide) A
  have hVV:valB 16777216 lb=B:=by rw [←hV];exact valB_digs (by decide) B
  rw [hU] at HLA hna LA;rw [hV] at HLB hnb LB;have HUV:=hD hUV;have HVV:=hD hVV;have HNA:=hD hna;have HNB:=hD hnb;have hna1:(na:Int)≤9000000:=by have:=LA.out;omega
  have hnb1:(nb:Int)≤9000000:=by have:=LB.out;omega
  have hcu' :(na:Int)≤(ca:Int):=by omega
  have hcv' :(nb:Int)≤(cb:Int):=by omega
  obtain ⟨n,hn⟩:∃n,na+nb=n:=⟨_,rfl⟩;have hmk:=mk_ints n ((na:Int)+(nb:Int)) (by omega) (by omega);have HN:=hD hn;clear hU hV hUV hVV hna hnb hca hcb hn;go_wp2_with fail;clear hmk;have HB:=hD ((Below.refl w3.heap.size w3).alloc (Nat.le_refl _) (.cells (cellsK .i64 (List.replicate n 0)) 3));have HK:=hD (heap_alloc_new w3 (.cells (cellsK .i64 (List.replicate n 0)) 3));obtain ⟨w0,hw0⟩:∃w0,w3.alloc (.cells (cellsK .i64 (List.replicate n 0)) 3)=w0:=⟨_,rfl⟩;rw [hw0] at HB HK ⊢;obtain ⟨g,hg⟩:∃g,w3.heap.size=g:=⟨_,rfl⟩;have hgw:w3.heap.size≤g:=Nat.le_of_eq hg;rw [hg] at HK ⊢;have HG:=hD hg;clear hw0 hg
  go_loopw [12] (fun i wr=>∃(k:Nat) (P:List Nat),k≤na∧i=.int .i64 (k:Int)∧Hid (P.length=k+nb)∧Hid (okB 16777216 P)∧Hid (valB 16777216 P=valB 16777216 (la.take k)*valB 16777216 lb) ∧
    Hid (wr.heap[g]? =some (.cells (cellsK .i64 (P++List.replicate (na-k) 0)) 3 (0,0)))∧Hid (Below w3.heap.size w3 wr)) (fun i _=>na-(intOf i).toNat)
  case atStart=>exact ⟨0,List.replicate nb 0,by omega,rfl,hD (by simp),hD (fun x hx=>by rw [List.eq_of_mem_replicate hx];decide),hD (by rw [valB_zeros];simp [valB]),hD (by rw [Nat.sub_zero,List.replicate_append_replicate,Nat.add_comm nb na,HN.out];exact HK.out),HB⟩
  case round =>
   obtain ⟨k,P,hk,rfl,HPL,HPO,HPV,HC,HBW⟩:=hrel;obtain ⟨wo,hwo⟩:∃wo,wo=wr:=⟨_,rfl⟩;subst hwo
   by_cases hlt:k<na
   ·have hlt' :(k:Int)<(na:Int):=by omega
    have hkA:k<la.length:=by have:=HNA.out;omega
    obtain ⟨g1,off1,hp1,hg1,hc1⟩:=HLA.out.cell hkA;have cA:wo.cell? ⟨g1,off1+k,none⟩=some (.int .i64 (la[k]:Int)):=by rw [cell_up2 HBW.out hg1 hg1];exact hc1
    obtain ⟨x,hx⟩:∃x,la[k]=x:=⟨_,rfl⟩;have hxl:x<16777216:=by rw [←hx];exact HLA.out.ok.get hkA
    rw [hx] at cA hc1;subst hp1;have HC1:=hD hc1;have HX:=hD hx;clear hx hc1;have hxl' :(x:Int)<16777216:=by omega
    go_wp2_with fail
    go_loopw [14,13] (fun i cv wr=>∃(j c:Nat) (Q:List Nat),j≤nb∧i=.int .i64 (j:Int)∧cv=.int .i64 (c:Int)∧(c:Int)<16777216∧Hid (Q.length=k+j)∧Hid (okB 16777216 Q) ∧
      Hid (valB 16777216 Q+16777216^(k+j)*c=valB 16777216 (P.take (k+j))+16777216^k*(x*valB 16777216 (lb.take j))) ∧
      Hid (wr.heap[g]? =some (.cells (cellsK .i64 (Q++(P.drop (k+j)++List.replicate (na-k) 0))) 3 (0,0)))∧Hid (Below w3.heap.size w3 wr)) (fun i _ _=>nb-(intOf i).toNat)
    case atStart=>exact ⟨0,0,P.take k,by omega,rfl,rfl,by omega,hD (by rw [List.length_take,HPL.out];omega),hD (HPO.out.take _),hD (by simp [valB]),hD (by rw [Nat.add_zero, ←List.append_assoc,List.take_append_drop];exact HC.out),HBW⟩
    case round =>
     obtain ⟨j,c,Q,hj,rfl,rfl,hc,HQ,HQO,HQV,HC,HBW⟩:=hrel
     by_cases hjl:j<nb
     ·have hjl' :(j:Int)<(nb:Int):=by omega
      have hjB:j<lb.length:=by have:=HNB.out;omega
      obtain ⟨g2,off2,hp2,hg2,hc2⟩:=HLB.out.cell hjB;have cB:wr.cell? ⟨g2,off2+j,none⟩=some (.int .i64 (lb[j]:Int)):=by rw [cell_up2 HBW.out hg2 hg2];exact hc2
      have cA2:wr.cell? ⟨g1,off1+k,none⟩=some (.int .i64 (x:Int)):=by rw [cell_up2 HBW.out hg1 hg1];exact HC1.out
      obtain ⟨y,hy⟩:∃y,lb[j]=y:=⟨_,rfl⟩;have hyl:y<16777216:=by rw [←hy];exact HLB.out.ok.get hjB
      rw [hy] at cB;subst hp2;have hkj:k+j<P.length:=by rw [HPL.out];omega
      obtain ⟨p,hp⟩:∃p,P[k+j]=p:=⟨_,rfl⟩;have hpl:p<16777216:=by rw [←hp];exact HPO.out.get hkj
      have hst:=prod_inner HQ.out hkj hp hjB hy HQV.out;have hsm:=prod_small hxl hyl hpl (c:=c) (by omega);have hget:=get_mid (Z:=List.replicate (na-k) 0) HQ.out hkj;rw [hp] at hget;obtain ⟨m,hm⟩:∃m,k+j=m:=⟨_,rfl⟩;have cP:wr.cell? ⟨g,m,none⟩=some (.int .i64 (p:Int)):=by rw [Lib.cell_of_heap HC.out, ←hm];exact cellsK_some hget
      have hfr:wr.frozen? ⟨g,m,none⟩=false:=Lib.frozen_of_heap HC.out _;obtain ⟨t,ht⟩:∃t,x*y=t:=⟨_,rfl⟩;have htl:t≤281474943156225:=by rw [←ht];exact Nat.mul_le_mul (show x≤16777215 by omega) (show y≤16777215 by omega)
      rw [ht] at hst hsm;have qt:(x:Int)*(y:Int)=(t:Int):=by rw [←ht];simp
      obtain ⟨r,hr⟩:∃r,(t+p+c)%16777216=r:=⟨_,rfl⟩;obtain ⟨c',hc'⟩:∃c',(t+p+c)/16777216=c' :=⟨_,rfl⟩;rw [hr,hc'] at hst;rw [hc'] at hsm;have hrl:r<16777216:=by rw [←hr];exact Nat.mod_lt _ (by decide)
      have htl' :(t:Int)≤281474943156225:=by omega
      have f0:(k:Int)+(j:Int)=(m:Int):=by omega
      have f0w:IntKind.i64.wrap (m:Int)=(m:Int):=IntWalk.i64_in _ (by omega);obtain ⟨u,hu⟩:∃u,p+t=u:=⟨_,rfl⟩;obtain ⟨s,hs⟩:∃s,u+c=s:=⟨_,rfl⟩;have f1:(p:Int)+(t:Int)=(u:Int):=by omega
      have f2:(u:Int)+(c:Int)=(s:Int):=by omega
      have fw1:IntKind.i64.wrap (t:Int)=(t:Int):=IntWalk.i64_in _ (by omega);have fw2:IntKind.i64.wrap (u:Int)=(u:Int):=IntWalk.i64_in _ (by omega);have fw3:IntKind.i64.wrap (s:Int)=(s:Int):=IntWalk.i64_in _ (by omega);have q1:(s:Int)%16777216=(r:Int):=by omega
      have q2:(s:Int)/16777216=(c' :Int):=by omega
      have hs9:(s:Int)≤281475000000000:=by omega
      have hmn:(m:Int)<(n:Int):=by have:=HN.out;omega
      have hpl' :(p:Int)<16777216:=by omega
      have hkjn:k+j<n:=by have:=HN.out;omega
      have HST:=hD hst;have HPM:=hD (put_mid (Z:=List.replicate (na-k) 0) (x:=r) HQ.out hkj);have HMK:=hD hm;clear hst hr hc' hy hp hc2 hget ht htl hu hs hm hkjn hkj;go_wp2_with fail;refine wp_region_still_tail 18 (by kernel_rfl) (by kernel_rfl) ?_;simp only [List.take_succ_cons,List.take_zero,List.drop_succ_cons,List.drop_zero]
      iterate 18 still_step
      refine wpStill_nil ?_
      change wpList _ _ _ _ _ wr.drew
      go_wp2_with fail
      go_roundw
      case rel=>exact ⟨j+1,c',Q++[r],by omega,by go_num,rfl,by omega,hD (by rw [List.length_append,HQ.out];rfl),hD (okB_snoc HQO.out hrl),hD HST.out,hD (by have hmk:=HMK.out;subst hmk;rw [show k+(j+1)=k+j+1 from rfl, ←HPM.out];exact set_block HC.out),hD (HBW.out.setCell (p:=⟨g,m,none⟩) hgw _).drew⟩
      case measure=>simp [intOf];omega
     ·have hge:(nb:Int)≤(j:Int):=by omega
      obtain rfl:j=nb:=by omega
      obtain ⟨m,hm⟩:∃m,na-k=m+1:=⟨na-k-1,by omega⟩;have hm2:na-(k+1)=m:=by omega
      have hkn:k+j<n:=by have:=HN.out;omega
      have hcl:c<16777216:=by omega
      have HC2:Hid (wr.heap[g]? =some (.cells (cellsK .i64 (Q++List.replicate (m+1) 0)) 3 (0,0))):=hD (by
       have:=HC.out
       rwa [List.drop_eq_nil_of_le (by rw [HPL.out];omega),List.nil_append,hm] at this)
      have HSZ:=hD (set_zeros Q c m);have hfr:wr.frozen? ⟨g,k+j,none⟩=false:=Lib.frozen_of_heap HC2.out _;obtain ⟨z,hz⟩:∃z,wr.cell? ⟨g,k+j,none⟩=some z:=by rw [Lib.cell_of_heap HC2.out];exact ⟨_,cellsK_get (by simp [HQ.out])⟩
      have q1:(c:Int)%16777216=(c:Int):=by omega
      have HV2:=hD (prod_outer (c:=c) (la:=la) (lb:=lb) (by rw [HQ.out,HNB.out]) (by rw [HPL.out,HNB.out]) hkA HX.out HPV.out (by have:=HQV.out;rwa [HNB.out] at this));have HM:=hD hm2;clear hm hm2;go_wp2_with fail
      go_roundw
      case rel=>exact ⟨k+1,Q++[c],by omega,by go_num,hD (by rw [List.length_append,HQ.out];simp;omega),hD (okB_snoc HQO.out hcl),hD HV2.out,hD (by rw [HM.out, ←HSZ.out,HQ.out];exact set_block HC2.out),hD (HBW.out.setCell (p:=⟨g,k+j,none⟩) hgw _)⟩
      case measure=>simp [intOf];omega
   ·have hge:(na:Int)≤(k:Int):=by omega
    obtain rfl:k=na:=by omega
    have HL:Hid (LimR wo (.slice (some ⟨g,0,none⟩) n n) P):=hD (by
     have h:=LimR.block (W:=wo) (g:=g) (cap:=n) (l:=P) HPO.out (cs:=cellsK .i64 P) (t:=3) (by
      have:=HC.out
      rwa [Nat.sub_self,List.replicate_zero,List.append_nil] at this) (fun i h=>cellsK_get h) (by rw [HPL.out,HN.out];omega) (by rw [HPL.out];omega)
     rwa [HPL.out,HN.out] at h)
    have HRES:Hid (valB 16777216 P=A*B):=hD (by rw [HPV.out,List.take_of_length_le (by have:=HNA.out;omega),HUV.out,HVV.out]);have HP9:Hid (P.length≤30000000):=hD (by rw [HPL.out];omega);have HBZ:=hD (HB0.out.trans (HBW.out.mono HB0.out.size));go_wp2_with fail;refine (rnumber_any _ _ _ HL.out HP9.out).mono ?_;rintro e w4 ⟨rfl,hb⟩;rw [HRES.out];have HBZ:=hD (HBZ.out.trans (hb.mono HBZ.out.size));clear hb;go_wp2_with fail;go_ret;exact ⟨rfl,HBZ.out⟩
end Go.Proofs.YtblgfmjlajhipaaGreatDoor
