/- RateForce: contracts and the law's walk. Each theorem names its conditions. -/
import Derived.WalkKit
import Derived.Deep.LoopGhost
import Derived.Deep.QuietTactic
import Derived.BigQuiet
import Derived.Test.YtblgfmjlajhipaaGreatDoorProg
import Derived.WalkSpells
import Derived.WalkLawsBesides
import Derived.IntWalk
import Derived.Lib.Hide
import Derived.Laws.BitsAllLaws
import Derived.StillTailTactics
import Derived.Deep.OwnRows
import Derived.Lib.ConvBytes
import Derived.Below
import Derived.RangeFuncNested
import Derived.RangeFuncCalls
import Derived.RangeFuncLeaves
import Derived.Shelf.Abstract
import Derived.Lib.LaidIn
import Derived.RegionTactic
import Derived.KernelRfl
import Derived.OrdersIn
import Derived.Shelf.Strings.Trim
import Derived.Shelf.Small.Utf8
import Derived.Shelf.Small.Bits
import Derived.Shelf.Small.Strs
import Derived.Shelf.Strconv.Itoa0
import Derived.Shelf.Strings.Search1
import Derived.Shelf.Strings.Runes
import Derived.Shelf.Strings.AsciiSet
import Derived.Shelf.Unicode.DecodeSlow
import Derived.Shelf.Unicode.DecodeAny
import Derived.Ground.SlgmProg
import Derived.Shelf.SortM.Plain
import Derived.Shelf.SortM.SortNone
import Derived.Test.YtblgfmjlajhipaaGreatDoorKfa2
import Derived.Test.YtblgfmjlajhipaaGreatDoorZb5
import Derived.Test.YtblgfmjlajhipaaGreatDoorZa7
import Derived.Test.YtblgfmjlajhipaaGreatDoorZa6
import Derived.Test.YtblgfmjlajhipaaGreatDoorZa5
import Derived.Test.YtblgfmjlajhipaaGreatDoorZa4
import Derived.Test.YtblgfmjlajhipaaGreatDoorZa3
import Derived.Test.YtblgfmjlajhipaaGreatDoorZa0
import Derived.Test.YtblgfmjlajhipaaGreatDoorZa1
import Derived.Test.YtblgfmjlajhipaaGreatDoorZa2
import Derived.Test.YtblgfmjlajhipaaGreatDoorKfa0
set_option maxHeartbeats 16000000
set_option linter.unusedVariables false
namespace Go.Proofs.YtblgfmjlajhipaaGreatDoor
open Go.RowKit Go.Shelf
open Dgt
theorem app_copyD {w:World} {ws g2:Nat} {u:Value} {l:List Dk} (h2:w.heap[g2]? =some (.cells #[] 64 (0,0))) (hg2:ws≤g2) (hl:LstD w u l) (hn:l.length≤900) :
  ∃v' w',(Builtin.append_ #[56,56] 56 #[.slice (some ⟨g2,0,none⟩) 0 0,u]).run Tryz.prog w=.ok v' w' ∧w'.ownsRow ws 64 4 v' l.length (cells4 l)∧w.grownBy w' (some g2):=by
 obtain ⟨i0,hi,hz0,hz1,hz2⟩:=info_partsN infoDk;have h0:w.ownsRow ws 64 4 (.slice (some ⟨g2,0,none⟩) 0 0) 0 []:=⟨rfl,.inr ⟨g2,0,#[],rfl,hg2,h2,Nat.le_refl _,by unfold maxLen;omega,rfl,rfl⟩⟩;have hlt:=(Array.getElem?_eq_some_iff.1 h2).1;obtain ⟨p,cap,h1,-,h3,h4⟩:=hl;rw [List.length_map] at h1 h3;subst h1;cases p with
 | none =>
  have hl0:l=[]:=by
   cases l with
   | nil=>rfl
   | cons d t=>obtain ⟨g,off,e,-⟩:=h4 0 (by simp);cases e
  subst hl0;exact ⟨_,w,append_nil_any Tryz.underlying56 hi h0,h0,⟨rfl,rfl,rfl,Nat.le_refl _,fun _ _ _=>rfl⟩⟩
 | some a =>
  obtain ⟨v',w',hr,r1,r2,-⟩:=run_append_own (P:=Tryz.prog) w ws 56 56 64 i0 (.agg #[.int .i64 0,.bool false,.string ⟨#[]⟩,.string ⟨#[]⟩]) 4 48 Tryz.underlying56 hi hz0 hz1 hz2 rfl (by decide)
   _ 0 [] h0 a l.length cap (cells4 l) (by unfold cells4;rw [flat_len (n:=4) (fun r hr=>by obtain ⟨b,-,rfl⟩:=List.mem_map.1 hr;rfl),List.length_map])
   (fun j x hj=>by
    obtain ⟨hi4,hx⟩:=cells4_at hj;obtain ⟨g,off,e,-,k3⟩:=h4 (j/4) (by rw [List.length_map];exact hi4);cases e;have h5:=k3 (j%4) x (by rw [List.getElem_map];exact hx);have hadd:((⟨g,off,none⟩:Addr).add j)=⟨g,off+j,none⟩:=by unfold Addr.add;split<;>simp_all
    rw [hadd];rw [show off+j/4*4+j%4=off+j by omega] at h5;exact h5)
   (fun x hx=>by
    unfold cells4 at hx;obtain ⟨r,hr,hx2⟩:=List.mem_flatten.1 hx;obtain ⟨b,-,rfl⟩:=List.mem_map.1 hr;exact cells4_one b x hx2)
   (by unfold maxLen;omega) (by omega) (by omega)
  rw [Nat.zero_add,List.nil_append] at r1;exact ⟨v',w',hr,r1,r2⟩
theorem app_oneD {w:World} {ws g6 n:Nat} {v4:Value} {xs:List Value} {a b c d:Value} (h4:w.ownsRow ws 64 4 v4 n xs) (h6:w.heap[g6]? =some (.cells #[a,b,c,d] 64 (0,0))) (h1:∀u ∈ [a,b,c,d],u.oneCell' =true) (hws:ws≤w.heap.size) (hl:n≤1000) :
  ∃v' w',(Builtin.append_ #[56,56] 56 #[v4,.slice (some ⟨g6,0,none⟩) 1 1]).run Tryz.prog w=.ok v' w' ∧w'.ownsRow ws 64 4 v' (n+1) (xs++[a,b,c,d])∧w.grownBy w' v4.ownBlock:=by
 obtain ⟨i0,hi,hz0,hz1,hz2⟩:=info_partsN infoDk;obtain ⟨v',w',hr,r1,r2,-⟩:=run_append_own (P:=Tryz.prog) w ws 56 56 64 i0 (.agg #[.int .i64 0,.bool false,.string ⟨#[]⟩,.string ⟨#[]⟩]) 4 48 Tryz.underlying56 hi hz0 hz1 hz2 rfl (by decide)
  v4 n xs h4 ⟨g6,0,none⟩ 1 1 [a,b,c,d] rfl (fun j u hj=>by
   have e:(⟨g6,0,none⟩:Addr).add j=⟨g6,j,none⟩:=by cases j<;>simp [Addr.add]
   rw [e,Lib.cell_of_heap h6];simpa using hj) h1 (by unfold maxLen;omega) (by omega) hws
 exact ⟨v',w',hr,r1,r2⟩
def EFU5 (p8:Option Addr) (qs:List (Int × Int)) (c8 bk10 ws:Nat) (ms:List Dk) (xd:Int) (xr:Rt):Nat→Value
 | 1=>.slice p8 qs.length c8
 | 3=>.agg #[.int .i64 xd,.bool xr.neg,.string (encS xr.num),.string (encS xr.den)]
 | _=>undef
def SFU5 (p8:Option Addr) (qs:List (Int × Int)) (c8 bk10 ws:Nat) (ms:List Dk) (xd:Int) (xr:Rt) (ix:Nat) (v:Value) (w:World):Prop :=
 match ix with
 | 0=>∃g,v=.slice (some ⟨g,0,none⟩) 0 0∧ws≤g∧w.heap[g]? =some (.cells #[] 64 (0,0))
 | 2=>w.ownsRow ws 64 4 v ms.length (cells4 ms)
 | 4=>∃g,v=.slice (some ⟨g,0,none⟩) 1 1∧w.heap[g]? =some (.cells #[.int .i64 xd,.bool xr.neg,.string (encS xr.num),.string (encS xr.den)] 64 (0,0))
 | 5=>w.ownsRow ws 64 4 v (ms.length+1) (cells4 ms++[.int .i64 xd,.bool xr.neg,.string (encS xr.num),.string (encS xr.den)])
 | 6=>w.ownsRow ws 64 4 v (ms.length+1) (cells4 ms++[.int .i64 xd,.bool xr.neg,.string (encS xr.num),.string (encS xr.den)])
 | ix=>v=EFU5 p8 qs c8 bk10 ws ms xd xr ix
theorem SFU5_up (p8:Option Addr) (qs:List (Int × Int)) (c8 bk10 ws:Nat) (ms:List Dk) (xd:Int) (xr:Rt) (ix:Nat) (v:Value) (w w' :World) (hb:Below w.heap.size w w') (h:SFU5 p8 qs c8 bk10 ws ms xd xr ix v w):SFU5 p8 qs c8 bk10 ws ms xd xr ix v w' :=by
 unfold SFU5 at h ⊢
 split at h
 ·exact by obtain ⟨g,e1,e2,e3⟩:=h;exact ⟨g,e1,e2,hpU hb e3⟩
 ·exact own_up h hb
 ·exact by obtain ⟨g,e1,e2⟩:=h;exact ⟨g,e1,hpU hb e2⟩
 ·exact own_up h hb
 ·exact own_up h hb
 ·exact h
def Eforce_law_11_1 (la:Rt) (xk:Rt) (k:Nat) (p8:Option Addr) (c8:Nat) (qs:List (Int × Int)) (nn:List DR) (cn:Nat) (gl:Nat) (off:Nat) (dk:Int):Nat→Value
 | 0=>.int .i64 (k:Int)
 | 1=>.bool false
 | 2=>.bool false
 | 3=>undef
 | 4=>undef
 | 5=>undef
 | 6=>undef
 | 7=>undef
 | 8=>undef
 | 9=>undef
 | 10=>undef
 | 11=>undef
 | 12=>undef
 | 13=>undef
 | 14=>undef
 | 15=>.bool false
 | 16=>.bool false
 | 17=>.slice (some ⟨gl,off,none⟩) nn.length cn
 | 18=>.int .i64 (k:Int)
 | 19=>.pointer (some ⟨gl,off+k*4,none⟩)
 | 20=>.pointer (some ⟨gl,off+k*4+1,none⟩)
 | 21=>.agg #[.bool xk.neg,.string (encS xk.num),.string (encS xk.den)]
 | 22=>.agg #[.bool la.neg,.string (encS la.num),.string (encS la.den)]
 | 23=>.bool false
 | 24=>.bool false
 | 25=>.bool false
 | 26=>.slice p8 qs.length c8
 | 27=>.slice (some ⟨gl,off,none⟩) nn.length cn
 | 28=>.int .i64 (k:Int)
 | 29=>.pointer (some ⟨gl,off+k*4,none⟩)
 | 30=>.pointer (some ⟨gl,off+k*4,none⟩)
 | 31=>.int .i64 dk
 | 32=>.agg #[.bool xk.neg,.string (encS xk.num),.string (encS xk.den)]
 | 33=>.slice (some ⟨gl,off,none⟩) nn.length cn
 | 34=>.int .i64 (k:Int)
 | 35=>.pointer (some ⟨gl,off+k*4,none⟩)
 | 36=>.pointer (some ⟨gl,off+k*4+1,none⟩)
 | 37=>.agg #[.bool xk.neg,.string (encS xk.num),.string (encS xk.den)]
 | 38=>.bool false
 | 39=>.bool false
 | 40=>.bool false
 | 41=>.slice p8 qs.length c8
 | 42=>.slice (some ⟨gl,off,none⟩) nn.length cn
 | 43=>.int .i64 (k:Int)
 | 44=>.pointer (some ⟨gl,off+k*4,none⟩)
 | 45=>.pointer (some ⟨gl,off+k*4,none⟩)
 | 46=>.int .i64 dk
 | 47=>.int .i64 (dk-1)
 | 48=>.agg #[.bool la.neg,.string (encS la.num),.string (encS la.den)]
 | 49=>.agg #[.bool la.neg,.string (encS la.num),.string (encS la.den)]
 | 50=>.bool false
 | 51=>.bool false
 | _=>undef
def Eforce_law_11_2 (la:Rt) (xk:Rt) (k:Nat) (j:Nat) (p8:Option Addr) (c8:Nat) (qs:List (Int × Int)) (nn:List DR) (cn:Nat) (gl:Nat) (off:Nat) (dk:Int) (dj:Int):Nat→Value
 | 0=>.int .i64 (k:Int)
 | 1=>.bool true
 | 2=>.bool true
 | 3=>.slice (some ⟨gl,off,none⟩) nn.length cn
 | 4=>.int .i64 (k:Int)
 | 5=>.pointer (some ⟨gl,off+k*4,none⟩)
 | 6=>.pointer (some ⟨gl,off+k*4,none⟩)
 | 7=>.int .i64 dk
 | 8=>.slice (some ⟨gl,off,none⟩) nn.length cn
 | 9=>.int .i64 (k:Int)
 | 10=>.int .i64 (j:Int)
 | 11=>.pointer (some ⟨gl,off+j*4,none⟩)
 | 12=>.pointer (some ⟨gl,off+j*4,none⟩)
 | 13=>.int .i64 dj
 | 14=>.bool false
 | 15=>.bool false
 | 16=>.bool false
 | 17=>.slice (some ⟨gl,off,none⟩) nn.length cn
 | 18=>.int .i64 (k:Int)
 | 19=>.pointer (some ⟨gl,off+k*4,none⟩)
 | 20=>.pointer (some ⟨gl,off+k*4+1,none⟩)
 | 21=>.agg #[.bool xk.neg,.string (encS xk.num),.string (encS xk.den)]
 | 22=>.agg #[.bool la.neg,.string (encS la.num),.string (encS la.den)]
 | 23=>.bool false
 | 24=>.bool false
 | 25=>.bool false
 | 26=>.slice p8 qs.length c8
 | 27=>.slice (some ⟨gl,off,none⟩) nn.length cn
 | 28=>.int .i64 (k:Int)
 | 29=>.pointer (some ⟨gl,off+k*4,none⟩)
 | 30=>.pointer (some ⟨gl,off+k*4,none⟩)
 | 31=>.int .i64 dk
 | 32=>.agg #[.bool xk.neg,.string (encS xk.num),.string (encS xk.den)]
 | 33=>.slice (some ⟨gl,off,none⟩) nn.length cn
 | 34=>.int .i64 (k:Int)
 | 35=>.pointer (some ⟨gl,off+k*4,none⟩)
 | 36=>.pointer (some ⟨gl,off+k*4+1,none⟩)
 | 37=>.agg #[.bool xk.neg,.string (encS xk.num),.string (encS xk.den)]
 | 38=>.bool false
 | 39=>.bool false
 | 40=>.bool false
 | 41=>.slice p8 qs.length c8
 | 42=>.slice (some ⟨gl,off,none⟩) nn.length cn
 | 43=>.int .i64 (k:Int)
 | 44=>.pointer (some ⟨gl,off+k*4,none⟩)
 | 45=>.pointer (some ⟨gl,off+k*4,none⟩)
 | 46=>.int .i64 dk
 | 47=>.int .i64 (dk-1)
 | 48=>.agg #[.bool la.neg,.string (encS la.num),.string (encS la.den)]
 | 49=>.agg #[.bool la.neg,.string (encS la.num),.string (encS la.den)]
 | 50=>.bool false
 | 51=>.bool false
 | _=>undef
def Eforce_law_16_3 (xr:Rt) (xd:Int) (dd:Int) (p9:Option Addr) (c9:Nat) (ms:List Dk) (bk10:Nat):Nat→Value
 | 0=>.bool true
 | 1=>.bool true
 | 2=>.slice p9 (ms.length+1) c9
 | 3=>.pointer (some ⟨bk10,0,none⟩)
 | 4=>.int .i64 xd
 | 5=>.agg #[.bool xr.neg,.string (encS xr.num),.string (encS xr.den)]
 | 6=>.pointer (some ⟨bk10,1,none⟩)
 | 7=>.agg #[.bool xr.neg,.string (encS xr.num),.string (encS xr.den)]
 | 8=>.bool true
 | 9=>.bool true
 | 10=>.bool true
 | 11=>.int .i64 dd
 | 12=>.pointer (some ⟨bk10,0,none⟩)
 | 13=>.int .i64 xd
 | 14=>.bool true
 | 15=>.bool true
 | 16=>undef
 | 17=>undef
 | 18=>undef
 | 19=>undef
 | 20=>undef
 | 21=>undef
 | 22=>undef
 | 23=>.bool true
 | 24=>.bool true
 | 25=>.bool true
 | _=>undef
def Eforce_law_16_4 (xr:Rt) (on1:Rt) (p8:Option Addr) (c8:Nat) (qs:List (Int × Int)) (xd:Int) (dd:Int) (p9:Option Addr) (c9:Nat) (ms:List Dk) (bk10:Nat):Nat→Value
 | 0=>.bool true
 | 1=>.bool true
 | 2=>.slice p9 (ms.length+1) c9
 | 3=>.pointer (some ⟨bk10,0,none⟩)
 | 4=>.int .i64 xd
 | 5=>.agg #[.bool xr.neg,.string (encS xr.num),.string (encS xr.den)]
 | 6=>.pointer (some ⟨bk10,1,none⟩)
 | 7=>.agg #[.bool xr.neg,.string (encS xr.num),.string (encS xr.den)]
 | 8=>.bool true
 | 9=>.bool true
 | 10=>.bool true
 | 11=>.int .i64 dd
 | 12=>.pointer (some ⟨bk10,0,none⟩)
 | 13=>.int .i64 xd
 | 14=>.bool false
 | 15=>.bool false
 | 16=>.slice p9 (ms.length+1) c9
 | 17=>.int .i64 dd
 | 18=>.agg #[.bool on1.neg,.string (encS on1.num),.string (encS on1.den)]
 | 19=>.slice p8 qs.length c8
 | 20=>.int .i64 dd
 | 21=>.agg #[.bool on1.neg,.string (encS on1.num),.string (encS on1.den)]
 | 22=>.bool true
 | 23=>.bool true
 | 24=>.bool true
 | 25=>.bool true
 | _=>undef
set_option maxRecDepth 100000 in
theorem force_law (pq:Option Addr) (nq capq:Nat) (qs:List (Int × Int)) (m0 m1 dy:Int) (hd:0≤dy∧dy≤255) (hm:I64 m0∧I64 m1) (hi:∀p ∈ qs,I64 p.1∧I64 p.2) (wq:World) (hq:CutC 2 30 wq (.slice pq nq capq) nq (qs.map fun p=>[.int .i64 p.1,.int .i64 p.2])) :
  Gv 9 #[.slice pq nq capq,.agg #[.int .i64 m0,.int .i64 m1],.int .u8 dy] wq (.bool true):=by
 unfold Gv;have HP:Hid (LstP wq (.slice pq qs.length capq) qs):=hD (by have h:=hq.cut (by decide);rw [List.length_map] at h;exact h);obtain ⟨h4,h5,h6⟩:nq≤capq∧nq≤9223372036854775807∧qs.length=min nq 30:=by
  obtain ⟨p',cap',h1,h2,h3,h4,-⟩:=hq;simp only [Value.slice.injEq] at h1;obtain ⟨-,-,rfl⟩:=h1;rw [List.length_map] at h4;exact ⟨h2,h3,h4⟩
 have HM2:Hid (min (nq:Int) 30=(qs.length:Int)∧(qs.length:Int)≤(capq:Int)):=hD (by omega);have HLL:Hid (qs.length≤30):=hD (by omega);have HDO:=hD (fun w h=>Days_own (.slice pq qs.length capq) qs hi w h);have HDX:=hD (fun w v h=>Days_own v [(m0,m1)] (fun p hp=>by rw [List.mem_singleton.1 hp];exact hm) w h);have HGX:=days_gr [(m0,m1)];have hZX:=days_fit [(m0,m1)];have HZM:=hD (days_fit qs);have HGR:=hD (days_gr qs);obtain ⟨⟨xd,xr⟩,hx⟩:∃e,dayOf (m0,m1)=e:=⟨_,rfl⟩;have hdx:daysD [(m0,m1)]=[(xd,xr)]:=by unfold daysD;rw [List.map_singleton,hx]
 rw [hdx] at HDX HGX hZX;have hxd:=HGX.day (xd,xr) (by simp);have HXD:Hid (0≤xd∧xd≤3652058):=hD hxd;obtain ⟨g0,hg0⟩:∃g,daysD qs=g:=⟨_,rfl⟩;rw [hg0] at HDO HZM HGR;have HML:Hid (g0.length=qs.length):=hD (by rw [←hg0];unfold daysD;rw [List.length_map]);have HDR:Hid (drs (g0.map rawD)=g0):=hD (drs_raw HGR.out);have HDW:Hid (drs (g0.map rawD++[rawD (xd,xr)])=g0++[(xd,xr)]):=hD (by have h:=drs_raw (gr_app HGR.out HGX);rw [List.map_append] at h;exact h);have HNG:=norm_gr HGR.out;have HDN:Hid (drs ((normG g0).map rawD)=normG g0):=hD (drs_raw HNG);have HZN:Hid (SzD ((normG g0).map rawD) 1100000):=hD (fun d hd=>by
  obtain ⟨e,he,rfl⟩:=List.mem_map.1 hd;exact rawR_sz ((fitT_sz (HNG.fit e he)).mono (by decide)))
 have HNL:Hid ((normG g0).length≤30):=hD (by have h:=normG_le (g0.map rawD);rw [HDR.out,List.length_map,HML.out] at h;have:=HLL.out;omega);have hself:=norm_self HGR.out;have hon:=fun d=>on_self HGR.out d
 have hwx:=on_add_at HGR.out (x:=(xd,xr)) hxd.1 hxd.2;have HWB:=hD (fun d (h:d<xd)=>on_add_before (g:=g0) (x:=(xd,xr)) h);obtain ⟨nn,hnn⟩:∃m,normG g0=m:=⟨_,rfl⟩;obtain ⟨hat,hbe,hne,hup⟩:=force_all HGR.out hnn;rw [hnn] at HDN HZN HNL hself hon;have HNN:=hD hnn;obtain ⟨ms,hms⟩:∃m,g0.map rawD=m:=⟨_,rfl⟩;rw [hms] at HDO HZM HDR HDW;have HMS:Hid (ms.length=qs.length):=hD (by rw [←hms,List.length_map,HML.out]);have HZW:Hid (SzD (ms++[rawD (xd,xr)]) 1100000):=hD (fun d hd=>(List.mem_append.1 hd).elim (HZM.out d) (fun h=>hZX d h));have HSELF:=hD hself;have HON:=hD hon;have HFA:=hD hat;have HFB:=hD hbe;have HFN:=hD hne;have HFU:=hD hup;have HWX:Hid (onT (g0++[(xd,xr)]) xd=xr):=hD hwx;have c0:=fun w=>rRatOf_any 0 w (by decide) (by decide)
 obtain ⟨z0,hz0⟩:∃x,ofR 0=x:=⟨_,rfl⟩;rw [hz0] at c0;have HZ0:Hid (lastK nn 0=z0):=hD (by rw [←hz0];rfl);have t1:dy.tmod 60=dy%60:=Int.tmod_eq_emod_of_nonneg hd.1;have hb0:=Int.emod_nonneg dy (show (60:Int)≠0 by decide);have hb1:=Int.emod_lt_of_pos dy (show (0:Int)<60 by decide);obtain ⟨d1,g1⟩:∃x,dy%60=x:=⟨_,rfl⟩;rw [g1] at t1 hb0 hb1;obtain ⟨F,g2⟩:∃x,730000+d1=x:=⟨_,rfl⟩;obtain ⟨dd,g3⟩:∃x,F-5=x:=⟨_,rfl⟩;have W (x y:Int) (h: -9223372036854775808≤x∧x≤9223372036854775807) (e:x=y):IntKind.i64.wrap x=y:=by rw [IntWalk.i64_in _ (by omega)];exact e
 have HW1:Hid (IntKind.i64.wrap dy=dy∧dy.tmod 60=d1∧IntKind.i64.wrap d1=d1∧IntKind.i64.wrap (730000+d1)=F∧IntKind.i64.wrap (F-5)=dd):=hD ⟨W _ _ (by omega) rfl,t1,W _ _ (by omega) rfl,W _ _ (by omega) g2,W _ _ (by omega) g3⟩;have HWK:Hid (∀k:Nat,k≤1000→IntKind.i64.wrap (((k+1:Nat):Int)-1)=(k:Int)):=hD (fun k hk=>W _ _ (by omega) (by omega));have HWD:Hid (∀x:Int,0≤x→x≤3652058→IntKind.i64.wrap (x-1)=x-1):=hD (fun x h1 h2=>W _ _ (by omega) rfl);have HND:Hid (∀e ∈ nn,0≤e.1∧e.1≤3652058):=hD (by rw [←hnn];exact HNG.day);clear hq h4 h5 h6 hi hd hm HGX hZX hx hdx hxd hg0 HNG hself hon hat hbe hne hup hwx hnn hms hz0 t1 hb0 hb1 g1 g2 g3 W;have C1:Hid (∀w,Gv 14 #[.int .i64 0] w (.agg #[.bool z0.neg,.string (encS z0.num),.string (encS z0.den)])):=hD c0;clear c0;have C2:Hid (∀w,Gv 12 #[] w (.bool true)):=hD fun w=>sanity_any w
 have HB:=hD (Below.refl wq.heap.size wq);obtain ⟨n0,hn0⟩:∃n,n=wq.heap.size:=⟨_,rfl⟩;rw [←hn0];have HN0:=hD hn0;clear hn0;go_enter Tryz.func9,Tryz.ntmps9;obtain ⟨W1,bk4,hW1,hbk4,HX4_1,HB,HG4_1,hup⟩:=boxn HB HN0 (.cells #[.int .i64 m0,.int .i64 m1] 35);clear hup;go_wp2_with fail;clear hW1 hbk4;refine (C2.out _).mono ?_;rintro e w2 ⟨rfl,hb⟩;have HX4_1:=uH hb HX4_1;have HB:=mH HB hb;clear hb;obtain ⟨hm3,hm4⟩:=HM2.out;go_wp2_with fail;clear hm3 hm4;refine (HDO.out _ (HP.out.up HB.out)).mono ?_;rintro e w3 ⟨v8,rfl,hln,hb⟩;have HX4_1:=uH hb HX4_1;have HB:=mH HB hb;obtain ⟨p8,c8,rfl⟩:=own_slice hln;have HLX:Hid (LstD w3 (.slice p8 qs.length c8) ms):=hD (by
  have h9:=HMS.out;exact own_lstD (by rw [h9];exact hln) (by rw [h9];have:=HLL.out;omega))
 have HBr:=hD (Below.refl w3.heap.size w3);clear hln hb;go_wp2_with fail;refine (Norm_any _ ms HZM.out _ (HLX.out.up HBr.out)).mono ?_;rintro e w4 ⟨v1,rfl,hn1,hb⟩;have HX4_1:=uH hb HX4_1;have HBr:=mH HBr hb;have HB:=mH HB hb;rw [HDR.out,HNN.out] at hn1;obtain ⟨pn,cn,hv,-⟩:=hn1.open;rw [List.length_map] at hv;subst hv;have HLX:=hD (HLX.out.up HBr.out);have HLN:=hD hn1;have HBr:=hD (Below.refl w4.heap.size w4);clear hn1 hb;have k2:w4.cell? ⟨bk4,0,none⟩=some (.int .i64 m0):=by rw [Lib.cell_of_heap HX4_1.out];rfl
 have k3:w4.cell? ⟨bk4,1,none⟩=some (.int .i64 m1):=by rw [Lib.cell_of_heap HX4_1.out];rfl
 obtain ⟨W5,bk25,hW5,hbk25,HX25_4,HB,HG25_4,hup⟩:=boxn HB HN0 (.cells #[.int .i64 m0,.int .i64 m1] 35);have HGb25_4:=hD (show _≤bk25 by rw [←hbk25];exact HBr.out.size);have HBr:=hD (by have h:=HBr.out.alloc HBr.out.size (.cells #[.int .i64 m0,.int .i64 m1] 35);rw [hW5] at h;exact h);have HL25_4:=(hup _ _ HX4_1).2;have HX4_1:=(hup _ _ HX4_1).1;clear hup;go_wp2_with fail;clear k2 k3 hW5 hbk25;have HLP:Hid (LstP W5 (.slice (some ⟨bk25,0,none⟩) 1 1) [(m0,m1)]):=hD ⟨some ⟨bk25,0,none⟩,1,rfl,Nat.le_refl _,by simp,fun i hi=>by
  obtain rfl:i=0:=by simpa using hi
  refine ⟨bk25,0,rfl,(Array.getElem?_eq_some_iff.1 HX25_4.out).1,fun j u hu=> ?_⟩;rw [Lib.cell_of_heap HX25_4.out]
  match j,hu with
  | 0,hu=>simpa using hu
  | 1,hu=>simpa using hu⟩
 refine (HDX.out _ _ HLP.out).mono ?_;rintro e w6 ⟨v26,rfl,hln,hb⟩;have HX4_1:=uH hb HX4_1;have HX25_4:=uH hb HX25_4;have HBr:=mH HBr hb;have HB:=mH HB hb;have hld:LstD w6 v26 [rawD (xd,xr)]:=own_lstD (by exact hln) (by simp);obtain ⟨p26,c26,rfl,-,-,hat⟩:=hld.open;have hat9:=hat 0 (by simp);clear hat;obtain ⟨gx,ox,rfl,hat⟩:=hat9;have hate:AtE w6 gx ox xd xr:=by rw [show ox=ox+0*4 by omega];exact hat
 have HEX:=hD hate;have HLX:=hD (HLX.out.up HBr.out);have HLN:=hD (HLN.out.up HBr.out);have HBr:=hD (Below.refl w6.heap.size w6);clear hln hb hat hate hld HLP;obtain ⟨k5e0,k5e1,k5e2,k5e3⟩:=HEX.out _ HBr.out;obtain ⟨W7,bk10,hW7,hbk10,HX10_6,HB,HG10_6,hup⟩:=boxn HB HN0 (.cells #[.int .i64 0,.bool false,.string ⟨#[]⟩,.string ⟨#[]⟩] 64);have HGb10_6:=hD (show _≤bk10 by rw [←hbk10];exact HBr.out.size);have HBr:=hD (by have h:=HBr.out.alloc HBr.out.size (.cells #[.int .i64 0,.bool false,.string ⟨#[]⟩,.string ⟨#[]⟩] 64);rw [hW7] at h;exact h);have HL10_6:=(hup _ _ HX4_1).2;have HX4_1:=(hup _ _ HX4_1).1;clear hup;have f7:W7.frozen? ⟨bk10,0,none⟩=false:=frz0 HX10_6.out 0;have f8:W7.frozen? ⟨bk10,1,none⟩=false:=frz0 HX10_6.out 1;have f9:W7.frozen? ⟨bk10,2,none⟩=false:=frz0 HX10_6.out 2;have f10:W7.frozen? ⟨bk10,3,none⟩=false:=frz0 HX10_6.out 3
 have k11:W7.cell? ⟨bk10,0,none⟩=some (.int .i64 0):=by rw [Lib.cell_of_heap HX10_6.out];rfl
 have k12:W7.cell? ⟨bk10,1,none⟩=some (.bool false):=by rw [Lib.cell_of_heap HX10_6.out];rfl
 have k13:W7.cell? ⟨bk10,2,none⟩=some (.string ⟨#[]⟩):=by rw [Lib.cell_of_heap HX10_6.out];rfl
 have k14:W7.cell? ⟨bk10,3,none⟩=some (.string ⟨#[]⟩):=by rw [Lib.cell_of_heap HX10_6.out];rfl
 have hB:=((((HB.out.setCell (p:=⟨bk10,0,none⟩) (by rw [←HN0.out];exact HG10_6.out) (.int .i64 xd)).setCell (p:=⟨bk10,1,none⟩) (by rw [←HN0.out];exact HG10_6.out) (.bool xr.neg)).setCell (p:=⟨bk10,2,none⟩) (by rw [←HN0.out];exact HG10_6.out) (.string (encS xr.num))).setCell (p:=⟨bk10,3,none⟩) (by rw [←HN0.out];exact HG10_6.out) (.string (encS xr.den)));have hN:((((W7.setCell ⟨bk10,0,none⟩ (.int .i64 xd)).setCell ⟨bk10,1,none⟩ (.bool xr.neg)).setCell ⟨bk10,2,none⟩ (.string (encS xr.num))).setCell ⟨bk10,3,none⟩ (.string (encS xr.den))).heap[bk10]? =some (.cells #[.int .i64 xd,.bool xr.neg,.string (encS xr.num),.string (encS xr.den)] 64 (0,0)):=by simp [World.setCell,Array.getElem?_modify,HX10_6.out]
 have hx4_1:((((W7.setCell ⟨bk10,0,none⟩ (.int .i64 xd)).setCell ⟨bk10,1,none⟩ (.bool xr.neg)).setCell ⟨bk10,2,none⟩ (.string (encS xr.num))).setCell ⟨bk10,3,none⟩ (.string (encS xr.den))).heap[bk4]? =_:=(row_else (row_else (row_else (row_else HX4_1.out (en1 HL10_6) _) (en1 HL10_6) _) (en1 HL10_6) _) (en1 HL10_6) _);have HX4_1:=hD hx4_1;clear hx4_1;have HBr:=hD ((((HBr.out.setCell (p:=⟨bk10,0,none⟩) HGb10_6.out (.int .i64 xd)).setCell (p:=⟨bk10,1,none⟩) HGb10_6.out (.bool xr.neg)).setCell (p:=⟨bk10,2,none⟩) HGb10_6.out (.string (encS xr.num))).setCell (p:=⟨bk10,3,none⟩) HGb10_6.out (.string (encS xr.den)));obtain ⟨W8,hW8⟩:∃W,((((W7.setCell ⟨bk10,0,none⟩ (.int .i64 xd)).setCell ⟨bk10,1,none⟩ (.bool xr.neg)).setCell ⟨bk10,2,none⟩ (.string (encS xr.num))).setCell ⟨bk10,3,none⟩ (.string (encS xr.den)))=W:=⟨_,rfl⟩;rw [hW8] at HBr;rw [hW8] at hN hB HX4_1
 have HX10_6:=hD hN;have HB:=hD hB;clear hN hB;go_wp2_with fail;clear k5e0 k5e1 k5e2 k5e3 hW7 hbk10 f7 f8 f9 f10 k11 k12 k13 k14 hW8;refine wp_region_used (w:=W8) (by kernel_rfl) (SFU5 p8 qs c8 bk10 W8.heap.size ms xd xr) (fun j=>if j=0 then some 2 else if j=2 then some 5 else if j=4 then some 5 else none) 7 (fun t=>(decide (11≤t)&&decide (t<12))||(decide (29≤t)&&decide (t<35))) (by decide) (by kernel_rfl) (by kernel_rfl) (by kernel_rfl) (by kernel_rfl) (by kernel_rfl) (SFU5_up p8 qs c8 bk10 W8.heap.size ms xd xr) ?_ ?_
 ·intro i hi o listed a w hR K hK hKB;have ho:=hR.at_;have hi:i<7:=hi;have hii:i=0∨i=1∨i=2∨i=3∨i=4∨i=5∨i=6:=by omega
  rcases hii with rfl|rfl|rfl|rfl|rfl|rfl|rfl<;>(simp at ho;subst ho)
  ·refine pSq ?_;go_simp;exact hKB _ _ (⟨_,rfl,hR.below.size,heap_alloc_new _ _⟩) (rB.alloc (Nat.le_refl _) _)
  ·have b8:a.tmps.getD 8 undef=.slice p8 qs.length c8:=hR.b 8;refine pSq ?_;go_simp;exact hKB _ _ (rfl) rB
  ·have e0:=hR.dep ⟨0,.data⟩ (by simp) rfl (by decide) (by decide);have e1:a.tmps.getD 30 undef=.slice p8 qs.length c8:=hR.dep ⟨1,.data⟩ (by simp) rfl (by decide) (by decide);obtain ⟨g2,e29,hg2,hh2⟩:∃g,a.tmps.getD 29 undef=.slice (some ⟨g,0,none⟩) 0 0∧W8.heap.size≤g∧w.heap[g]? =some (.cells #[] 64 (0,0)):=e0;obtain ⟨v',w'',hrun,r1,r2⟩:=app_copyD (ws:=W8.heap.size) hh2 hg2 (HLX.out.up (HBr.out.trans (hR.below.mono HBr.out.size))) (by rw [HMS.out];have:=HLL.out;omega);have hbel:=below_own hR.below (show w.ownsRow W8.heap.size 64 4 (.slice (some ⟨g2,0,none⟩) 0 0) 0 [] from ⟨rfl,.inr ⟨g2,0,#[],rfl,hg2,hh2,Nat.le_refl _,by unfold maxLen;omega,rfl,rfl⟩⟩) r2 (Nat.le_refl _);refine pSq ?_;refine wp_append_run (.tmp 29) (.tmp 30) 56 rfl _ _ v' w'' e29 e1 hrun ?_;refine hK _ _ r1 hbel ?_;intro jj u hj hji hu hl hfr hS;have hjj:jj=0∨jj=1∨jj=2∨jj=3∨jj=4∨jj=5∨jj=6:=by omega
   rcases hjj with rfl|rfl|rfl|rfl|rfl|rfl|rfl
   ·exact absurd rfl hu
   ·exact hS
   ·exact absurd rfl hji
   ·exact hS
   ·obtain ⟨g,e1,e3⟩:=hS;exact ⟨g,e1,grown_kept r2 e3 (fun e=>by injection e with e;subst e;rw [hh2] at e3;injection e3 with e3;injection e3 with e3 _ _;exact absurd (congrArg Array.size e3) (by simp))⟩
   ·exact absurd (hR.closed 5 _ rfl hl ⟨2,.data⟩ (by simp) rfl) (by rw [hR.un];simp)
   ·exact absurd (hR.closed 5 _ rfl (hR.closed 6 _ rfl hl ⟨5,.data⟩ (by simp) rfl) ⟨2,.data⟩ (by simp) rfl) (by rw [hR.un];simp)
  ·have b10:a.tmps.getD 10 undef=.pointer (some ⟨bk10,0,none⟩):=hR.b 10;have cx0:w.cell? ⟨bk10,0,none⟩=some (.int .i64 xd):=by rw [Lib.cell_of_heap (hpU hR.below HX10_6.out)];rfl
   have cx1:w.cell? ⟨bk10,1,none⟩=some (.bool xr.neg):=by rw [Lib.cell_of_heap (hpU hR.below HX10_6.out)];rfl
   have cx2:w.cell? ⟨bk10,2,none⟩=some (.string (encS xr.num)):=by rw [Lib.cell_of_heap (hpU hR.below HX10_6.out)];rfl
   have cx3:w.cell? ⟨bk10,3,none⟩=some (.string (encS xr.den)):=by rw [Lib.cell_of_heap (hpU hR.below HX10_6.out)];rfl
   refine pSq ?_;go_simp;exact hKB _ _ (rfl) rB
  ·have e3:a.tmps.getD 32 undef=.agg #[.int .i64 xd,.bool xr.neg,.string (encS xr.num),.string (encS xr.den)]:=hR.dep ⟨3,.data⟩ (by simp) rfl (by decide) (by decide);have g3:=e3;rw [Array.getD_eq_getD_getElem?] at g3;refine pSq ?_;go_simp;exact hKB _ _ (⟨_,rfl,heap_alloc_new _ _⟩) (rB.alloc (Nat.le_refl _) _)
  ·have e2:=hR.dep ⟨2,.data⟩ (by simp) rfl (by decide) (by decide);have e4:=hR.dep ⟨4,.data⟩ (by simp) rfl (by decide) (by decide);obtain ⟨g6,e33,hh6⟩:∃g,a.tmps.getD 33 undef=.slice (some ⟨g,0,none⟩) 1 1∧w.heap[g]? =some (.cells #[.int .i64 xd,.bool xr.neg,.string (encS xr.num),.string (encS xr.den)] 64 (0,0)):=e4;have hown:w.ownsRow W8.heap.size 64 4 (a.tmps.getD 31 undef) ms.length (cells4 ms):=e2;obtain ⟨v4,hv4⟩:∃v,a.tmps.getD 31 undef=v:=⟨_,rfl⟩;rw [hv4] at hown;obtain ⟨v',w'',hrun,r1,r2⟩:=app_oneD hown hh6 (one4 _ _ _ _) hR.below.size (by rw [HMS.out];have:=HLL.out;omega);have hbel:=below_own hR.below hown r2 (Nat.le_refl _);refine pSq ?_;refine wp_append_run (.tmp 31) (.tmp 33) 56 rfl _ _ v' w'' hv4 e33 hrun ?_;refine hK _ _ r1 hbel ?_;intro jj u hj hji hu hl hfr hS;have hjj:jj=0∨jj=1∨jj=2∨jj=3∨jj=4∨jj=5∨jj=6:=by omega
   rcases hjj with rfl|rfl|rfl|rfl|rfl|rfl|rfl
   ·exact absurd (hR.ups ⟨2,.data⟩ (by simp) rfl) (by rw [show listed.getD 2 false=false from hfr 2 rfl];simp)
   ·exact hS
   ·exact absurd rfl hu
   ·exact hS
   ·exact absurd rfl hu
   ·exact absurd rfl hji
   ·exact absurd (hR.closed 6 _ rfl hl ⟨5,.data⟩ (by simp) rfl) (by rw [hR.un];simp)
  ·have e5:=hR.dep ⟨5,.data⟩ (by simp) rfl (by decide) (by decide);have hown:w.ownsRow W8.heap.size 64 4 (a.tmps.getD 34 undef) (ms.length+1) (cells4 ms++[.int .i64 xd,.bool xr.neg,.string (encS xr.num),.string (encS xr.den)]):=e5;obtain ⟨v5,hv5⟩:∃v,a.tmps.getD 34 undef=v:=⟨_,rfl⟩;rw [hv5] at hown;refine pSq ?_;go_simp;exact hKB _ _ (hown) rB
 ·intro s w hS hb;have e6:=hS 6 (by decide) rfl;simp only [over,ovL,Nat.reduceAdd,Nat.reduceLeDiff,Nat.reduceLT]
  change wpTail _ _ _ 0 _ _ _;simp only [wpTail]
  obtain ⟨v9,h9⟩:∃v,s 11=v:=⟨_,rfl⟩;have hown:w.ownsRow W8.heap.size 64 4 (s 11) (ms.length+1) (cells4 ms++[.int .i64 xd,.bool xr.neg,.string (encS xr.num),.string (encS xr.den)]):=e6;rw [h9] at hown ⊢;have HLW:Hid (LstD w v9 (ms++[rawD (xd,xr)])):=hD (own_lstD (by rw [List.length_append,cells4_app];exact hown) (by rw [List.length_append,HMS.out];have:=HLL.out;simp;omega));obtain ⟨p9,c9,hv9⟩:=own_slice hown;subst hv9;have HLX:=hD (HLX.out.up (HBr.out.trans (hb.mono HBr.out.size)));have HLN:=hD (HLN.out.up (HBr.out.trans (hb.mono HBr.out.size)));have HX10_6:=uH hb HX10_6;have HB:=mH HB hb;have HBr:=hD (Below.refl w.heap.size w);obtain ⟨w8,hw⟩:∃w8,w8=w:=⟨_,rfl⟩;subst hw;clear hS hb e6 hown h9;obtain ⟨x1,x2,x3,x4,x5⟩:=HW1.out;go_wp2_with fail;clear x1 x2 x3 x4 x5;refine (C1.out _).mono ?_;rintro e w9 ⟨rfl,hb⟩;have HX10_6:=uH hb HX10_6;have HBr:=mH HBr hb;have HB:=mH HB hb;clear hb
  obtain ⟨W10,bk13,hW10,hbk13,HX13_15,HB,HG13_15,hup⟩:=boxZ HB HN0;have HGb13_15:=hD (show _≤bk13 by rw [←hbk13];exact HBr.out.size);have HBr:=hD (by have h:=HBr.out.alloc HBr.out.size (.cells #[.bool false,.string ⟨#[]⟩,.string ⟨#[]⟩] 29);rw [hW10] at h;exact h);have HL13_15:=(hup _ _ HX10_6).2;have HX10_6:=(hup _ _ HX10_6).1;clear hup;obtain ⟨W11,hW11,HX13_15,HB,ho,f16a,f16b,f16c,k16a,k16b,k16c⟩:=putR HX13_15 HB HN0 HG13_15 z0;have HX10_6:=ho _ _ (en1 HL13_15) HX10_6;have HBr:=hD (by have h:=((HBr.out.setCell (p:=⟨bk13,0,none⟩) HGb13_15.out (.bool z0.neg)).setCell (p:=⟨bk13,1,none⟩) HGb13_15.out (.string (encS z0.num))).setCell (p:=⟨bk13,2,none⟩) HGb13_15.out (.string (encS z0.den));rw [hW11] at h;exact h);clear ho;go_wp2_with fail;clear hW10 hbk13 f16a f16b f16c k16a k16b k16c hW11
  go_loopw [14] (fun u14 wr=>∃(k:Nat) (la:Rt),k≤nn.length∧u14=.int .i64 (k:Int)∧Hid (lastK nn k=la)∧Hid (Below w8.heap.size w8 wr)∧Hid (wr.heap[bk10]? =some (.cells #[.int .i64 xd,.bool xr.neg,.string (encS xr.num),.string (encS xr.den)] 64 (0,0)))∧Hid (wr.heap[bk13]? =some (.cells #[.bool la.neg,.string (encS la.num),.string (encS la.den)] 29 (0,0)))∧Hid (Below wq.heap.size wq wr)) (fun u14 _=>nn.length-(intOf u14).toNat)
  case atStart=>exact ⟨0,z0,by omega,by first|rfl|go_num,HZ0,HBr,HX10_6,HX13_15,HB⟩
  case round =>
   obtain ⟨k,la,hk,rfl,HS,HBr,HX10_6,HX13_15,HB⟩:=hrel
   by_cases hlt:k<nn.length
   ·have hlt' :(k:Int)<(nn.length:Int):=by omega
    have HLT:=hD hlt;obtain ⟨p',c',hv,-,-,hat⟩:=HLN.out.open;rw [List.length_map] at hv;simp only [Value.slice.injEq] at hv;obtain ⟨rfl,-,rfl⟩:=hv;have HAT:Hid (∀i (h:i<nn.length),∃g off,pn=some ⟨g,off,none⟩∧AtE w8 g (off+i*4) nn[i].1 nn[i].2):=hD fun i h=>by
     obtain ⟨g,off,h1,h2⟩:=hat i (by rw [List.length_map];exact h);rw [List.getElem_map] at h2;exact ⟨g,off,h1,h2⟩
    clear hat;have hfa:=HFA.out k hlt;have hfb:=HFB.out k hlt;have hfn:=HFN.out k hlt;rw [HS.out] at hfb hfn;have HSN:Hid (lastK nn (k+1)=(nn[k]'hlt).2):=hD (rtAt_at hlt);have hdk:=HND.out _ (List.getElem_mem hlt);obtain ⟨gl,off,rfl,hat⟩:=HAT.out k hlt;obtain ⟨⟨dk,xk⟩,he⟩:∃e,nn[k]'hlt=e:=⟨_,rfl⟩;rw [he] at hfa hfb hfn HSN hdk hat;have HEK:Hid (AtE w8 gl (off+k*4) dk xk):=hD hat;have HFAk:Hid (onT g0 dk=xk):=hD hfa;have HFBk:Hid (onT g0 (dk-1)=la):=hD hfb;have HNE:Hid (xk≠la):=hD hfn;have hwd:=HWD.out dk hdk.1 hdk.2;have HWDk:=hD hwd;have HEQ:Hid (nn[k]? =some (dk,xk)):=hD (by rw [List.getElem?_eq_getElem hlt,he]);have HWI:Hid (IntKind.i64.wrap ((k:Int)+1)=((k+1:Nat):Int)):=hD (by rw [IntWalk.i64_in _ (by have:=HLT.out;have:=HNL.out;omega)];omega);clear hat hfa hfb hfn hdk he hlt hk hwd
    have C3:Hid (∀w,Below w8.heap.size w8 w→Gv 36 #[.slice p8 qs.length c8,.int .i64 dk] w (.agg #[.bool xk.neg,.string (encS xk.num),.string (encS xk.den)])):=hD fun w hp0=>by
     have h:=On_any _ ms dk HZM.out w (HLX.out.up hp0);rw [HDR.out,HFAk.out] at h;exact h
    have C4:Hid (∀w,Below w8.heap.size w8 w→Gv 36 #[.slice p8 qs.length c8,.int .i64 (dk-1)] w (.agg #[.bool la.neg,.string (encS la.num),.string (encS la.den)])):=hD fun w hp0=>by
     have h:=On_any _ ms (dk-1) HZM.out w (HLX.out.up hp0);rw [HDR.out,HFBk.out] at h;exact h
    by_cases hk0:k=0
    ·have HK0:Hid (decide (0<k)=false):=hD (by subst hk0;decide);clear hk0;go_wp2_with fail;clear hlt';refine wpVl (w:=wr) (by kernel_rfl) (fun ix v _=>v=Eforce_law_11_1 la xk k p8 c8 qs nn cn gl off dk ix) (fun t=>(decide (47≤t)&&decide (t<99))) (by kernel_rfl) (by kernel_rfl) (by kernel_rfl) (fun _ _ _ _ _ h=>h) ?_ ?_
     ·intro i hi ov_ listed av_ w hR K hK;have ho:=hR.at_;have hi:i<52:=hi;have hii:i=0∨i=1∨i=2∨i=3∨i=4∨i=5∨i=6∨i=7∨i=8∨i=9∨i=10∨i=11∨i=12∨i=13∨i=14∨i=15∨i=16∨i=17∨i=18∨i=19∨i=20∨i=21∨i=22∨i=23∨i=24∨i=25∨i=26∨i=27∨i=28∨i=29∨i=30∨i=31∨i=32∨i=33∨i=34∨i=35∨i=36∨i=37∨i=38∨i=39∨i=40∨i=41∨i=42∨i=43∨i=44∨i=45∨i=46∨i=47∨i=48∨i=49∨i=50∨i=51:=by omega
      rcases hii with rfl|rfl|rfl|rfl|rfl|rfl|rfl|rfl|rfl|rfl|rfl|rfl|rfl|rfl|rfl|rfl|rfl|rfl|rfl|rfl|rfl|rfl|rfl|rfl|rfl|rfl|rfl|rfl|rfl|rfl|rfl|rfl|rfl|rfl|rfl|rfl|rfl|rfl|rfl|rfl|rfl|rfl|rfl|rfl|rfl|rfl|rfl|rfl|rfl|rfl|rfl|rfl<;>(simp at ho;subst ho)
      ·have b14:av_.tmps.getD 14 undef=.int .i64 (k:Int):=hR.b 14;refine pSq ?_;go_simp;exact hK _ _ rfl rB
      ·have e0:av_.tmps.getD 47 undef=.int .i64 (k:Int):=hR.d 0;have hq0:=HK0.out;refine pSq ?_;go_simp;exact hK _ _ rfl rB
      ·have e1:av_.tmps.getD 48 undef=.bool false:=hR.d 1;refine pSq ?_;go_simp;exact hK _ _ rfl rB
      ·have e2:av_.tmps.getD 49 undef=.bool false:=hR.g 2;refine gSkp rfl rfl rfl (b:=true) e2 (by decide) ?_;exact hK _ _ rfl rB
      ·have e2:av_.tmps.getD 49 undef=.bool false:=hR.g 2;refine gSkp rfl rfl rfl (b:=true) e2 (by decide) ?_;exact hK _ _ rfl rB
      ·have e2:av_.tmps.getD 49 undef=.bool false:=hR.g 2;refine gSkp rfl rfl rfl (b:=true) e2 (by decide) ?_;exact hK _ _ rfl rB
      ·have e2:av_.tmps.getD 49 undef=.bool false:=hR.g 2;refine gSkp rfl rfl rfl (b:=true) e2 (by decide) ?_;exact hK _ _ rfl rB
      ·have e2:av_.tmps.getD 49 undef=.bool false:=hR.g 2;refine gSkp rfl rfl rfl (b:=true) e2 (by decide) ?_;exact hK _ _ rfl rB
      ·have e2:av_.tmps.getD 49 undef=.bool false:=hR.g 2;refine gSkp rfl rfl rfl (b:=true) e2 (by decide) ?_;exact hK _ _ rfl rB
      ·have e2:av_.tmps.getD 49 undef=.bool false:=hR.g 2;refine gSkp rfl rfl rfl (b:=true) e2 (by decide) ?_;exact hK _ _ rfl rB
      ·have e2:av_.tmps.getD 49 undef=.bool false:=hR.g 2;refine gSkp rfl rfl rfl (b:=true) e2 (by decide) ?_;exact hK _ _ rfl rB
      ·have e2:av_.tmps.getD 49 undef=.bool false:=hR.g 2;refine gSkp rfl rfl rfl (b:=true) e2 (by decide) ?_;exact hK _ _ rfl rB
      ·have e2:av_.tmps.getD 49 undef=.bool false:=hR.g 2;refine gSkp rfl rfl rfl (b:=true) e2 (by decide) ?_;exact hK _ _ rfl rB
      ·have e2:av_.tmps.getD 49 undef=.bool false:=hR.g 2;refine gSkp rfl rfl rfl (b:=true) e2 (by decide) ?_;exact hK _ _ rfl rB
      ·have e2:av_.tmps.getD 49 undef=.bool false:=hR.g 2;refine gSkp rfl rfl rfl (b:=true) e2 (by decide) ?_;exact hK _ _ rfl rB
      ·have e2:av_.tmps.getD 49 undef=.bool false:=hR.d 2;have e14:av_.tmps.getD 61 undef=undef:=hR.d 14;refine pSq ?_;go_simp;exact hK _ _ rfl rB
      ·have e15:av_.tmps.getD 62 undef=.bool false:=hR.d 15;refine pSq ?_;go_simp;exact hK _ _ rfl rB
      ·have e16:av_.tmps.getD 63 undef=.bool false:=hR.g 16;have b9:av_.tmps.getD 9 undef=.slice (some ⟨gl,off,none⟩) nn.length cn:=hR.b 9;refine gSq (b:=false) e16 ?_;go_simp;exact hK _ _ rfl rB
      ·have e16:av_.tmps.getD 63 undef=.bool false:=hR.g 16;have b14:av_.tmps.getD 14 undef=.int .i64 (k:Int):=hR.b 14;refine gSq (b:=false) e16 ?_;go_simp;exact hK _ _ rfl rB
      ·have e17:av_.tmps.getD 64 undef=.slice (some ⟨gl,off,none⟩) nn.length cn:=hR.d 17;have e18:av_.tmps.getD 65 undef=.int .i64 (k:Int):=hR.d 18;have e16:av_.tmps.getD 63 undef=.bool false:=hR.g 16;have hk3:(k:Int)<(nn.length:Int):=by have:=HLT.out;omega
       refine gSq (b:=false) e16 ?_;go_simp;exact hK _ _ rfl rB
      ·have e19:av_.tmps.getD 66 undef=.pointer (some ⟨gl,off+k*4,none⟩):=hR.d 19;have e16:av_.tmps.getD 63 undef=.bool false:=hR.g 16;refine gSq (b:=false) e16 ?_;go_simp;exact hK _ _ rfl rB
      ·have e20:av_.tmps.getD 67 undef=.pointer (some ⟨gl,off+k*4+1,none⟩):=hR.d 20;have e16:av_.tmps.getD 63 undef=.bool false:=hR.g 16;obtain ⟨cx0,cx1,cx2,cx3⟩:=HEK.out _ (HBr.out.trans (hR.below.mono HBr.out.size));refine gSq (b:=false) e16 ?_;go_simp;exact hK _ _ rfl rB
      ·have e16:av_.tmps.getD 63 undef=.bool false:=hR.g 16;have b13:av_.tmps.getD 13 undef=.pointer (some ⟨bk13,0,none⟩):=hR.b 13;obtain ⟨cx0,cx1,cx2⟩:=c3 (uH hR.below HX13_15);refine gSq (b:=false) e16 ?_;go_simp;exact hK _ _ rfl rB
      ·have e21:av_.tmps.getD 68 undef=.agg #[.bool xk.neg,.string (encS xk.num),.string (encS xk.den)]:=hR.d 21;have e22:av_.tmps.getD 69 undef=.agg #[.bool la.neg,.string (encS la.num),.string (encS la.den)]:=hR.d 22;have e16:av_.tmps.getD 63 undef=.bool false:=hR.g 16;have hq:=run_eqlR (eqR_false.2 HNE.out);refine gSq (b:=false) e16 ?_;go_simp;exact hK _ _ rfl rB
      ·have e16:av_.tmps.getD 63 undef=.bool false:=hR.d 16;have e23:av_.tmps.getD 70 undef=.bool false:=hR.d 23;refine pSq ?_;go_simp;exact hK _ _ rfl rB
      ·have e24:av_.tmps.getD 71 undef=.bool false:=hR.d 24;refine pSq ?_;go_simp;exact hK _ _ rfl rB
      ·have e25:av_.tmps.getD 72 undef=.bool false:=hR.g 25;have b8:av_.tmps.getD 8 undef=.slice p8 qs.length c8:=hR.b 8;refine gSq (b:=false) e25 ?_;go_simp;exact hK _ _ rfl rB
      ·have e25:av_.tmps.getD 72 undef=.bool false:=hR.g 25;have b9:av_.tmps.getD 9 undef=.slice (some ⟨gl,off,none⟩) nn.length cn:=hR.b 9;refine gSq (b:=false) e25 ?_;go_simp;exact hK _ _ rfl rB
      ·have e25:av_.tmps.getD 72 undef=.bool false:=hR.g 25;have b14:av_.tmps.getD 14 undef=.int .i64 (k:Int):=hR.b 14;refine gSq (b:=false) e25 ?_;go_simp;exact hK _ _ rfl rB
      ·have e27:av_.tmps.getD 74 undef=.slice (some ⟨gl,off,none⟩) nn.length cn:=hR.d 27;have e28:av_.tmps.getD 75 undef=.int .i64 (k:Int):=hR.d 28;have e25:av_.tmps.getD 72 undef=.bool false:=hR.g 25;have hk3:(k:Int)<(nn.length:Int):=by have:=HLT.out;omega
       refine gSq (b:=false) e25 ?_;go_simp;exact hK _ _ rfl rB
      ·have e29:av_.tmps.getD 76 undef=.pointer (some ⟨gl,off+k*4,none⟩):=hR.d 29;have e25:av_.tmps.getD 72 undef=.bool false:=hR.g 25;refine gSq (b:=false) e25 ?_;go_simp;exact hK _ _ rfl rB
      ·have e30:av_.tmps.getD 77 undef=.pointer (some ⟨gl,off+k*4,none⟩):=hR.d 30;have e25:av_.tmps.getD 72 undef=.bool false:=hR.g 25;obtain ⟨cx0,cx1,cx2,cx3⟩:=HEK.out _ (HBr.out.trans (hR.below.mono HBr.out.size));refine gSq (b:=false) e25 ?_;go_simp;exact hK _ _ rfl rB
      ·have e26:av_.tmps.getD 73 undef=.slice p8 qs.length c8:=hR.d 26;have e31:av_.tmps.getD 78 undef=.int .i64 dk:=hR.d 31;have e25:av_.tmps.getD 72 undef=.bool false:=hR.g 25;refine gSq (b:=false) e25 ?_;go_simp;refine (C3.out w (HBr.out.trans (hR.below.mono HBr.out.size))).mono ?_;rintro e w' ⟨rfl,hb⟩;exact hK _ _ (rfl) hb
      ·have e25:av_.tmps.getD 72 undef=.bool false:=hR.g 25;have b9:av_.tmps.getD 9 undef=.slice (some ⟨gl,off,none⟩) nn.length cn:=hR.b 9;refine gSq (b:=false) e25 ?_;go_simp;exact hK _ _ rfl rB
      ·have e25:av_.tmps.getD 72 undef=.bool false:=hR.g 25;have b14:av_.tmps.getD 14 undef=.int .i64 (k:Int):=hR.b 14;refine gSq (b:=false) e25 ?_;go_simp;exact hK _ _ rfl rB
      ·have e33:av_.tmps.getD 80 undef=.slice (some ⟨gl,off,none⟩) nn.length cn:=hR.d 33;have e34:av_.tmps.getD 81 undef=.int .i64 (k:Int):=hR.d 34;have e25:av_.tmps.getD 72 undef=.bool false:=hR.g 25;have hk3:(k:Int)<(nn.length:Int):=by have:=HLT.out;omega
       refine gSq (b:=false) e25 ?_;go_simp;exact hK _ _ rfl rB
      ·have e35:av_.tmps.getD 82 undef=.pointer (some ⟨gl,off+k*4,none⟩):=hR.d 35;have e25:av_.tmps.getD 72 undef=.bool false:=hR.g 25;refine gSq (b:=false) e25 ?_;go_simp;exact hK _ _ rfl rB
      ·have e36:av_.tmps.getD 83 undef=.pointer (some ⟨gl,off+k*4+1,none⟩):=hR.d 36;have e25:av_.tmps.getD 72 undef=.bool false:=hR.g 25;obtain ⟨cx0,cx1,cx2,cx3⟩:=HEK.out _ (HBr.out.trans (hR.below.mono HBr.out.size));refine gSq (b:=false) e25 ?_;go_simp;exact hK _ _ rfl rB
      ·have e32:av_.tmps.getD 79 undef=.agg #[.bool xk.neg,.string (encS xk.num),.string (encS xk.den)]:=hR.d 32;have e37:av_.tmps.getD 84 undef=.agg #[.bool xk.neg,.string (encS xk.num),.string (encS xk.den)]:=hR.d 37;have e25:av_.tmps.getD 72 undef=.bool false:=hR.g 25;have hq:=run_neqR (eqR_iff.2 (rfl:xk=xk));refine gSq (b:=false) e25 ?_;go_simp;exact hK _ _ rfl rB
      ·have e25:av_.tmps.getD 72 undef=.bool false:=hR.d 25;have e38:av_.tmps.getD 85 undef=.bool false:=hR.d 38;refine pSq ?_;go_simp;exact hK _ _ rfl rB
      ·have e39:av_.tmps.getD 86 undef=.bool false:=hR.d 39;refine pSq ?_;go_simp;exact hK _ _ rfl rB
      ·have e40:av_.tmps.getD 87 undef=.bool false:=hR.g 40;have b8:av_.tmps.getD 8 undef=.slice p8 qs.length c8:=hR.b 8;refine gSq (b:=false) e40 ?_;go_simp;exact hK _ _ rfl rB
      ·have e40:av_.tmps.getD 87 undef=.bool false:=hR.g 40;have b9:av_.tmps.getD 9 undef=.slice (some ⟨gl,off,none⟩) nn.length cn:=hR.b 9;refine gSq (b:=false) e40 ?_;go_simp;exact hK _ _ rfl rB
      ·have e40:av_.tmps.getD 87 undef=.bool false:=hR.g 40;have b14:av_.tmps.getD 14 undef=.int .i64 (k:Int):=hR.b 14;refine gSq (b:=false) e40 ?_;go_simp;exact hK _ _ rfl rB
      ·have e42:av_.tmps.getD 89 undef=.slice (some ⟨gl,off,none⟩) nn.length cn:=hR.d 42;have e43:av_.tmps.getD 90 undef=.int .i64 (k:Int):=hR.d 43;have e40:av_.tmps.getD 87 undef=.bool false:=hR.g 40;have hk3:(k:Int)<(nn.length:Int):=by have:=HLT.out;omega
       refine gSq (b:=false) e40 ?_;go_simp;exact hK _ _ rfl rB
      ·have e44:av_.tmps.getD 91 undef=.pointer (some ⟨gl,off+k*4,none⟩):=hR.d 44;have e40:av_.tmps.getD 87 undef=.bool false:=hR.g 40;refine gSq (b:=false) e40 ?_;go_simp;exact hK _ _ rfl rB
      ·have e45:av_.tmps.getD 92 undef=.pointer (some ⟨gl,off+k*4,none⟩):=hR.d 45;have e40:av_.tmps.getD 87 undef=.bool false:=hR.g 40;obtain ⟨cx0,cx1,cx2,cx3⟩:=HEK.out _ (HBr.out.trans (hR.below.mono HBr.out.size));refine gSq (b:=false) e40 ?_;go_simp;exact hK _ _ rfl rB
      ·have e46:av_.tmps.getD 93 undef=.int .i64 dk:=hR.d 46;have e40:av_.tmps.getD 87 undef=.bool false:=hR.g 40;have hq:=HWDk.out;refine gSq (b:=false) e40 ?_;go_simp;exact hK _ _ rfl rB
      ·have e41:av_.tmps.getD 88 undef=.slice p8 qs.length c8:=hR.d 41;have e47:av_.tmps.getD 94 undef=.int .i64 (dk-1):=hR.d 47;have e40:av_.tmps.getD 87 undef=.bool false:=hR.g 40;refine gSq (b:=false) e40 ?_;go_simp;refine (C4.out w (HBr.out.trans (hR.below.mono HBr.out.size))).mono ?_;rintro e w' ⟨rfl,hb⟩;exact hK _ _ (rfl) hb
      ·have e40:av_.tmps.getD 87 undef=.bool false:=hR.g 40;have b13:av_.tmps.getD 13 undef=.pointer (some ⟨bk13,0,none⟩):=hR.b 13;obtain ⟨cx0,cx1,cx2⟩:=c3 (uH hR.below HX13_15);refine gSq (b:=false) e40 ?_;go_simp;exact hK _ _ rfl rB
      ·have e48:av_.tmps.getD 95 undef=.agg #[.bool la.neg,.string (encS la.num),.string (encS la.den)]:=hR.d 48;have e49:av_.tmps.getD 96 undef=.agg #[.bool la.neg,.string (encS la.num),.string (encS la.den)]:=hR.d 49;have e40:av_.tmps.getD 87 undef=.bool false:=hR.g 40;have hq:=run_neqR (eqR_iff.2 (rfl:la=la));refine gSq (b:=false) e40 ?_;go_simp;exact hK _ _ rfl rB
      ·have e40:av_.tmps.getD 87 undef=.bool false:=hR.d 40;have e50:av_.tmps.getD 97 undef=.bool false:=hR.d 50;refine pSq ?_;go_simp;exact hK _ _ rfl rB
     ·intro sv_ w hS hb;have e51:sv_ 98=.bool false:=hS 51 (by decide);simp only [over,ovL,Nat.reduceAdd,Nat.reduceLeDiff,Nat.reduceLT];have HB:=mH HB hb;have HBr:=mH HBr hb;have HX10_6:=uH hb HX10_6;have HX13_15:=uH hb HX13_15;obtain ⟨w12,hw⟩:∃w8,w8=w:=⟨_,rfl⟩;subst hw;rw [e51];clear hS hb e51;have hk3:(k:Int)<(nn.length:Int):=by have:=HLT.out;omega
      obtain ⟨k17e0,k17e1,k17e2,k17e3⟩:=HEK.out _ HBr.out;obtain ⟨W13,hW13,HX13_15,HB,ho,f18a,f18b,f18c,k18a,k18b,k18c⟩:=putR HX13_15 HB HN0 HG13_15 xk;have HX10_6:=ho _ _ (en1 HL13_15) HX10_6;have HBr:=hD (by have h:=((HBr.out.setCell (p:=⟨bk13,0,none⟩) HGb13_15.out (.bool xk.neg)).setCell (p:=⟨bk13,1,none⟩) HGb13_15.out (.string (encS xk.num))).setCell (p:=⟨bk13,2,none⟩) HGb13_15.out (.string (encS xk.den));rw [hW13] at h;exact h);clear ho;have hwi:=HWI.out;go_wp2_with fail;clear hk3 k17e0 k17e1 k17e2 k17e3 f18a f18b f18c k18a k18b k18c hW13 hwi
      go_roundw
      case rel=>exact ⟨k+1,xk,by have:=HLT.out;omega,by first|rfl|go_num,hD HSN.out,HBr,HX10_6,HX13_15,HB⟩
      case measure=>have:=HLT.out;simp [intOf];omega
    ·obtain ⟨j,hj⟩:∃j,k=j+1:=⟨k-1,by omega⟩;have hjl:j<nn.length:=by have:=HLT.out;omega
     obtain ⟨gj,oj,hpj,hatj⟩:=HAT.out j hjl;simp only [Option.some.injEq,Addr.mk.injEq,and_true] at hpj;obtain ⟨rfl,rfl⟩:=hpj;have hlej:(nn[j]'hjl).1<dk:=by
      have h:=HFU.out j (by have:=HLT.out;omega);obtain ⟨hh2,he2⟩:=List.getElem?_eq_some_iff.1 HEQ.out;subst hj;rw [he2] at h;exact h
     obtain ⟨⟨dj,yj⟩,hej⟩:∃e,nn[j]'hjl=e:=⟨_,rfl⟩;rw [hej] at hatj hlej;have HEJ:Hid (AtE w8 gl (off+j*4) dj yj):=hD hatj;have HLE:Hid (decide (dk≤dj)=false):=hD (decide_eq_false (by have:dj<dk:=hlej;omega));have HK0:Hid (decide (0<k)=true):=hD (decide_eq_true (by omega));have HWKj:Hid (IntKind.i64.wrap ((k:Int)-1)=(j:Int)):=hD (by rw [hj];exact HWK.out j (by have:=HNL.out;have:=HLT.out;omega));have HJK:Hid (j<nn.length):=hD hjl;clear hk0 hatj hlej hej hjl hj;go_wp2_with fail;clear hlt';refine wpVl (w:=wr) (by kernel_rfl) (fun ix v _=>v=Eforce_law_11_2 la xk k j p8 c8 qs nn cn gl off dk dj ix) (fun t=>(decide (47≤t)&&decide (t<99))) (by kernel_rfl) (by kernel_rfl) (by kernel_rfl) (fun _ _ _ _ _ h=>h) ?_ ?_
     ·intro i hi ov_ listed av_ w hR K hK;have ho:=hR.at_;have hi:i<52:=hi;have hii:i=0∨i=1∨i=2∨i=3∨i=4∨i=5∨i=6∨i=7∨i=8∨i=9∨i=10∨i=11∨i=12∨i=13∨i=14∨i=15∨i=16∨i=17∨i=18∨i=19∨i=20∨i=21∨i=22∨i=23∨i=24∨i=25∨i=26∨i=27∨i=28∨i=29∨i=30∨i=31∨i=32∨i=33∨i=34∨i=35∨i=36∨i=37∨i=38∨i=39∨i=40∨i=41∨i=42∨i=43∨i=44∨i=45∨i=46∨i=47∨i=48∨i=49∨i=50∨i=51:=by omega
      rcases hii with rfl|rfl|rfl|rfl|rfl|rfl|rfl|rfl|rfl|rfl|rfl|rfl|rfl|rfl|rfl|rfl|rfl|rfl|rfl|rfl|rfl|rfl|rfl|rfl|rfl|rfl|rfl|rfl|rfl|rfl|rfl|rfl|rfl|rfl|rfl|rfl|rfl|rfl|rfl|rfl|rfl|rfl|rfl|rfl|rfl|rfl|rfl|rfl|rfl|rfl|rfl|rfl<;>(simp at ho;subst ho)
      ·have b14:av_.tmps.getD 14 undef=.int .i64 (k:Int):=hR.b 14;refine pSq ?_;go_simp;exact hK _ _ rfl rB
      ·have e0:av_.tmps.getD 47 undef=.int .i64 (k:Int):=hR.d 0;have hq0:=HK0.out;refine pSq ?_;go_simp;exact hK _ _ rfl rB
      ·have e1:av_.tmps.getD 48 undef=.bool true:=hR.d 1;refine pSq ?_;go_simp;exact hK _ _ rfl rB
      ·have e2:av_.tmps.getD 49 undef=.bool true:=hR.g 2;have b9:av_.tmps.getD 9 undef=.slice (some ⟨gl,off,none⟩) nn.length cn:=hR.b 9;refine gSq (b:=true) e2 ?_;go_simp;exact hK _ _ rfl rB
      ·have e2:av_.tmps.getD 49 undef=.bool true:=hR.g 2;have b14:av_.tmps.getD 14 undef=.int .i64 (k:Int):=hR.b 14;refine gSq (b:=true) e2 ?_;go_simp;exact hK _ _ rfl rB
      ·have e3:av_.tmps.getD 50 undef=.slice (some ⟨gl,off,none⟩) nn.length cn:=hR.d 3;have e4:av_.tmps.getD 51 undef=.int .i64 (k:Int):=hR.d 4;have e2:av_.tmps.getD 49 undef=.bool true:=hR.g 2;have hk3:(k:Int)<(nn.length:Int):=by have:=HLT.out;omega
       refine gSq (b:=true) e2 ?_;go_simp;exact hK _ _ rfl rB
      ·have e5:av_.tmps.getD 52 undef=.pointer (some ⟨gl,off+k*4,none⟩):=hR.d 5;have e2:av_.tmps.getD 49 undef=.bool true:=hR.g 2;refine gSq (b:=true) e2 ?_;go_simp;exact hK _ _ rfl rB
      ·have e6:av_.tmps.getD 53 undef=.pointer (some ⟨gl,off+k*4,none⟩):=hR.d 6;have e2:av_.tmps.getD 49 undef=.bool true:=hR.g 2;obtain ⟨cx0,cx1,cx2,cx3⟩:=HEK.out _ (HBr.out.trans (hR.below.mono HBr.out.size));refine gSq (b:=true) e2 ?_;go_simp;exact hK _ _ rfl rB
      ·have e2:av_.tmps.getD 49 undef=.bool true:=hR.g 2;have b9:av_.tmps.getD 9 undef=.slice (some ⟨gl,off,none⟩) nn.length cn:=hR.b 9;refine gSq (b:=true) e2 ?_;go_simp;exact hK _ _ rfl rB
      ·have e2:av_.tmps.getD 49 undef=.bool true:=hR.g 2;have b14:av_.tmps.getD 14 undef=.int .i64 (k:Int):=hR.b 14;refine gSq (b:=true) e2 ?_;go_simp;exact hK _ _ rfl rB
      ·have e9:av_.tmps.getD 56 undef=.int .i64 (k:Int):=hR.d 9;have e2:av_.tmps.getD 49 undef=.bool true:=hR.g 2;have hq:=HWKj.out;refine gSq (b:=true) e2 ?_;go_simp;exact hK _ _ rfl rB
      ·have e8:av_.tmps.getD 55 undef=.slice (some ⟨gl,off,none⟩) nn.length cn:=hR.d 8;have e10:av_.tmps.getD 57 undef=.int .i64 (j:Int):=hR.d 10;have e2:av_.tmps.getD 49 undef=.bool true:=hR.g 2;have hk3:(j:Int)<(nn.length:Int):=by have:=HJK.out;omega
       refine gSq (b:=true) e2 ?_;go_simp;exact hK _ _ rfl rB
      ·have e11:av_.tmps.getD 58 undef=.pointer (some ⟨gl,off+j*4,none⟩):=hR.d 11;have e2:av_.tmps.getD 49 undef=.bool true:=hR.g 2;refine gSq (b:=true) e2 ?_;go_simp;exact hK _ _ rfl rB
      ·have e12:av_.tmps.getD 59 undef=.pointer (some ⟨gl,off+j*4,none⟩):=hR.d 12;have e2:av_.tmps.getD 49 undef=.bool true:=hR.g 2;obtain ⟨cx0,cx1,cx2,cx3⟩:=HEJ.out _ (HBr.out.trans (hR.below.mono HBr.out.size));refine gSq (b:=true) e2 ?_;go_simp;exact hK _ _ rfl rB
      ·have e7:av_.tmps.getD 54 undef=.int .i64 dk:=hR.d 7;have e13:av_.tmps.getD 60 undef=.int .i64 dj:=hR.d 13;have e2:av_.tmps.getD 49 undef=.bool true:=hR.g 2;have hq:=HLE.out;refine gSq (b:=true) e2 ?_;go_simp;exact hK _ _ rfl rB
      ·have e2:av_.tmps.getD 49 undef=.bool true:=hR.d 2;have e14:av_.tmps.getD 61 undef=.bool false:=hR.d 14;refine pSq ?_;go_simp;exact hK _ _ rfl rB
      ·have e15:av_.tmps.getD 62 undef=.bool false:=hR.d 15;refine pSq ?_;go_simp;exact hK _ _ rfl rB
      ·have e16:av_.tmps.getD 63 undef=.bool false:=hR.g 16;have b9:av_.tmps.getD 9 undef=.slice (some ⟨gl,off,none⟩) nn.length cn:=hR.b 9;refine gSq (b:=false) e16 ?_;go_simp;exact hK _ _ rfl rB
      ·have e16:av_.tmps.getD 63 undef=.bool false:=hR.g 16;have b14:av_.tmps.getD 14 undef=.int .i64 (k:Int):=hR.b 14;refine gSq (b:=false) e16 ?_;go_simp;exact hK _ _ rfl rB
      ·have e17:av_.tmps.getD 64 undef=.slice (some ⟨gl,off,none⟩) nn.length cn:=hR.d 17;have e18:av_.tmps.getD 65 undef=.int .i64 (k:Int):=hR.d 18;have e16:av_.tmps.getD 63 undef=.bool false:=hR.g 16;have hk3:(k:Int)<(nn.length:Int):=by have:=HLT.out;omega
       refine gSq (b:=false) e16 ?_;go_simp;exact hK _ _ rfl rB
      ·have e19:av_.tmps.getD 66 undef=.pointer (some ⟨gl,off+k*4,none⟩):=hR.d 19;have e16:av_.tmps.getD 63 undef=.bool false:=hR.g 16;refine gSq (b:=false) e16 ?_;go_simp;exact hK _ _ rfl rB
      ·have e20:av_.tmps.getD 67 undef=.pointer (some ⟨gl,off+k*4+1,none⟩):=hR.d 20;have e16:av_.tmps.getD 63 undef=.bool false:=hR.g 16;obtain ⟨cx0,cx1,cx2,cx3⟩:=HEK.out _ (HBr.out.trans (hR.below.mono HBr.out.size));refine gSq (b:=false) e16 ?_;go_simp;exact hK _ _ rfl rB
      ·have e16:av_.tmps.getD 63 undef=.bool false:=hR.g 16;have b13:av_.tmps.getD 13 undef=.pointer (some ⟨bk13,0,none⟩):=hR.b 13;obtain ⟨cx0,cx1,cx2⟩:=c3 (uH hR.below HX13_15);refine gSq (b:=false) e16 ?_;go_simp;exact hK _ _ rfl rB
      ·have e21:av_.tmps.getD 68 undef=.agg #[.bool xk.neg,.string (encS xk.num),.string (encS xk.den)]:=hR.d 21;have e22:av_.tmps.getD 69 undef=.agg #[.bool la.neg,.string (encS la.num),.string (encS la.den)]:=hR.d 22;have e16:av_.tmps.getD 63 undef=.bool false:=hR.g 16;have hq:=run_eqlR (eqR_false.2 HNE.out);refine gSq (b:=false) e16 ?_;go_simp;exact hK _ _ rfl rB
      ·have e16:av_.tmps.getD 63 undef=.bool false:=hR.d 16;have e23:av_.tmps.getD 70 undef=.bool false:=hR.d 23;refine pSq ?_;go_simp;exact hK _ _ rfl rB
      ·have e24:av_.tmps.getD 71 undef=.bool false:=hR.d 24;refine pSq ?_;go_simp;exact hK _ _ rfl rB
      ·have e25:av_.tmps.getD 72 undef=.bool false:=hR.g 25;have b8:av_.tmps.getD 8 undef=.slice p8 qs.length c8:=hR.b 8;refine gSq (b:=false) e25 ?_;go_simp;exact hK _ _ rfl rB
      ·have e25:av_.tmps.getD 72 undef=.bool false:=hR.g 25;have b9:av_.tmps.getD 9 undef=.slice (some ⟨gl,off,none⟩) nn.length cn:=hR.b 9;refine gSq (b:=false) e25 ?_;go_simp;exact hK _ _ rfl rB
      ·have e25:av_.tmps.getD 72 undef=.bool false:=hR.g 25;have b14:av_.tmps.getD 14 undef=.int .i64 (k:Int):=hR.b 14;refine gSq (b:=false) e25 ?_;go_simp;exact hK _ _ rfl rB
      ·have e27:av_.tmps.getD 74 undef=.slice (some ⟨gl,off,none⟩) nn.length cn:=hR.d 27;have e28:av_.tmps.getD 75 undef=.int .i64 (k:Int):=hR.d 28;have e25:av_.tmps.getD 72 undef=.bool false:=hR.g 25;have hk3:(k:Int)<(nn.length:Int):=by have:=HLT.out;omega
       refine gSq (b:=false) e25 ?_;go_simp;exact hK _ _ rfl rB
      ·have e29:av_.tmps.getD 76 undef=.pointer (some ⟨gl,off+k*4,none⟩):=hR.d 29;have e25:av_.tmps.getD 72 undef=.bool false:=hR.g 25;refine gSq (b:=false) e25 ?_;go_simp;exact hK _ _ rfl rB
      ·have e30:av_.tmps.getD 77 undef=.pointer (some ⟨gl,off+k*4,none⟩):=hR.d 30;have e25:av_.tmps.getD 72 undef=.bool false:=hR.g 25;obtain ⟨cx0,cx1,cx2,cx3⟩:=HEK.out _ (HBr.out.trans (hR.below.mono HBr.out.size));refine gSq (b:=false) e25 ?_;go_simp;exact hK _ _ rfl rB
      ·have e26:av_.tmps.getD 73 undef=.slice p8 qs.length c8:=hR.d 26;have e31:av_.tmps.getD 78 undef=.int .i64 dk:=hR.d 31;have e25:av_.tmps.getD 72 undef=.bool false:=hR.g 25;refine gSq (b:=false) e25 ?_;go_simp;refine (C3.out w (HBr.out.trans (hR.below.mono HBr.out.size))).mono ?_;rintro e w' ⟨rfl,hb⟩;exact hK _ _ (rfl) hb
      ·have e25:av_.tmps.getD 72 undef=.bool false:=hR.g 25;have b9:av_.tmps.getD 9 undef=.slice (some ⟨gl,off,none⟩) nn.length cn:=hR.b 9;refine gSq (b:=false) e25 ?_;go_simp;exact hK _ _ rfl rB
      ·have e25:av_.tmps.getD 72 undef=.bool false:=hR.g 25;have b14:av_.tmps.getD 14 undef=.int .i64 (k:Int):=hR.b 14;refine gSq (b:=false) e25 ?_;go_simp;exact hK _ _ rfl rB
      ·have e33:av_.tmps.getD 80 undef=.slice (some ⟨gl,off,none⟩) nn.length cn:=hR.d 33;have e34:av_.tmps.getD 81 undef=.int .i64 (k:Int):=hR.d 34;have e25:av_.tmps.getD 72 undef=.bool false:=hR.g 25;have hk3:(k:Int)<(nn.length:Int):=by have:=HLT.out;omega
       refine gSq (b:=false) e25 ?_;go_simp;exact hK _ _ rfl rB
      ·have e35:av_.tmps.getD 82 undef=.pointer (some ⟨gl,off+k*4,none⟩):=hR.d 35;have e25:av_.tmps.getD 72 undef=.bool false:=hR.g 25;refine gSq (b:=false) e25 ?_;go_simp;exact hK _ _ rfl rB
      ·have e36:av_.tmps.getD 83 undef=.pointer (some ⟨gl,off+k*4+1,none⟩):=hR.d 36;have e25:av_.tmps.getD 72 undef=.bool false:=hR.g 25;obtain ⟨cx0,cx1,cx2,cx3⟩:=HEK.out _ (HBr.out.trans (hR.below.mono HBr.out.size));refine gSq (b:=false) e25 ?_;go_simp;exact hK _ _ rfl rB
      ·have e32:av_.tmps.getD 79 undef=.agg #[.bool xk.neg,.string (encS xk.num),.string (encS xk.den)]:=hR.d 32;have e37:av_.tmps.getD 84 undef=.agg #[.bool xk.neg,.string (encS xk.num),.string (encS xk.den)]:=hR.d 37;have e25:av_.tmps.getD 72 undef=.bool false:=hR.g 25;have hq:=run_neqR (eqR_iff.2 (rfl:xk=xk));refine gSq (b:=false) e25 ?_;go_simp;exact hK _ _ rfl rB
      ·have e25:av_.tmps.getD 72 undef=.bool false:=hR.d 25;have e38:av_.tmps.getD 85 undef=.bool false:=hR.d 38;refine pSq ?_;go_simp;exact hK _ _ rfl rB
      ·have e39:av_.tmps.getD 86 undef=.bool false:=hR.d 39;refine pSq ?_;go_simp;exact hK _ _ rfl rB
      ·have e40:av_.tmps.getD 87 undef=.bool false:=hR.g 40;have b8:av_.tmps.getD 8 undef=.slice p8 qs.length c8:=hR.b 8;refine gSq (b:=false) e40 ?_;go_simp;exact hK _ _ rfl rB
      ·have e40:av_.tmps.getD 87 undef=.bool false:=hR.g 40;have b9:av_.tmps.getD 9 undef=.slice (some ⟨gl,off,none⟩) nn.length cn:=hR.b 9;refine gSq (b:=false) e40 ?_;go_simp;exact hK _ _ rfl rB
      ·have e40:av_.tmps.getD 87 undef=.bool false:=hR.g 40;have b14:av_.tmps.getD 14 undef=.int .i64 (k:Int):=hR.b 14;refine gSq (b:=false) e40 ?_;go_simp;exact hK _ _ rfl rB
      ·have e42:av_.tmps.getD 89 undef=.slice (some ⟨gl,off,none⟩) nn.length cn:=hR.d 42;have e43:av_.tmps.getD 90 undef=.int .i64 (k:Int):=hR.d 43;have e40:av_.tmps.getD 87 undef=.bool false:=hR.g 40;have hk3:(k:Int)<(nn.length:Int):=by have:=HLT.out;omega
       refine gSq (b:=false) e40 ?_;go_simp;exact hK _ _ rfl rB
      ·have e44:av_.tmps.getD 91 undef=.pointer (some ⟨gl,off+k*4,none⟩):=hR.d 44;have e40:av_.tmps.getD 87 undef=.bool false:=hR.g 40;refine gSq (b:=false) e40 ?_;go_simp;exact hK _ _ rfl rB
      ·have e45:av_.tmps.getD 92 undef=.pointer (some ⟨gl,off+k*4,none⟩):=hR.d 45;have e40:av_.tmps.getD 87 undef=.bool false:=hR.g 40;obtain ⟨cx0,cx1,cx2,cx3⟩:=HEK.out _ (HBr.out.trans (hR.below.mono HBr.out.size));refine gSq (b:=false) e40 ?_;go_simp;exact hK _ _ rfl rB
      ·have e46:av_.tmps.getD 93 undef=.int .i64 dk:=hR.d 46;have e40:av_.tmps.getD 87 undef=.bool false:=hR.g 40;have hq:=HWDk.out;refine gSq (b:=false) e40 ?_;go_simp;exact hK _ _ rfl rB
      ·have e41:av_.tmps.getD 88 undef=.slice p8 qs.length c8:=hR.d 41;have e47:av_.tmps.getD 94 undef=.int .i64 (dk-1):=hR.d 47;have e40:av_.tmps.getD 87 undef=.bool false:=hR.g 40;refine gSq (b:=false) e40 ?_;go_simp;refine (C4.out w (HBr.out.trans (hR.below.mono HBr.out.size))).mono ?_;rintro e w' ⟨rfl,hb⟩;exact hK _ _ (rfl) hb
      ·have e40:av_.tmps.getD 87 undef=.bool false:=hR.g 40;have b13:av_.tmps.getD 13 undef=.pointer (some ⟨bk13,0,none⟩):=hR.b 13;obtain ⟨cx0,cx1,cx2⟩:=c3 (uH hR.below HX13_15);refine gSq (b:=false) e40 ?_;go_simp;exact hK _ _ rfl rB
      ·have e48:av_.tmps.getD 95 undef=.agg #[.bool la.neg,.string (encS la.num),.string (encS la.den)]:=hR.d 48;have e49:av_.tmps.getD 96 undef=.agg #[.bool la.neg,.string (encS la.num),.string (encS la.den)]:=hR.d 49;have e40:av_.tmps.getD 87 undef=.bool false:=hR.g 40;have hq:=run_neqR (eqR_iff.2 (rfl:la=la));refine gSq (b:=false) e40 ?_;go_simp;exact hK _ _ rfl rB
      ·have e40:av_.tmps.getD 87 undef=.bool false:=hR.d 40;have e50:av_.tmps.getD 97 undef=.bool false:=hR.d 50;refine pSq ?_;go_simp;exact hK _ _ rfl rB
     ·intro sv_ w hS hb;have e51:sv_ 98=.bool false:=hS 51 (by decide);simp only [over,ovL,Nat.reduceAdd,Nat.reduceLeDiff,Nat.reduceLT];have HB:=mH HB hb;have HBr:=mH HBr hb;have HX10_6:=uH hb HX10_6;have HX13_15:=uH hb HX13_15;obtain ⟨w14,hw⟩:∃w8,w8=w:=⟨_,rfl⟩;subst hw;rw [e51];clear hS hb e51;have hk3:(k:Int)<(nn.length:Int):=by have:=HLT.out;omega
      obtain ⟨k19e0,k19e1,k19e2,k19e3⟩:=HEK.out _ HBr.out;obtain ⟨W15,hW15,HX13_15,HB,ho,f20a,f20b,f20c,k20a,k20b,k20c⟩:=putR HX13_15 HB HN0 HG13_15 xk;have HX10_6:=ho _ _ (en1 HL13_15) HX10_6;have HBr:=hD (by have h:=((HBr.out.setCell (p:=⟨bk13,0,none⟩) HGb13_15.out (.bool xk.neg)).setCell (p:=⟨bk13,1,none⟩) HGb13_15.out (.string (encS xk.num))).setCell (p:=⟨bk13,2,none⟩) HGb13_15.out (.string (encS xk.den));rw [hW15] at h;exact h);clear ho;have hwi:=HWI.out;go_wp2_with fail;clear hk3 k19e0 k19e1 k19e2 k19e3 f20a f20b f20c k20a k20b k20c hW15 hwi
      go_roundw
      case rel=>exact ⟨k+1,xk,by have:=HLT.out;omega,by first|rfl|go_num,hD HSN.out,HBr,HX10_6,HX13_15,HB⟩
      case measure=>have:=HLT.out;simp [intOf];omega
   ·have hge:¬(k:Int)<(nn.length:Int):=by omega
    have HBr8:=HBr;obtain ⟨on1,ho1⟩:∃x,onT g0 dd=x:=⟨_,rfl⟩;have HO1:=hD ho1;clear ho1;have C3:Hid (∀w,Below w8.heap.size w8 w→Gv 36 #[.slice pn nn.length cn,.int .i64 dd] w (.agg #[.bool on1.neg,.string (encS on1.num),.string (encS on1.den)])):=hD fun w hp0=>by
     have h:=On_any _ (nn.map rawD) dd HZN.out w (HLN.out.up hp0);rw [HDN.out,HON.out dd,HO1.out] at h;exact h
    have C4:Hid (∀w,Below w8.heap.size w8 w→Gv 36 #[.slice p8 qs.length c8,.int .i64 dd] w (.agg #[.bool on1.neg,.string (encS on1.num),.string (encS on1.den)])):=hD fun w hp0=>by
     have h:=On_any _ ms dd HZM.out w (HLX.out.up hp0);rw [HDR.out,HO1.out] at h;exact h
    have C5:Hid (∀w,Below w8.heap.size w8 w→Gv 36 #[.slice p9 (ms.length+1) c9,.int .i64 xd] w (.agg #[.bool xr.neg,.string (encS xr.num),.string (encS xr.den)])):=hD fun w hp0=>by
     have h:=On_any _ (ms++[rawD (xd,xr)]) xd HZW.out w (HLW.out.up hp0);rw [HDW.out,HWX.out] at h;exact h
    go_wp2_with fail;clear hge;refine (Norm_any _ (nn.map rawD) HZN.out _ (HLN.out.up HBr.out)).mono ?_;rintro e w16 ⟨v1,rfl,hn1,hb⟩;rw [HDN.out,HSELF.out] at hn1;have HN1:=hD hn1;clear hn1;have HX10_6:=uH hb HX10_6;have HX13_15:=uH hb HX13_15;have HBr:=mH HBr hb;have HB:=mH HB hb;clear hb;go_wp2_with fail;refine (rSame_eq v1 (.slice pn nn.length cn) nn _ HN1.out (HLN.out.up HBr.out)).mono ?_;rintro e w17 ⟨rfl,hb⟩;clear HN1;have HX10_6:=uH hb HX10_6;have HX13_15:=uH hb HX13_15;have HBr:=mH HBr hb;have HB:=mH HB hb;clear hb;go_wp2_with fail;refine (C3.out _ HBr.out).mono ?_;rintro e w18 ⟨rfl,hb⟩;have HX10_6:=uH hb HX10_6;have HX13_15:=uH hb HX13_15;have HBr:=mH HBr hb;have HB:=mH HB hb;clear hb;go_wp2_with fail;refine (C4.out _ HBr.out).mono ?_;rintro e w19 ⟨rfl,hb⟩;have HX10_6:=uH hb HX10_6;have HX13_15:=uH hb HX13_15;have HBr:=mH HBr hb;have HB:=mH HB hb;clear hb
    have q21:=(run_neqR (eqR_iff.2 (rfl:on1=on1)));go_wp2_with fail;clear q21
    by_cases hge:xd≤dd
    ·have HGE:Hid (decide (xd≤dd)=true):=hD (decide_eq_true hge);clear hge;refine wpVl (w:=w19) (by kernel_rfl) (fun ix v _=>v=Eforce_law_16_3 xr xd dd p9 c9 ms bk10 ix) (fun t=>(decide (6≤t)&&decide (t<7))||(decide (118≤t)&&decide (t<143))) (by kernel_rfl) (by kernel_rfl) (by kernel_rfl) (fun _ _ _ _ _ h=>h) ?_ ?_
     ·intro i hi ov_ listed av_ w hR K hK;have ho:=hR.at_;have hi:i<26:=hi;have hii:i=0∨i=1∨i=2∨i=3∨i=4∨i=5∨i=6∨i=7∨i=8∨i=9∨i=10∨i=11∨i=12∨i=13∨i=14∨i=15∨i=16∨i=17∨i=18∨i=19∨i=20∨i=21∨i=22∨i=23∨i=24∨i=25:=by omega
      rcases hii with rfl|rfl|rfl|rfl|rfl|rfl|rfl|rfl|rfl|rfl|rfl|rfl|rfl|rfl|rfl|rfl|rfl|rfl|rfl|rfl|rfl|rfl|rfl|rfl|rfl|rfl<;>(simp at ho;subst ho)
      ·have b7:av_.tmps.getD 7 undef=.bool true:=hR.b 7;refine pSq ?_;go_simp;exact hK _ _ rfl rB
      ·have e0:av_.tmps.getD 118 undef=.bool true:=hR.d 0;refine pSq ?_;go_simp;exact hK _ _ rfl rB
      ·have e1:av_.tmps.getD 119 undef=.bool true:=hR.g 1;have b11:av_.tmps.getD 11 undef=.slice p9 (ms.length+1) c9:=hR.b 11;refine gSq (b:=true) e1 ?_;go_simp;exact hK _ _ rfl rB
      ·have e1:av_.tmps.getD 119 undef=.bool true:=hR.g 1;have b10:av_.tmps.getD 10 undef=.pointer (some ⟨bk10,0,none⟩):=hR.b 10;refine gSq (b:=true) e1 ?_;go_simp;exact hK _ _ rfl rB
      ·have e3:av_.tmps.getD 121 undef=.pointer (some ⟨bk10,0,none⟩):=hR.d 3;have e1:av_.tmps.getD 119 undef=.bool true:=hR.g 1;have cx0:w.cell? ⟨bk10,0,none⟩=some (.int .i64 xd):=by rw [Lib.cell_of_heap (hpU hR.below HX10_6.out)];rfl
       refine gSq (b:=true) e1 ?_;go_simp;exact hK _ _ rfl rB
      ·have e2:av_.tmps.getD 120 undef=.slice p9 (ms.length+1) c9:=hR.d 2;have e4:av_.tmps.getD 122 undef=.int .i64 xd:=hR.d 4;have e1:av_.tmps.getD 119 undef=.bool true:=hR.g 1;refine gSq (b:=true) e1 ?_;go_simp;refine (C5.out w (HBr.out.trans (hR.below.mono HBr.out.size))).mono ?_;rintro e w' ⟨rfl,hb⟩;exact hK _ _ (rfl) hb
      ·have e1:av_.tmps.getD 119 undef=.bool true:=hR.g 1;have b10:av_.tmps.getD 10 undef=.pointer (some ⟨bk10,0,none⟩):=hR.b 10;refine gSq (b:=true) e1 ?_;go_simp;exact hK _ _ rfl rB
      ·have e6:av_.tmps.getD 124 undef=.pointer (some ⟨bk10,1,none⟩):=hR.d 6;have e1:av_.tmps.getD 119 undef=.bool true:=hR.g 1;have cx0:w.cell? ⟨bk10,1,none⟩=some (.bool xr.neg):=by rw [Lib.cell_of_heap (hpU hR.below HX10_6.out)];rfl
       have cx1:w.cell? ⟨bk10,2,none⟩=some (.string (encS xr.num)):=by rw [Lib.cell_of_heap (hpU hR.below HX10_6.out)];rfl
       have cx2:w.cell? ⟨bk10,3,none⟩=some (.string (encS xr.den)):=by rw [Lib.cell_of_heap (hpU hR.below HX10_6.out)];rfl
       refine gSq (b:=true) e1 ?_;go_simp;exact hK _ _ rfl rB
      ·have e5:av_.tmps.getD 123 undef=.agg #[.bool xr.neg,.string (encS xr.num),.string (encS xr.den)]:=hR.d 5;have e7:av_.tmps.getD 125 undef=.agg #[.bool xr.neg,.string (encS xr.num),.string (encS xr.den)]:=hR.d 7;have e1:av_.tmps.getD 119 undef=.bool true:=hR.g 1;have hq:=run_eqlR (eqR_iff.2 (rfl:xr=xr));refine gSq (b:=true) e1 ?_;go_simp;exact hK _ _ rfl rB
      ·have e1:av_.tmps.getD 119 undef=.bool true:=hR.d 1;have e8:av_.tmps.getD 126 undef=.bool true:=hR.d 8;refine pSq ?_;go_simp;exact hK _ _ rfl rB
      ·have e9:av_.tmps.getD 127 undef=.bool true:=hR.d 9;refine pSq ?_;go_simp;exact hK _ _ rfl rB
      ·have e10:av_.tmps.getD 128 undef=.bool true:=hR.g 10;have b12:av_.tmps.getD 12 undef=.int .i64 dd:=hR.b 12;refine gSq (b:=true) e10 ?_;go_simp;exact hK _ _ rfl rB
      ·have e10:av_.tmps.getD 128 undef=.bool true:=hR.g 10;have b10:av_.tmps.getD 10 undef=.pointer (some ⟨bk10,0,none⟩):=hR.b 10;refine gSq (b:=true) e10 ?_;go_simp;exact hK _ _ rfl rB
      ·have e12:av_.tmps.getD 130 undef=.pointer (some ⟨bk10,0,none⟩):=hR.d 12;have e10:av_.tmps.getD 128 undef=.bool true:=hR.g 10;have cx0:w.cell? ⟨bk10,0,none⟩=some (.int .i64 xd):=by rw [Lib.cell_of_heap (hpU hR.below HX10_6.out)];rfl
       refine gSq (b:=true) e10 ?_;go_simp;exact hK _ _ rfl rB
      ·have e11:av_.tmps.getD 129 undef=.int .i64 dd:=hR.d 11;have e13:av_.tmps.getD 131 undef=.int .i64 xd:=hR.d 13;have e10:av_.tmps.getD 128 undef=.bool true:=hR.g 10;have hq:=HGE.out;refine gSq (b:=true) e10 ?_;go_simp;exact hK _ _ rfl rB
      ·have e14:av_.tmps.getD 132 undef=.bool true:=hR.d 14;have e10:av_.tmps.getD 128 undef=.bool true:=hR.g 10;refine gSq (b:=true) e10 ?_;go_simp;exact hK _ _ rfl rB
      ·have e15:av_.tmps.getD 133 undef=.bool true:=hR.g 15;refine gSkp rfl rfl rfl (b:=false) e15 (by decide) ?_;exact hK _ _ rfl rB
      ·have e15:av_.tmps.getD 133 undef=.bool true:=hR.g 15;refine gSkp rfl rfl rfl (b:=false) e15 (by decide) ?_;exact hK _ _ rfl rB
      ·have e15:av_.tmps.getD 133 undef=.bool true:=hR.g 15;refine gSkp rfl rfl rfl (b:=false) e15 (by decide) ?_;exact hK _ _ rfl rB
      ·have e15:av_.tmps.getD 133 undef=.bool true:=hR.g 15;refine gSkp rfl rfl rfl (b:=false) e15 (by decide) ?_;exact hK _ _ rfl rB
      ·have e15:av_.tmps.getD 133 undef=.bool true:=hR.g 15;refine gSkp rfl rfl rfl (b:=false) e15 (by decide) ?_;exact hK _ _ rfl rB
      ·have e15:av_.tmps.getD 133 undef=.bool true:=hR.g 15;refine gSkp rfl rfl rfl (b:=false) e15 (by decide) ?_;exact hK _ _ rfl rB
      ·have e15:av_.tmps.getD 133 undef=.bool true:=hR.g 15;refine gSkp rfl rfl rfl (b:=false) e15 (by decide) ?_;exact hK _ _ rfl rB
      ·have e15:av_.tmps.getD 133 undef=.bool true:=hR.d 15;have e22:av_.tmps.getD 140 undef=undef:=hR.d 22;have e10:av_.tmps.getD 128 undef=.bool true:=hR.g 10;refine gSq (b:=true) e10 ?_;go_simp;exact hK _ _ rfl rB
      ·have e10:av_.tmps.getD 128 undef=.bool true:=hR.d 10;have e23:av_.tmps.getD 141 undef=.bool true:=hR.d 23;refine pSq ?_;go_simp;exact hK _ _ rfl rB
      ·have e24:av_.tmps.getD 142 undef=.bool true:=hR.d 24;refine pSq ?_;go_simp;exact hK _ _ rfl rB
     ·intro sv_ w hS hb;have e25:sv_ 6=.bool true:=hS 25 (by decide);simp only [over,ovL,Nat.reduceAdd,Nat.reduceLeDiff,Nat.reduceLT];have HB:=mH HB hb;have HBr:=mH HBr hb;have HX10_6:=uH hb HX10_6;have HX13_15:=uH hb HX13_15;obtain ⟨w20,hw⟩:∃w8,w8=w:=⟨_,rfl⟩;subst hw;rw [e25];clear hS hb e25;go_wp2_with fail;go_ret;exact ⟨rfl,by rw [HN0.out];exact HB.out⟩
    ·have HGE:Hid (decide (xd≤dd)=false):=hD (decide_eq_false hge);have hwb:=HWB.out dd (by omega);rw [HO1.out] at hwb;have HWBd:=hD hwb;clear hge hwb;have C6:Hid (∀w,Below w8.heap.size w8 w→Gv 36 #[.slice p9 (ms.length+1) c9,.int .i64 dd] w (.agg #[.bool on1.neg,.string (encS on1.num),.string (encS on1.den)])):=hD fun w hp0=>by
      have h:=On_any _ (ms++[rawD (xd,xr)]) dd HZW.out w (HLW.out.up hp0);rw [HDW.out,HWBd.out] at h;exact h
     refine wpVl (w:=w19) (by kernel_rfl) (fun ix v _=>v=Eforce_law_16_4 xr on1 p8 c8 qs xd dd p9 c9 ms bk10 ix) (fun t=>(decide (6≤t)&&decide (t<7))||(decide (118≤t)&&decide (t<143))) (by kernel_rfl) (by kernel_rfl) (by kernel_rfl) (fun _ _ _ _ _ h=>h) ?_ ?_
     ·intro i hi ov_ listed av_ w hR K hK;have ho:=hR.at_;have hi:i<26:=hi;have hii:i=0∨i=1∨i=2∨i=3∨i=4∨i=5∨i=6∨i=7∨i=8∨i=9∨i=10∨i=11∨i=12∨i=13∨i=14∨i=15∨i=16∨i=17∨i=18∨i=19∨i=20∨i=21∨i=22∨i=23∨i=24∨i=25:=by omega
      rcases hii with rfl|rfl|rfl|rfl|rfl|rfl|rfl|rfl|rfl|rfl|rfl|rfl|rfl|rfl|rfl|rfl|rfl|rfl|rfl|rfl|rfl|rfl|rfl|rfl|rfl|rfl<;>(simp at ho;subst ho)
      ·have b7:av_.tmps.getD 7 undef=.bool true:=hR.b 7;refine pSq ?_;go_simp;exact hK _ _ rfl rB
      ·have e0:av_.tmps.getD 118 undef=.bool true:=hR.d 0;refine pSq ?_;go_simp;exact hK _ _ rfl rB
      ·have e1:av_.tmps.getD 119 undef=.bool true:=hR.g 1;have b11:av_.tmps.getD 11 undef=.slice p9 (ms.length+1) c9:=hR.b 11;refine gSq (b:=true) e1 ?_;go_simp;exact hK _ _ rfl rB
      ·have e1:av_.tmps.getD 119 undef=.bool true:=hR.g 1;have b10:av_.tmps.getD 10 undef=.pointer (some ⟨bk10,0,none⟩):=hR.b 10;refine gSq (b:=true) e1 ?_;go_simp;exact hK _ _ rfl rB
      ·have e3:av_.tmps.getD 121 undef=.pointer (some ⟨bk10,0,none⟩):=hR.d 3;have e1:av_.tmps.getD 119 undef=.bool true:=hR.g 1;have cx0:w.cell? ⟨bk10,0,none⟩=some (.int .i64 xd):=by rw [Lib.cell_of_heap (hpU hR.below HX10_6.out)];rfl
       refine gSq (b:=true) e1 ?_;go_simp;exact hK _ _ rfl rB
      ·have e2:av_.tmps.getD 120 undef=.slice p9 (ms.length+1) c9:=hR.d 2;have e4:av_.tmps.getD 122 undef=.int .i64 xd:=hR.d 4;have e1:av_.tmps.getD 119 undef=.bool true:=hR.g 1;refine gSq (b:=true) e1 ?_;go_simp;refine (C5.out w (HBr.out.trans (hR.below.mono HBr.out.size))).mono ?_;rintro e w' ⟨rfl,hb⟩;exact hK _ _ (rfl) hb
      ·have e1:av_.tmps.getD 119 undef=.bool true:=hR.g 1;have b10:av_.tmps.getD 10 undef=.pointer (some ⟨bk10,0,none⟩):=hR.b 10;refine gSq (b:=true) e1 ?_;go_simp;exact hK _ _ rfl rB
      ·have e6:av_.tmps.getD 124 undef=.pointer (some ⟨bk10,1,none⟩):=hR.d 6;have e1:av_.tmps.getD 119 undef=.bool true:=hR.g 1;have cx0:w.cell? ⟨bk10,1,none⟩=some (.bool xr.neg):=by rw [Lib.cell_of_heap (hpU hR.below HX10_6.out)];rfl
       have cx1:w.cell? ⟨bk10,2,none⟩=some (.string (encS xr.num)):=by rw [Lib.cell_of_heap (hpU hR.below HX10_6.out)];rfl
       have cx2:w.cell? ⟨bk10,3,none⟩=some (.string (encS xr.den)):=by rw [Lib.cell_of_heap (hpU hR.below HX10_6.out)];rfl
       refine gSq (b:=true) e1 ?_;go_simp;exact hK _ _ rfl rB
      ·have e5:av_.tmps.getD 123 undef=.agg #[.bool xr.neg,.string (encS xr.num),.string (encS xr.den)]:=hR.d 5;have e7:av_.tmps.getD 125 undef=.agg #[.bool xr.neg,.string (encS xr.num),.string (encS xr.den)]:=hR.d 7;have e1:av_.tmps.getD 119 undef=.bool true:=hR.g 1;have hq:=run_eqlR (eqR_iff.2 (rfl:xr=xr));refine gSq (b:=true) e1 ?_;go_simp;exact hK _ _ rfl rB
      ·have e1:av_.tmps.getD 119 undef=.bool true:=hR.d 1;have e8:av_.tmps.getD 126 undef=.bool true:=hR.d 8;refine pSq ?_;go_simp;exact hK _ _ rfl rB
      ·have e9:av_.tmps.getD 127 undef=.bool true:=hR.d 9;refine pSq ?_;go_simp;exact hK _ _ rfl rB
      ·have e10:av_.tmps.getD 128 undef=.bool true:=hR.g 10;have b12:av_.tmps.getD 12 undef=.int .i64 dd:=hR.b 12;refine gSq (b:=true) e10 ?_;go_simp;exact hK _ _ rfl rB
      ·have e10:av_.tmps.getD 128 undef=.bool true:=hR.g 10;have b10:av_.tmps.getD 10 undef=.pointer (some ⟨bk10,0,none⟩):=hR.b 10;refine gSq (b:=true) e10 ?_;go_simp;exact hK _ _ rfl rB
      ·have e12:av_.tmps.getD 130 undef=.pointer (some ⟨bk10,0,none⟩):=hR.d 12;have e10:av_.tmps.getD 128 undef=.bool true:=hR.g 10;have cx0:w.cell? ⟨bk10,0,none⟩=some (.int .i64 xd):=by rw [Lib.cell_of_heap (hpU hR.below HX10_6.out)];rfl
       refine gSq (b:=true) e10 ?_;go_simp;exact hK _ _ rfl rB
      ·have e11:av_.tmps.getD 129 undef=.int .i64 dd:=hR.d 11;have e13:av_.tmps.getD 131 undef=.int .i64 xd:=hR.d 13;have e10:av_.tmps.getD 128 undef=.bool true:=hR.g 10;have hq:=HGE.out;refine gSq (b:=true) e10 ?_;go_simp;exact hK _ _ rfl rB
      ·have e14:av_.tmps.getD 132 undef=.bool false:=hR.d 14;have e10:av_.tmps.getD 128 undef=.bool true:=hR.g 10;refine gSq (b:=true) e10 ?_;go_simp;exact hK _ _ rfl rB
      ·have e15:av_.tmps.getD 133 undef=.bool false:=hR.g 15;have b11:av_.tmps.getD 11 undef=.slice p9 (ms.length+1) c9:=hR.b 11;refine gSq (b:=false) e15 ?_;go_simp;exact hK _ _ rfl rB
      ·have e15:av_.tmps.getD 133 undef=.bool false:=hR.g 15;have b12:av_.tmps.getD 12 undef=.int .i64 dd:=hR.b 12;refine gSq (b:=false) e15 ?_;go_simp;exact hK _ _ rfl rB
      ·have e16:av_.tmps.getD 134 undef=.slice p9 (ms.length+1) c9:=hR.d 16;have e17:av_.tmps.getD 135 undef=.int .i64 dd:=hR.d 17;have e15:av_.tmps.getD 133 undef=.bool false:=hR.g 15;refine gSq (b:=false) e15 ?_;go_simp;refine (C6.out w (HBr.out.trans (hR.below.mono HBr.out.size))).mono ?_;rintro e w' ⟨rfl,hb⟩;exact hK _ _ (rfl) hb
      ·have e15:av_.tmps.getD 133 undef=.bool false:=hR.g 15;have b8:av_.tmps.getD 8 undef=.slice p8 qs.length c8:=hR.b 8;refine gSq (b:=false) e15 ?_;go_simp;exact hK _ _ rfl rB
      ·have e15:av_.tmps.getD 133 undef=.bool false:=hR.g 15;have b12:av_.tmps.getD 12 undef=.int .i64 dd:=hR.b 12;refine gSq (b:=false) e15 ?_;go_simp;exact hK _ _ rfl rB
      ·have e19:av_.tmps.getD 137 undef=.slice p8 qs.length c8:=hR.d 19;have e20:av_.tmps.getD 138 undef=.int .i64 dd:=hR.d 20;have e15:av_.tmps.getD 133 undef=.bool false:=hR.g 15;refine gSq (b:=false) e15 ?_;go_simp;refine (C4.out w (HBr.out.trans (hR.below.mono HBr.out.size))).mono ?_;rintro e w' ⟨rfl,hb⟩;exact hK _ _ (rfl) hb
      ·have e18:av_.tmps.getD 136 undef=.agg #[.bool on1.neg,.string (encS on1.num),.string (encS on1.den)]:=hR.d 18;have e21:av_.tmps.getD 139 undef=.agg #[.bool on1.neg,.string (encS on1.num),.string (encS on1.den)]:=hR.d 21;have e15:av_.tmps.getD 133 undef=.bool false:=hR.g 15;have hq:=run_eqlR (eqR_iff.2 (rfl:on1=on1));refine gSq (b:=false) e15 ?_;go_simp;exact hK _ _ rfl rB
      ·have e15:av_.tmps.getD 133 undef=.bool false:=hR.d 15;have e22:av_.tmps.getD 140 undef=.bool true:=hR.d 22;have e10:av_.tmps.getD 128 undef=.bool true:=hR.g 10;refine gSq (b:=true) e10 ?_;go_simp;exact hK _ _ rfl rB
      ·have e10:av_.tmps.getD 128 undef=.bool true:=hR.d 10;have e23:av_.tmps.getD 141 undef=.bool true:=hR.d 23;refine pSq ?_;go_simp;exact hK _ _ rfl rB
      ·have e24:av_.tmps.getD 142 undef=.bool true:=hR.d 24;refine pSq ?_;go_simp;exact hK _ _ rfl rB
     ·intro sv_ w hS hb;have e25:sv_ 6=.bool true:=hS 25 (by decide);simp only [over,ovL,Nat.reduceAdd,Nat.reduceLeDiff,Nat.reduceLT];have HB:=mH HB hb;have HBr:=mH HBr hb;have HX10_6:=uH hb HX10_6;have HX13_15:=uH hb HX13_15;obtain ⟨w21,hw⟩:∃w8,w8=w:=⟨_,rfl⟩;subst hw;rw [e25];clear hS hb e25;go_wp2_with fail;go_ret;exact ⟨rfl,by rw [HN0.out];exact HB.out⟩
end Go.Proofs.YtblgfmjlajhipaaGreatDoor
