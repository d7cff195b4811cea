/- RateNorms: contracts and the law's walk. Each theorem names its conditions. -/
import Derived.RangeFuncKeeps
import Derived.OwnWalkIn
import Derived.TacticsInMore
import Derived.LoopNIn
import Derived.LoopIn
import Derived.WalkKit
import Derived.Deep.LoopGhost
import Derived.Deep.QuietTactic
import Derived.BigQuiet
import Derived.Test.YtblgfmjlajhipaaGreatDoorProg
import Derived.WalkSpells
import Derived.WalkLawsBesides
import Derived.IntWalk
import Derived.Lib.Hide
import Derived.Laws.BitsAllLaws
import Derived.StillTailTactics
import Derived.Deep.OwnRows
import Derived.Lib.ConvBytes
import Derived.Below
import Derived.RangeFuncNested
import Derived.RangeFuncCalls
import Derived.RangeFuncLeaves
import Derived.Shelf.Abstract
import Derived.Lib.LaidIn
import Derived.RegionTactic
import Derived.KernelRfl
import Derived.OrdersIn
import Derived.Shelf.Strings.Trim
import Derived.Shelf.Small.Utf8
import Derived.Shelf.Small.Bits
import Derived.Shelf.Small.Strs
import Derived.Shelf.Strconv.Itoa0
import Derived.Shelf.Strings.Search1
import Derived.Shelf.Strings.Runes
import Derived.Shelf.Strings.AsciiSet
import Derived.Shelf.Unicode.DecodeSlow
import Derived.Shelf.Unicode.DecodeAny
import Derived.Ground.SlgmProg
import Derived.Shelf.SortM.Plain
import Derived.Shelf.SortM.SortNone
import Derived.Laws.AppendOwnNone
import Derived.OwnWalk
import Derived.Laws.AppendOwn
import Derived.Ground.GgzProg
import Derived.Maps.Own
import Derived.Maps.OwnOps
import Derived.Maps.OwnSet
import Derived.Maps.Views
import Derived.Shelf.SlIterI.Nil
import Derived.Test.YtblgfmjlajhipaaGreatDoorZd3
import Derived.Test.YtblgfmjlajhipaaGreatDoorZd2
import Derived.Test.YtblgfmjlajhipaaGreatDoorZd1
import Derived.Test.YtblgfmjlajhipaaGreatDoorZd0
import Derived.Test.YtblgfmjlajhipaaGreatDoorZc8
import Derived.Test.YtblgfmjlajhipaaGreatDoorZc7
import Derived.Test.YtblgfmjlajhipaaGreatDoorZc6
import Derived.Test.YtblgfmjlajhipaaGreatDoorKna1
import Derived.Test.YtblgfmjlajhipaaGreatDoorZb9
import Derived.Test.YtblgfmjlajhipaaGreatDoorZb8
import Derived.Test.YtblgfmjlajhipaaGreatDoorZb6
import Derived.Test.YtblgfmjlajhipaaGreatDoorKna0
import Derived.Test.YtblgfmjlajhipaaGreatDoorZb5
import Derived.Test.YtblgfmjlajhipaaGreatDoorZa7
import Derived.Test.YtblgfmjlajhipaaGreatDoorZa6
import Derived.Test.YtblgfmjlajhipaaGreatDoorZa5
import Derived.Test.YtblgfmjlajhipaaGreatDoorZa4
import Derived.Test.YtblgfmjlajhipaaGreatDoorZa3
import Derived.Test.YtblgfmjlajhipaaGreatDoorZa0
import Derived.Test.YtblgfmjlajhipaaGreatDoorZa1
import Derived.Test.YtblgfmjlajhipaaGreatDoorZa2
import Derived.Test.YtblgfmjlajhipaaGreatDoorZc9
import Derived.Test.YtblgfmjlajhipaaGreatDoorZb4
import Derived.Test.YtblgfmjlajhipaaGreatDoorZb0
import Derived.Test.YtblgfmjlajhipaaGreatDoorZa9
import Derived.Test.YtblgfmjlajhipaaGreatDoorZa8
import Derived.Test.YtblgfmjlajhipaaGreatDoorZb3
import Derived.Test.YtblgfmjlajhipaaGreatDoorZb2
import Derived.Test.YtblgfmjlajhipaaGreatDoorZb1
import Derived.Test.YtblgfmjlajhipaaGreatDoorZb7
import Derived.Test.YtblgfmjlajhipaaGreatDoorKna3
set_option maxHeartbeats 16000000
set_option linter.unusedVariables false
namespace Go.Proofs.YtblgfmjlajhipaaGreatDoor
open Go.RowKit Go.Shelf
open Dgt
theorem own_under {w w' :World} {B B0 size n:Nat} {e:TypeId} {v:Value} {xs:List Value} (h:w.ownsRow B0 e size v n xs) (hlt:∀g,v.ownBlock=some g→g<B) (hkp:∀b o,Hid (b<B)→Hid (w.heap[b]? =some o)→Hid (w'.heap[b]? =some o)):w'.ownsRow B0 e size v n xs:=by
 refine ⟨h.1,?_⟩;rcases h.2 with h|⟨g,cap,cur,rfl,h2,h3,h4⟩
 ·exact .inl h
 ·exact .inr ⟨g,cap,cur,rfl,h2,(hkp g _ (hD (hlt g rfl)) (hD h3)).out,h4⟩
theorem cells4_app (l m:List Dk):cells4 (l++m)=cells4 l++cells4 m:=by unfold cells4;simp
theorem days_fit (q:List (Int × Int)):SzD ((daysD q).map rawD) 1100000:=fun d hd=>by
 obtain ⟨e,he,rfl⟩:=List.mem_map.1 hd;obtain ⟨p,-,rfl⟩:=List.mem_map.1 he;have hb0:=Int.emod_nonneg p.2 (show (6:Int)≠0 by decide);have hb1:=Int.emod_lt_of_pos p.2 (show (0:Int)<6 by decide);exact rawR_sz ((quoR_sz (ofR_sz (n:=p.2%6-1) (by omega) (by omega)) (ofR_sz (n:=1000) (by decide) (by decide))).mono (by decide))
def Enorms_any_13_1 (gl:Nat) (off:Nat) (k:Nat) (cx:Nat) (lx:List Dk) (d:Dk) (o2:Rt):Nat→Value
 | 0=>.slice (some ⟨gl,off,none⟩) lx.length cx
 | 1=>.slice (some ⟨gl,off,none⟩) lx.length cx
 | 2=>.int .i64 (k:Int)
 | 3=>.pointer (some ⟨gl,off+k*4,none⟩)
 | 4=>.pointer (some ⟨gl,off+k*4,none⟩)
 | 5=>.int .i64 d.day
 | 6=>.agg #[.bool o2.neg,.string (encS o2.num),.string (encS o2.den)]
 | 7=>.slice (some ⟨gl,off,none⟩) lx.length cx
 | 8=>.slice (some ⟨gl,off,none⟩) lx.length cx
 | 9=>.int .i64 (k:Int)
 | 10=>.pointer (some ⟨gl,off+k*4,none⟩)
 | 11=>.pointer (some ⟨gl,off+k*4,none⟩)
 | 12=>.int .i64 d.day
 | 13=>.agg #[.bool o2.neg,.string (encS o2.num),.string (encS o2.den)]
 | 14=>.bool false
 | _=>undef
set_option maxRecDepth 100000 in
theorem norms_any (p:Option Addr) (n cap:Nat) (l:List Dk) (pq:Option Addr) (nq capq:Nat) (qs:List (Int × Int)) (day:Int) (hz:SzD l 1100000) (hi:∀p ∈ qs,I64 p.1∧I64 p.2) (wq:World) (hl:CutC 4 20 wq (.slice p n cap) n (l.map Dk.cells)) (hq:CutC 2 30 wq (.slice pq nq capq) nq (qs.map fun p=>[.int .i64 p.1,.int .i64 p.2])) :
  Gv 8 #[.slice p n cap,.slice pq nq capq,.int .i64 day] wq (.bool true):=by
 unfold Gv;have HL:Hid (LstD wq (.slice p l.length cap) l):=hD (by have h:=hl.cut (by decide);rw [List.length_map] at h;exact h);have HP:Hid (LstP wq (.slice pq qs.length capq) qs):=hD (by have h:=hq.cut (by decide);rw [List.length_map] at h;exact h);obtain ⟨h1,h2,h3⟩:n≤cap∧n≤9223372036854775807∧l.length=min n 20:=by
  obtain ⟨p',cap',h1,h2,h3,h4,-⟩:=hl;simp only [Value.slice.injEq] at h1;obtain ⟨-,-,rfl⟩:=h1;rw [List.length_map] at h4;exact ⟨h2,h3,h4⟩
 obtain ⟨h4,h5,h6⟩:nq≤capq∧nq≤9223372036854775807∧qs.length=min nq 30:=by
  obtain ⟨p',cap',h1,h2,h3,h4,-⟩:=hq;simp only [Value.slice.injEq] at h1;obtain ⟨-,-,rfl⟩:=h1;rw [List.length_map] at h4;exact ⟨h2,h3,h4⟩
 have HM:Hid (min (n:Int) 20=(l.length:Int)∧(l.length:Int)≤(cap:Int)):=hD (by omega);have HM2:Hid (min (nq:Int) 30=(qs.length:Int)∧(qs.length:Int)≤(capq:Int)):=hD (by omega);have HLL:Hid (l.length≤20∧qs.length≤30):=hD (by omega);have HZ:=hD hz;have HI:=hD hi;have HZM:=hD (days_fit qs);obtain ⟨ms,hms⟩:∃m,(daysD qs).map rawD=m:=⟨_,rfl⟩;have HML:Hid (ms.length=qs.length):=hD (by rw [←hms,List.length_map];unfold daysD;rw [List.length_map]);have HDO:=hD (fun w h=>Days_own (.slice pq qs.length capq) qs hi w h);rw [hms] at HZM HDO;clear hl hq h1 h2 h3 h4 h5 h6 hz hi hms;have C1:Hid (∀w,Gv 12 #[] w (.bool true)):=hD fun w=>sanity_any w
 have HB:=hD (Below.refl wq.heap.size wq);obtain ⟨n0,hn0⟩:∃n,n=wq.heap.size:=⟨_,rfl⟩;rw [←hn0];have HN0:=hD hn0;clear hn0;go_enter Tryz.func8,Tryz.ntmps8;go_wp2_with fail;refine (C1.out _).mono ?_;rintro e w1 ⟨rfl,hb⟩;have HB:=mH HB hb;clear hb;obtain ⟨hm1,hm2⟩:=HM.out;obtain ⟨hm3,hm4⟩:=HM2.out;go_wp2_with fail;clear hm1 hm2 hm3 hm4;have HNW:Hid (n0≤w1.heap.size):=hD (by rw [HN0.out];exact HB.out.size);refine (HDO.out _ (HP.out.up HB.out)).mono ?_;rintro e w2 ⟨v8,rfl,hln,hb⟩;have HB:=mH HB hb;have HO8:=hD (own_low hln HNW.out);clear hln hb;obtain ⟨p8,c8,rfl⟩:=own_slice HO8.out;have HL8:=hD (fun g hg=>(HO8.out.lt g hg).2:∀g,(Value.slice p8 qs.length c8).ownBlock=some g→g<w2.heap.size);have hN:=heap_alloc_new w2 (.cells #[] 64);have hB:=HB.out.alloc HB.out.size (.cells #[] 64);have HG25_1:Hid (n0≤w2.heap.size):=hD (by rw [HN0.out];exact HB.out.size);have hr8:=own_new HO8.out
 have HO8:=hD (HO8.out.alloc (.cells #[] 64));obtain ⟨W3,hW3⟩:∃W,w2.alloc (.cells #[] 64)=W:=⟨_,rfl⟩;obtain ⟨bk25,hbk25⟩:∃b,w2.heap.size=b:=⟨_,rfl⟩;rw [hW3] at hN hB  HO8;rw [hbk25] at hr8;have HR8_bk25:=hD hr8;clear hr8;rw [hbk25] at hN HG25_1;have HX25_1:=hD hN;have HB:=hD hB;clear hN hB;rw [hbk25] at HL8;have HO9:Hid (W3.ownsRow bk25 64 4 (.slice (some ⟨bk25,0,none⟩) 0 0) 0 []):=hD (own_lit HX25_1.out rfl (by decide) (Nat.le_refl _));have hsz:=(Array.getElem?_eq_some_iff.1 HX25_1.out).1;obtain ⟨v9,wa,hrun1,ho,hkp,hbl,hgw⟩:=app_lst HO9.out (HL.out.up HB.out) (Nat.le_of_lt hsz) (by have:=HLL.out;omega);rw [Nat.zero_add,List.nil_append] at ho;obtain ⟨pa,ca,rfl⟩:=own_slice ho;have HO8:=hD (own_under HO8.out HL8.out hkp);have HB:=hbl _ _ (by rw [←HN0.out];exact HG25_1.out) HB;clear hkp hbl
 obtain ⟨v10,wb,hrun2,ho2,hkp,hbl,hgw2⟩:=app_lst ho (own_lstD (by rw [HML.out];exact HO8.out) (by rw [HML.out];have:=HLL.out;omega):LstD wa (.slice p8 qs.length c8) ms) (Nat.le_trans (Nat.le_of_lt hsz) hgw) (by rw [HML.out];have:=HLL.out;omega);have HO8:=hD (own_under HO8.out HL8.out hkp);have HB:=hbl _ _ (by rw [←HN0.out];exact HG25_1.out) HB;have HO9:Hid (wb.ownsRow n0 64 4 v10 (l++ms).length (cells4 (l++ms))):=hD (own_low (by rw [List.length_append,cells4_app];simpa using ho2) HG25_1.out);obtain ⟨bs,hbs⟩:∃b,l++ms=b:=⟨_,rfl⟩;rw [hbs] at HO9;have HBS:=hD hbs;have HBL:Hid (bs.length=l.length+ms.length):=hD (by rw [←hbs,List.length_append]);clear hbs;have hrun2:=hrun2;clear hkp hbl ho2 HX25_1 HL8 hsz hgw hgw2;obtain ⟨p9,c9,rfl⟩:=own_slice HO9.out;clear ho;have hN:=heap_alloc_new wb (.cells #[.slice p l.length cap,.slice p8 qs.length c8,.slice p9 bs.length c9] 56)
 have hB:=HB.out.alloc HB.out.size (.cells #[.slice p l.length cap,.slice p8 qs.length c8,.slice p9 bs.length c9] 56);have HG33_2:Hid (n0≤wb.heap.size):=hD (by rw [HN0.out];exact HB.out.size);have hr8:=own_new HO8.out;have HO8:=hD (HO8.out.alloc (.cells #[.slice p l.length cap,.slice p8 qs.length c8,.slice p9 bs.length c9] 56));have hr9:=own_new HO9.out;have HO9:=hD (HO9.out.alloc (.cells #[.slice p l.length cap,.slice p8 qs.length c8,.slice p9 bs.length c9] 56));obtain ⟨W4,hW4⟩:∃W,wb.alloc (.cells #[.slice p l.length cap,.slice p8 qs.length c8,.slice p9 bs.length c9] 56)=W:=⟨_,rfl⟩;obtain ⟨bk33,hbk33⟩:∃b,wb.heap.size=b:=⟨_,rfl⟩;rw [hW4] at hN hB  HO8 HO9;rw [hbk33] at hr8;have HR8_bk33:=hD hr8;clear hr8;rw [hbk33] at hr9;have HR9_bk33:=hD hr9;clear hr9;rw [hbk33] at hN HG33_2;have HX33_2:=hD hN;have HB:=hD hB;clear hN hB
 go_wp2_with (first|(at_builtin;refine wpList_append_run rfl (.tmp 25) (.tmp 26) 56 rfl _ _ _ _ rfl rfl hrun1 ?_)|(at_builtin;refine wpList_append_run rfl (.tmp 27) (.tmp 28) 56 rfl _ _ _ _ rfl rfl hrun2 ?_)|fail);clear hW3 hbk25 hrun1 hrun2 hW4 hbk33
 go_loopw [35] (fun u35 wr=>∃(k9:Nat),k9≤3∧u35=.int .i64 (k9:Int)∧Hid (wr.ownsRow n0 64 4 (.slice p8 qs.length c8) qs.length (cells4 ms))∧Hid (wr.ownsRow n0 64 4 (.slice p9 bs.length c9) bs.length (cells4 bs))∧Hid (wr.heap[bk33]? =some (.cells #[.slice p l.length cap,.slice p8 qs.length c8,.slice p9 bs.length c9] 56 (0,0)))∧Hid (Below wq.heap.size wq wr)) (fun u35 _=>3-(intOf u35).toNat)
 case atStart=>exact ⟨0,by omega,by first|rfl|go_num,HO8,HO9,HX33_2,HB⟩
 case round =>
  obtain ⟨k9,hk,rfl,HO8,HO9,HX33_2,HB⟩:=hrel
  by_cases hlt:k9<3
  ·have hlt' :(k9:Int)<(3:Int):=by omega
   obtain ⟨wx,hwx⟩:∃wx,wx=wr:=⟨_,rfl⟩;subst hwx;have HXS:Hid (∃px cx lx,wx.cell? ⟨bk33,k9,none⟩=some (.slice px lx.length cx)∧LstD wx (.slice px lx.length cx) lx∧SzD lx 1100000):=hD (by
    have h3:k9=0∨k9=1∨k9=2:=by omega
    rcases h3 with rfl|rfl|rfl
    ·exact ⟨p,cap,l,by rw [Lib.cell_of_heap HX33_2.out];rfl,HL.out.up HB.out,HZ.out⟩
    ·refine ⟨p8,c8,ms,by rw [Lib.cell_of_heap HX33_2.out,HML.out];rfl,?_,HZM.out⟩;rw [HML.out];exact own_lstD (by rw [HML.out];exact HO8.out) (by rw [HML.out];have:=HLL.out;omega)
    ·exact ⟨p9,c9,bs,by rw [Lib.cell_of_heap HX33_2.out];rfl,own_lstD HO9.out (by rw [HBL.out,HML.out];have:=HLL.out;omega),fun d hd=>(List.mem_append.1 (by rw [HBS.out];exact hd)).elim (HZ.out d) (HZM.out d)⟩)
   obtain ⟨px,cx,lx,hcx,hlx,hzx⟩:=HXS.out;have HLX:=hD hlx;have HZX:=hD hzx;clear HXS;have HBr:=hD (Below.refl wx.heap.size wx);have HLT:=hD hlt;have HXL:Hid (lx.length≤1000∧∀i (h:i<lx.length),∃g off,px=some ⟨g,off,none⟩∧AtD wx g (off+i*4) lx[i]):=hD (by
    obtain ⟨p0,c0,e1,-,h2,h3⟩:=hlx.open;simp only [Value.slice.injEq] at e1;obtain ⟨rfl,-,rfl⟩:=e1;exact ⟨h2,h3⟩)
   have HWK:Hid (IntKind.i64.wrap ((k9:Int)+1)=((k9+1:Nat):Int)):=hD (by rw [IntWalk.i64_in _ (by omega)];omega);have d1:=fun d w h=>On_any (.slice px lx.length cx) lx d HZX.out w (HLX.out.up h)
   have d2:=fun d w h=>rOn_any (.slice px lx.length cx) lx d HZX.out w (HLX.out.up h)
   have D1:=hD d1;have D2:=hD d2;obtain ⟨o1,ho1⟩:∃x,onT (drs lx) day=x:=⟨_,rfl⟩;have HO1:=hD ho1;clear hlx hzx hlt hk d1 d2 ho1;have C2:Hid (∀w,Below wx.heap.size wx w→Gv 36 #[.slice px lx.length cx,.int .i64 day] w (.agg #[.bool o1.neg,.string (encS o1.num),.string (encS o1.den)])):=hD fun w hp0=>by
    have h:=D1.out day w hp0;rw [HO1.out] at h;exact h
   have C3:Hid (∀w,Below wx.heap.size wx w→Gv 37 #[.slice px lx.length cx,.int .i64 day] w (.agg #[.bool o1.neg,.string (encS o1.num),.string (encS o1.den)])):=hD fun w hp0=>by
    have h:=D2.out day w hp0;rw [HO1.out] at h;exact h
   go_wp2_with fail;clear hlt' hcx;refine (Norm_any _ lx HZX.out _ (HLX.out.up HBr.out)).mono ?_;rintro e w5 ⟨v1,rfl,hn1,hb⟩;have HN1:=hD hn1;clear hn1;have HX33_2:=uH hb HX33_2;have HO8:=hD (own_up HO8.out hb);have HO9:=hD (own_up HO9.out hb);have HBr:=mH HBr hb;have HB:=mH HB hb;clear hb;go_wp2_with fail;refine (rNorm_any _ lx HZX.out _ (HLX.out.up HBr.out)).mono ?_;rintro e w6 ⟨v2,rfl,hn2,hb⟩;have HN1:=hD (HN1.out.up hb);have HN2:=hD hn2;clear hn2;have HX33_2:=uH hb HX33_2;have HO8:=hD (own_up HO8.out hb);have HO9:=hD (own_up HO9.out hb);have HBr:=mH HBr hb;have HB:=mH HB hb;clear hb;go_wp2_with fail;refine (rSame_eq v1 v2 (normG (drs lx)) _ HN1.out HN2.out).mono ?_;rintro e w7 ⟨rfl,hb⟩;clear HN1 HN2;have HX33_2:=uH hb HX33_2;have HO8:=hD (own_up HO8.out hb);have HO9:=hD (own_up HO9.out hb);have HBr:=mH HBr hb;have HB:=mH HB hb;clear hb;go_wp2_with fail
   refine (C2.out _ HBr.out).mono ?_;rintro e w8 ⟨rfl,hb⟩;have HX33_2:=uH hb HX33_2;have HO8:=hD (own_up HO8.out hb);have HO9:=hD (own_up HO9.out hb);have HBr:=mH HBr hb;have HB:=mH HB hb;clear hb;go_wp2_with fail;refine (C3.out _ HBr.out).mono ?_;rintro e w9 ⟨rfl,hb⟩;have HX33_2:=uH hb HX33_2;have HO8:=hD (own_up HO8.out hb);have HO9:=hD (own_up HO9.out hb);have HBr:=mH HBr hb;have HB:=mH HB hb;clear hb;have q3:=(run_neqR (eqR_iff.2 (rfl:o1=o1)));go_wp2_with fail;clear q3
   go_loopw [12] (fun u12 wr=>∃(k:Nat),k≤lx.length∧u12=.int .i64 (k:Int)∧Hid (wr.ownsRow n0 64 4 (.slice p8 qs.length c8) qs.length (cells4 ms))∧Hid (wr.ownsRow n0 64 4 (.slice p9 bs.length c9) bs.length (cells4 bs))∧Hid (Below wx.heap.size wx wr)∧Hid (wr.heap[bk33]? =some (.cells #[.slice p l.length cap,.slice p8 qs.length c8,.slice p9 bs.length c9] 56 (0,0)))∧Hid (Below wq.heap.size wq wr)) (fun u12 _=>lx.length-(intOf u12).toNat)
   case atStart=>exact ⟨0,by omega,by first|rfl|go_num,HO8,HO9,HBr,HX33_2,HB⟩
   case round =>
    obtain ⟨k,hk,rfl,HO8,HO9,HBr,HX33_2,HB⟩:=hrel
    by_cases hlt:k<lx.length
    ·have hlt' :(k:Int)<(lx.length:Int):=by omega
     obtain ⟨gl,off,hpx,hat⟩:=HXL.out.2 k hlt;obtain ⟨d,hd⟩:∃d,lx[k]'hlt=d:=⟨_,rfl⟩;rw [hd] at hat;have HE:=hD hat;have HLT:=hD hlt;obtain ⟨o2,ho2⟩:∃x,onT (drs lx) d.day=x:=⟨_,rfl⟩;have HO2:=hD ho2;have HWI:Hid (IntKind.i64.wrap ((k:Int)+1)=((k+1:Nat):Int)):=hD (by rw [IntWalk.i64_in _ (by have:=HLT.out;have:=HXL.out;omega)];omega);obtain ⟨Z,hZ⟩:∃n,lx.length=n:=⟨_,rfl⟩;subst hpx;clear hZ hat hd ho2 hlt hk;have C4:Hid (∀w,Below wx.heap.size wx w→Gv 36 #[.slice (some ⟨gl,off,none⟩) lx.length cx,.int .i64 d.day] w (.agg #[.bool o2.neg,.string (encS o2.num),.string (encS o2.den)])):=hD fun w hp0=>by
      have h:=D1.out d.day w hp0;rw [HO2.out] at h;exact h
     have C5:Hid (∀w,Below wx.heap.size wx w→Gv 37 #[.slice (some ⟨gl,off,none⟩) lx.length cx,.int .i64 d.day] w (.agg #[.bool o2.neg,.string (encS o2.num),.string (encS o2.den)])):=hD fun w hp0=>by
      have h:=D2.out d.day w hp0;rw [HO2.out] at h;exact h
     go_wp2_with fail;clear hlt';refine wpVl (w:=wr) (by kernel_rfl) (fun ix v _=>v=Enorms_any_13_1 gl off k cx lx d o2 ix) (fun t=>(decide (60≤t)&&decide (t<75))) (by kernel_rfl) (by kernel_rfl) (by kernel_rfl) (fun _ _ _ _ _ h=>h) ?_ ?_
     ·intro i hi ov_ listed av_ w hR K hK;have ho:=hR.at_;have hi:i<15:=hi;have hii:i=0∨i=1∨i=2∨i=3∨i=4∨i=5∨i=6∨i=7∨i=8∨i=9∨i=10∨i=11∨i=12∨i=13∨i=14:=by omega
      rcases hii with rfl|rfl|rfl|rfl|rfl|rfl|rfl|rfl|rfl|rfl|rfl|rfl|rfl|rfl|rfl<;>(simp at ho;subst ho)
      ·have b11:av_.tmps.getD 11 undef=.slice (some ⟨gl,off,none⟩) lx.length cx:=hR.b 11;refine pSq ?_;go_simp;exact hK _ _ rfl rB
      ·have b11:av_.tmps.getD 11 undef=.slice (some ⟨gl,off,none⟩) lx.length cx:=hR.b 11;refine pSq ?_;go_simp;exact hK _ _ rfl rB
      ·have b12:av_.tmps.getD 12 undef=.int .i64 (k:Int):=hR.b 12;refine pSq ?_;go_simp;exact hK _ _ rfl rB
      ·have e1:av_.tmps.getD 61 undef=.slice (some ⟨gl,off,none⟩) lx.length cx:=hR.d 1;have e2:av_.tmps.getD 62 undef=.int .i64 (k:Int):=hR.d 2;have hk3:(k:Int)<(lx.length:Int):=by have:=HLT.out;omega
       refine pSq ?_;go_simp;exact hK _ _ rfl rB
      ·have e3:av_.tmps.getD 63 undef=.pointer (some ⟨gl,off+k*4,none⟩):=hR.d 3;refine pSq ?_;go_simp;exact hK _ _ rfl rB
      ·have e4:av_.tmps.getD 64 undef=.pointer (some ⟨gl,off+k*4,none⟩):=hR.d 4;obtain ⟨cx0,cx1,cx2,cx3⟩:=HE.out _ (HBr.out.trans (hR.below.mono HBr.out.size));refine pSq ?_;go_simp;exact hK _ _ rfl rB
      ·have e0:av_.tmps.getD 60 undef=.slice (some ⟨gl,off,none⟩) lx.length cx:=hR.d 0;have e5:av_.tmps.getD 65 undef=.int .i64 d.day:=hR.d 5;refine pSq ?_;go_simp;refine (C4.out w (HBr.out.trans (hR.below.mono HBr.out.size))).mono ?_;rintro e w' ⟨rfl,hb⟩;exact hK _ _ (rfl) hb
      ·have b11:av_.tmps.getD 11 undef=.slice (some ⟨gl,off,none⟩) lx.length cx:=hR.b 11;refine pSq ?_;go_simp;exact hK _ _ rfl rB
      ·have b11:av_.tmps.getD 11 undef=.slice (some ⟨gl,off,none⟩) lx.length cx:=hR.b 11;refine pSq ?_;go_simp;exact hK _ _ rfl rB
      ·have b12:av_.tmps.getD 12 undef=.int .i64 (k:Int):=hR.b 12;refine pSq ?_;go_simp;exact hK _ _ rfl rB
      ·have e8:av_.tmps.getD 68 undef=.slice (some ⟨gl,off,none⟩) lx.length cx:=hR.d 8;have e9:av_.tmps.getD 69 undef=.int .i64 (k:Int):=hR.d 9;have hk3:(k:Int)<(lx.length:Int):=by have:=HLT.out;omega
       refine pSq ?_;go_simp;exact hK _ _ rfl rB
      ·have e10:av_.tmps.getD 70 undef=.pointer (some ⟨gl,off+k*4,none⟩):=hR.d 10;refine pSq ?_;go_simp;exact hK _ _ rfl rB
      ·have e11:av_.tmps.getD 71 undef=.pointer (some ⟨gl,off+k*4,none⟩):=hR.d 11;obtain ⟨cx0,cx1,cx2,cx3⟩:=HE.out _ (HBr.out.trans (hR.below.mono HBr.out.size));refine pSq ?_;go_simp;exact hK _ _ rfl rB
      ·have e7:av_.tmps.getD 67 undef=.slice (some ⟨gl,off,none⟩) lx.length cx:=hR.d 7;have e12:av_.tmps.getD 72 undef=.int .i64 d.day:=hR.d 12;refine pSq ?_;go_simp;refine (C5.out w (HBr.out.trans (hR.below.mono HBr.out.size))).mono ?_;rintro e w' ⟨rfl,hb⟩;exact hK _ _ (rfl) hb
      ·have e6:av_.tmps.getD 66 undef=.agg #[.bool o2.neg,.string (encS o2.num),.string (encS o2.den)]:=hR.d 6;have e13:av_.tmps.getD 73 undef=.agg #[.bool o2.neg,.string (encS o2.num),.string (encS o2.den)]:=hR.d 13;have hq:=run_neqR (eqR_iff.2 (rfl:o2=o2));refine pSq ?_;go_simp;exact hK _ _ rfl rB
     ·intro sv_ w hS hb;have e14:sv_ 74=.bool false:=hS 14 (by decide);simp only [over,ovL,Nat.reduceAdd,Nat.reduceLeDiff,Nat.reduceLT];have HB:=mH HB hb;have HBr:=mH HBr hb;have HX33_2:=uH hb HX33_2;have HO8:=hD (own_up HO8.out hb);have HO9:=hD (own_up HO9.out hb);obtain ⟨w10,hw⟩:∃w8,w8=w:=⟨_,rfl⟩;subst hw;rw [e14];clear hS hb e14;have hwi:=HWI.out;go_wp2_with fail;clear hwi
      go_roundw
      case rel=>exact ⟨k+1,by have:=HLT.out;omega,by first|rfl|go_num,HO8,HO9,HBr,HX33_2,HB⟩
      case measure=>have:=HLT.out;simp [intOf];omega
    ·have hge:¬(k:Int)<(lx.length:Int):=by omega
     have hwk:=HWK.out;go_wp2_with fail;clear hge hwk
     go_roundw
     case rel=>exact ⟨k9+1,by have:=HLT.out;omega,by first|rfl|go_num,HO8,HO9,HX33_2,HB⟩
     case measure=>have:=HLT.out;simp [intOf];omega
  ·have hge:¬(k9:Int)<(3:Int):=by omega
   go_wp2_with fail;clear hge;go_ret;exact ⟨rfl,by rw [HN0.out];exact HB.out⟩
end Go.Proofs.YtblgfmjlajhipaaGreatDoor
