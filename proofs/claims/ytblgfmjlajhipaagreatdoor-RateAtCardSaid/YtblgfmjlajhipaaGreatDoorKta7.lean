/- RateAt: contracts and the law's walk. Each theorem names its conditions. -/
import Derived.WalkKit
import Derived.Deep.LoopGhost
import Derived.Deep.QuietTactic
import Derived.BigQuiet
import Derived.Test.YtblgfmjlajhipaaGreatDoorProg
import Derived.WalkSpells
import Derived.WalkLawsBesides
import Derived.IntWalk
import Derived.Lib.Hide
import Derived.Laws.BitsAllLaws
import Derived.StillTailTactics
import Derived.Deep.OwnRows
import Derived.Lib.ConvBytes
import Derived.Below
import Derived.Shelf.Strings.Trim
import Derived.Shelf.Small.Utf8
import Derived.Shelf.Small.Bits
import Derived.Shelf.Small.Strs
import Derived.Shelf.Strconv.Itoa0
import Derived.Shelf.Strings.Search1
import Derived.Shelf.Strings.Runes
import Derived.Shelf.Strings.AsciiSet
import Derived.Shelf.Unicode.DecodeSlow
import Derived.Shelf.Unicode.DecodeAny
import Derived.Ground.SlgmProg
import Derived.Shelf.SortM.Plain
import Derived.Shelf.SortM.SortNone
import Derived.Test.YtblgfmjlajhipaaGreatDoorZc3
import Derived.Test.YtblgfmjlajhipaaGreatDoorKta6
import Derived.Test.YtblgfmjlajhipaaGreatDoorZb5
import Derived.Test.YtblgfmjlajhipaaGreatDoorZa7
import Derived.Test.YtblgfmjlajhipaaGreatDoorZa6
import Derived.Test.YtblgfmjlajhipaaGreatDoorZa5
import Derived.Test.YtblgfmjlajhipaaGreatDoorZa4
import Derived.Test.YtblgfmjlajhipaaGreatDoorZa3
import Derived.Test.YtblgfmjlajhipaaGreatDoorZa0
import Derived.Test.YtblgfmjlajhipaaGreatDoorZa1
import Derived.Test.YtblgfmjlajhipaaGreatDoorKta0
import Derived.Test.YtblgfmjlajhipaaGreatDoorZa2
import Derived.Test.YtblgfmjlajhipaaGreatDoorKta2
set_option maxHeartbeats 16000000
set_option linter.unusedVariables false
namespace Go.Proofs.YtblgfmjlajhipaaGreatDoor
open Go.RowKit Go.Shelf
open Dgt
def leastV (m:List BT) (y:Rt):Rw × Bool:=if sgnR y=0 then (rawR y,true) else if (rtT m (kT m y-1)).num=0 then (zrow,false) else (rawR (invT m y),true)
theorem ref_first {m:List BT} {y:Rt} (hS:Sch m) (hf:fallsT m=false) (hy:y.Ok) (hp:0<y.q) {k:Nat} (hk:k<m.length) (h:refHit m y k=true) (hb:∀j,j<k→refHit m y j=false):(rtT m (kT m y-1)).num≠0∧refX m y k=invT m y:=by
 have hn:(rtT m (kT m y-1)).num≠0:=fun e=>by rw [ref_none hS hf hy hp e hk] at h;cases h
 have h1:=ref_at hS hf hy hp hn;have hK:=kth hS hf hy hp;have e:k=kT m y-1:=by
  rcases Nat.lt_trichotomy k (kT m y-1) with h2|h2|h2
  ·rw [ref_before hS hf hy hp h2] at h;cases h
  ·exact h2
  ·rw [hb _ h2] at h1;cases h1
 exact ⟨hn,by rw [e];exact refX_inv hS hf hy hp⟩
theorem ref_all {m:List BT} {y:Rt} (hS:Sch m) (hf:fallsT m=false) (hy:y.Ok) (hp:0<y.q) (hb:∀j,j<m.length→refHit m y j=false):(rtT m (kT m y-1)).num=0:=by
 rcases Nat.eq_zero_or_pos (rtT m (kT m y-1)).num with h|h
 ·exact h
 ·have:=ref_at hS hf hy hp (by omega);rw [hb _ (kth hS hf hy hp).lt] at this;cases this
theorem sgn_num {a:Rt}:sgnR a=0↔a.num=0:=by
 unfold sgnR;split
 ·rename_i h;simp [h]
 ·rename_i h;split<;>simp [h]
def Eleast_any_8_1 (nm:ByteArray) (um:Int) (ud:Int) (ca:Nat) (m:List BT) (gl:Nat) (off:Nat) (k:Nat) (y:Rt) (fr:Rt) (rt:Rt) (vv:Rt) (df:Rt) (qu:Rt):Nat→Value
 | 0=>.agg #[.bool y.neg,.string (encS y.num),.string (encS y.den)]
 | 1=>.agg #[.string nm,.int .i64 um,.int .i64 ud,.slice (some ⟨gl,off,none⟩) m.length ca]
 | 2=>.slice (some ⟨gl,off,none⟩) m.length ca
 | 3=>.int .i64 (k:Int)
 | 4=>.pointer (some ⟨gl,off+k*6,none⟩)
 | 5=>.pointer (some ⟨gl,off+k*6,none⟩)
 | 6=>.agg #[.bool fr.neg,.string (encS fr.num),.string (encS fr.den)]
 | 7=>.agg #[.bool vv.neg,.string (encS vv.num),.string (encS vv.den)]
 | 8=>.agg #[.bool df.neg,.string (encS df.num),.string (encS df.den)]
 | 9=>.slice (some ⟨gl,off,none⟩) m.length ca
 | 10=>.int .i64 (k:Int)
 | 11=>.pointer (some ⟨gl,off+k*6,none⟩)
 | 12=>.pointer (some ⟨gl,off+k*6+3,none⟩)
 | 13=>.agg #[.bool rt.neg,.string (encS rt.num),.string (encS rt.den)]
 | 14=>.tuple #[.agg #[.bool qu.neg,.string (encS qu.num),.string (encS qu.den)],.bool true]
 | 15=>.tuple #[.agg #[.bool qu.neg,.string (encS qu.num),.string (encS qu.den)],.bool true]
 | 16=>.agg #[.bool qu.neg,.string (encS qu.num),.string (encS qu.den)]
 | 17=>.bool true
 | 18=>undef
 | 19=>undef
 | 20=>.bool true
 | _=>undef
def Eleast_any_9_2 (ca:Nat) (m:List BT) (gl:Nat) (off:Nat) (k:Nat) (fr:Rt) (qu:Rt) (xx:Rt):Nat→Value
 | 0=>.slice (some ⟨gl,off,none⟩) m.length ca
 | 1=>.int .i64 (k:Int)
 | 2=>.pointer (some ⟨gl,off+k*6,none⟩)
 | 3=>.pointer (some ⟨gl,off+k*6,none⟩)
 | 4=>.agg #[.bool fr.neg,.string (encS fr.num),.string (encS fr.den)]
 | 5=>.agg #[.bool qu.neg,.string (encS qu.num),.string (encS qu.den)]
 | 6=>.agg #[.bool xx.neg,.string (encS xx.num),.string (encS xx.den)]
 | 7=>undef
 | 8=>undef
 | _=>undef
def Eleast_any_10_3 (ca:Nat) (m:List BT) (gl:Nat) (off:Nat) (j:Nat) (k:Nat):Nat→Value
 | 0=>.int .i64 (k:Int)
 | 1=>.int .i64 (j:Int)
 | 2=>.slice (some ⟨gl,off,none⟩) m.length ca
 | 3=>.int .i64 (m.length:Int)
 | 4=>.bool true
 | 5=>.bool true
 | 6=>undef
 | 7=>undef
 | 8=>undef
 | 9=>undef
 | 10=>undef
 | 11=>undef
 | 12=>undef
 | 13=>undef
 | 14=>undef
 | 15=>.bool true
 | _=>undef
def Eleast_any_10_4 (ca:Nat) (m:List BT) (gl:Nat) (off:Nat) (j:Nat) (k:Nat) (cz:Int) (xx:Rt) (fr2:Rt):Nat→Value
 | 0=>.int .i64 (k:Int)
 | 1=>.int .i64 (j:Int)
 | 2=>.slice (some ⟨gl,off,none⟩) m.length ca
 | 3=>.int .i64 (m.length:Int)
 | 4=>.bool false
 | 5=>.bool false
 | 6=>.agg #[.bool xx.neg,.string (encS xx.num),.string (encS xx.den)]
 | 7=>.slice (some ⟨gl,off,none⟩) m.length ca
 | 8=>.int .i64 (k:Int)
 | 9=>.int .i64 (j:Int)
 | 10=>.pointer (some ⟨gl,off+j*6,none⟩)
 | 11=>.pointer (some ⟨gl,off+j*6,none⟩)
 | 12=>.agg #[.bool fr2.neg,.string (encS fr2.num),.string (encS fr2.den)]
 | 13=>.int .i64 cz
 | 14=>.bool false
 | 15=>.bool false
 | _=>undef
def Eleast_any_10_5 (ca:Nat) (m:List BT) (gl:Nat) (off:Nat) (j:Nat) (k:Nat) (cz:Int) (xx:Rt) (fr2:Rt):Nat→Value
 | 0=>.int .i64 (k:Int)
 | 1=>.int .i64 (j:Int)
 | 2=>.slice (some ⟨gl,off,none⟩) m.length ca
 | 3=>.int .i64 (m.length:Int)
 | 4=>.bool false
 | 5=>.bool false
 | 6=>.agg #[.bool xx.neg,.string (encS xx.num),.string (encS xx.den)]
 | 7=>.slice (some ⟨gl,off,none⟩) m.length ca
 | 8=>.int .i64 (k:Int)
 | 9=>.int .i64 (j:Int)
 | 10=>.pointer (some ⟨gl,off+j*6,none⟩)
 | 11=>.pointer (some ⟨gl,off+j*6,none⟩)
 | 12=>.agg #[.bool fr2.neg,.string (encS fr2.num),.string (encS fr2.den)]
 | 13=>.int .i64 cz
 | 14=>.bool true
 | 15=>.bool true
 | _=>undef
set_option maxRecDepth 100000 in
theorem least_any (nm:ByteArray) (um ud:Int) (v:Value) (m:List BT) (y:Rt) (hS:Sch m) (hff:fallsT m=false) (hy:y.Ok) (hz:Rz y 50) (hs:¬sgnR y<0) (wq:World) (hl:LstK wq v (m.map rawB)) :
  Gv 87 #[.agg #[.string nm,.int .i64 um,.int .i64 ud,v],.agg #[.bool y.neg,.string (encS y.num),.string (encS y.den)]] wq (.tuple #[.agg #[.bool (leastV m y).1.neg,.string (leastV m y).1.n,.string (leastV m y).1.d],.bool (leastV m y).2]):=by
 unfold Gv;have HLK:=hD hl;obtain ⟨gl,off,ca,rfl,hca2,hla,hca⟩:=hl.openS hS.pos;have HAT:=hD hca;have HLA:=hD hla;have HSC:=hD hS;have HY:=hD (And.intro hy hz);have c1:=fun w=>rRatSign_r (IsR.of hy hz) (by decide) w
 have HV:=hD (show leastV m y=if sgnR y=0 then (rawR y,true) else if (rtT m (kT m y-1)).num=0 then (zrow,false) else (rawR (invT m y),true) from rfl);have HPQ:=hD (fun h0:¬sgnR y=0=>sgn_posq hy hs h0);have HF1:=hD (fun (hp:0<y.q) (k:Nat) (hk:k<m.length) h hb=>ref_first hS hff hy hp hk h hb);have HFA:=hD (fun (hp:0<y.q) hb=>ref_all hS hff hy hp hb);obtain ⟨sg,h1⟩:∃s,sgnR y=s:=⟨_,rfl⟩;rw [h1] at c1 HV HPQ;obtain ⟨V,hV⟩:∃v,leastV m y=v:=⟨_,rfl⟩;rw [hV] at HV ⊢;have C1:Hid (∀w,Gv 26 #[rtV y] w (.int .i64 sg)):=hD c1;clear c1 h1 hV hca hla hl hca2 hS hff hy hz hs;have HB:=hD (Below.refl wq.heap.size wq);obtain ⟨n0,hn0⟩:∃n,n=wq.heap.size:=⟨_,rfl⟩;rw [←hn0];have HN0:=hD hn0;clear hn0;go_enter Tryz.func87,Tryz.ntmps87;obtain ⟨W1,bk2,hW1,hbk2,HX2_1,HB,HG2_1,hup⟩:=boxn HB HN0 (.cells #[.string nm,.int .i64 um,.int .i64 ud,.slice (some ⟨gl,off,none⟩) m.length ca] 26);clear hup
 obtain ⟨W2,bk3,hW2,hbk3,HX3_2,HB,HG3_2,hup⟩:=boxR HB HN0 y;have HL3_2:=(hup _ _ HX2_1).2;have HX2_1:=(hup _ _ HX2_1).1;clear hup;obtain ⟨W3,bk4,hW3,hbk4,HX4_3,HB,HG4_3,hup⟩:=boxZ HB HN0;have HL4_3:=(hup _ _ HX3_2).2;have HX2_1:=(hup _ _ HX2_1).1;have HX3_2:=(hup _ _ HX3_2).1;clear hup;obtain ⟨k4a,k4b,k4c⟩:=c3 HX3_2;go_wp2_with fail;clear hW1 hbk2 hW2 hbk3 hW3 hbk4 k4a k4b k4c;refine (C1.out _).mono ?_;rintro e w4 ⟨rfl,hb⟩;have HX2_1:=uH hb HX2_1;have HX3_2:=uH hb HX3_2;have HX4_3:=uH hb HX4_3;have HB:=mH HB hb;clear hb
 by_cases hs0:sg=0
 ·have hV:V=(rawR y,true):=by rw [HV.out,if_pos hs0]
  subst hV;have hsz:(sg==0)=true:=by rw [hs0];rfl
  clear HV HPQ hs0;obtain ⟨k5a,k5b,k5c⟩:=c3 HX3_2;obtain ⟨W5,hW5,HX4_3,HB,ho,f6a,f6b,f6c,k6a,k6b,k6c⟩:=putR HX4_3 HB HN0 HG4_3 y;have HX2_1:=ho _ _ (en2 HL3_2 HL4_3) HX2_1;have HX3_2:=ho _ _ (en1 HL4_3) HX3_2;clear ho;go_wp2_with fail;clear k5a k5b k5c f6a f6b f6c k6a k6b k6c hW5;refine bodyPost_ret (rC2 HX4_3.out) rfl ?_;exact ⟨rfl,by rw [HN0.out];exact HB.out⟩
 ·have hp:=HPQ.out hs0;have HV:=hD (show V=if (rtT m (kT m y-1)).num=0 then (zrow,false) else (rawR (invT m y),true) by rw [HV.out,if_neg hs0]);have HF1:=hD (HF1.out hp);have HFA:=hD (HFA.out hp);have hsz:(sg==0)=false:=by simpa using hs0
  clear HPQ hp hs0;have k7:w4.cell? ⟨bk2,3,none⟩=some (.slice (some ⟨gl,off,none⟩) m.length ca):=by rw [Lib.cell_of_heap HX2_1.out];rfl
  go_wp2_with fail;clear hsz k7
  go_loopw [7] (fun u7 wr=>∃(k:Nat),k≤m.length∧u7=.int .i64 (k:Int)∧Hid (∀j,j<k→refHit m y j=false)∧Hid (wr.heap[bk2]? =some (.cells #[.string nm,.int .i64 um,.int .i64 ud,.slice (some ⟨gl,off,none⟩) m.length ca] 26 (0,0)))∧Hid (wr.heap[bk3]? =some (.cells #[.bool y.neg,.string (encS y.num),.string (encS y.den)] 29 (0,0)))∧Hid (wr.heap[bk4]? =some (.cells #[.bool false,.string ⟨#[]⟩,.string ⟨#[]⟩] 29 (0,0)))∧Hid (Below wq.heap.size wq wr)) (fun u7 _=>m.length-(intOf u7).toNat)
  case atStart=>exact ⟨0,by omega,by first|rfl|go_num,hD (fun j h=>absurd h (by omega)),HX2_1,HX3_2,HX4_3,HB⟩
  case round =>
   obtain ⟨k,hk,rfl,HA,HX2_1,HX3_2,HX4_3,HB⟩:=hrel
   by_cases hlt:k<m.length
   ·have hlt' :(k:Int)<(m.length:Int):=by omega
    have HE:=hD (HAT.out k hlt);have hs:=HSC.out;have c1:=fun w=>rRatSign_r (IsR.of (hs.rtOk k) (hs.rtSz k)) (by decide) w
    have HH:=hD (show refHit m y k=(decide (sgnR (rtT m k)≠0)&&(decide (k+1=m.length)||decide (cmpR (refX m y k) (frT m (k+1))≤0))) from rfl);have HX:=hD (show refX m y k=addR (frT m k) (quoR (subR y (valT m (frT m k) m.length)) (rtT m k)) from rfl);have HAS:Hid (refHit m y k=false→∀j,j<k+1→refHit m y j=false):=hD fun h j hj=>by
     rcases Nat.lt_or_ge j k with h1|h1
     ·exact HA.out j h1
     ·rw [show j=k by omega];exact h
    have HFK:=hD (fun h=>HF1.out k hlt h HA.out);have c2:=fun w h=>Value_any nm um ud (.slice (some ⟨gl,off,none⟩) m.length ca) m (frT m k) hs (hs.frOk k) (hs.frSz k) w (HLK.out.up h)
    have hvo:=val_ok hs (hs.frOk k) m.length;have hvz:=(val_sz hs (hs.frSz k) m.length).mono (show 8+152*m.length≤2000 by have:=hs.le;omega);have hy:=HY.out.1;have hyz:=HY.out.2.mono (show 50≤2000 by decide);have c3:=fun w=>rRatSub_r (IsR.of hy hyz) (IsR.of hvo hvz) (by decide) (by decide) w
    have hdo:=subR_ok hy hvo;have hdz:=subR_sz hyz hvz;have c4:=fun w=>rRatQuo_r (IsR.of hdo (hdz.mono (show _≤5000 by decide))) (IsR.of (hs.rtOk k) ((hs.rtSz k).mono (show 50≤5000 by decide))) (by decide) (by decide) w
    have HC5:=hD (fun (h0:(rtT m k).num≠0)=>And.intro (fun w=>rRatAdd_r (IsR.of (hs.frOk k) ((hs.frSz k).mono (show 50≤6000 by decide))) (IsR.of (quoR_ok hdo (Nat.pos_of_ne_zero h0)) ((quoR_sz hdz (hs.rtSz k)).mono (show _≤6000 by decide))) (by decide) (by decide) w) (fun j w=>rRatCmp_r (IsR.of (addR_ok (hs.frOk k) (quoR_ok hdo (Nat.pos_of_ne_zero h0))) ((addR_sz (hs.frSz k) (quoR_sz hdz (hs.rtSz k))).mono (show _≤9000 by decide))) (IsR.of (hs.frOk j) ((hs.frSz j).mono (show 50≤9000 by decide))) (by decide) (by decide) w));have HQ0:=hD (show quoV (subR y (valT m (frT m k) m.length)) (rtT m k)=if (rtT m k).num=0 then .tuple #[.agg #[.bool false,.string ⟨#[]⟩,.string ⟨#[]⟩],.bool false] else .tuple #[rtV (quoR (subR y (valT m (frT m k) m.length)) (rtT m k)),.bool true] from rfl);have HNU:=hD (sgn_num (a:=rtT m k))
    obtain ⟨fr,h1⟩:∃a,frT m k=a:=⟨_,rfl⟩;obtain ⟨rt,h2⟩:∃a,rtT m k=a:=⟨_,rfl⟩;rw [h1,h2] at HE HX HC5 HQ0;rw [h2] at c1 c4 HH HNU;rw [h1] at c2 c3 c4;obtain ⟨vv,h3⟩:∃a,valT m fr m.length=a:=⟨_,rfl⟩;rw [h3] at c2 c3 c4 HX HC5 HQ0;obtain ⟨df,h4⟩:∃a,subR y vv=a:=⟨_,rfl⟩;rw [h4] at c3 c4 HX HC5 HQ0;obtain ⟨sr,h5⟩:∃a,sgnR rt=a:=⟨_,rfl⟩;rw [h5] at c1 HH HNU;have HC4:=hD c4;have HLT:=hD hlt;have C2:Hid (∀w,Gv 26 #[rtV rt] w (.int .i64 sr)):=hD c1;have C3:Hid (∀w,Below wq.heap.size wq w→Gv 84 #[.agg #[.string nm,.int .i64 um,.int .i64 ud,.slice (some ⟨gl,off,none⟩) m.length ca],rtV fr] w (.agg #[.bool vv.neg,.string (encS vv.num),.string (encS vv.den)])):=hD fun w hp0=>c2 w hp0
    have C4:Hid (∀w,Gv 27 #[rtV y,rtV vv] w (.agg #[.bool df.neg,.string (encS df.num),.string (encS df.den)])):=hD c3;clear c1 c2 c3 c4 hs hvo hvz hy hyz hdo hdz h1 h2 h3 h4 h5 hlt hk HA;have HWI:Hid (IntKind.i64.wrap ((k:Int)+1)=((k+1:Nat):Int)):=hD (by rw [IntWalk.i64_in _ (by have:=HLT.out;have:=HLA.out;omega)];omega);obtain ⟨k8e0,k8e1,k8e2,k8e3,k8e4,k8e5⟩:=HE.out _ HB.out;go_wp2_with fail;clear hlt' k8e0 k8e1 k8e2 k8e3 k8e4 k8e5;refine (C2.out _).mono ?_;rintro e w6 ⟨rfl,hb⟩;have HX2_1:=uH hb HX2_1;have HX3_2:=uH hb HX3_2;have HX4_3:=uH hb HX4_3;have HB:=mH HB hb;clear hb
    by_cases hr0:sr=0
    ·have hsz:(sr==0)=true:=by rw [hr0];rfl
     have HA2:=hD (HAS.out (by rw [HH.out,hr0];rfl));have hwi:=HWI.out;clear hr0;go_wp2_with fail;clear hsz hwi
     go_roundw
     case rel=>exact ⟨k+1,by have:=HLT.out;omega,by first|rfl|go_num,HA2,HX2_1,HX3_2,HX4_3,HB⟩
     case measure=>have:=HLT.out;simp [intOf];omega
    ·have hsz:(sr==0)=false:=by simpa using hr0
     have hn0:rt.num≠0:=fun h=>hr0 (HNU.out.2 h)
     have c4:=HC4.out;rw [HQ0.out] at c4;simp only [hn0,if_false] at c4;obtain ⟨c5,hc6⟩:=HC5.out hn0;have HH:=hD (show refHit m y k=(decide (k+1=m.length)||decide (cmpR (refX m y k) (frT m (k+1))≤0)) by rw [HH.out,decide_eq_true hr0,Bool.true_and]);obtain ⟨qu,h5⟩:∃a,quoR df rt=a:=⟨_,rfl⟩;rw [h5] at c4 c5 HX;simp only [h5] at hc6;obtain ⟨xx,h6⟩:∃a,addR fr qu=a:=⟨_,rfl⟩;rw [h6] at c5 HX;simp only [h6] at hc6;have HC6:=hD hc6;rw [HX.out] at HH HFK;obtain ⟨j,hj⟩:∃j,k+1=j:=⟨_,rfl⟩;rw [hj] at HH;have HJK:Hid (IntKind.i64.wrap ((k:Int)+1)=(j:Int)):=hD (by rw [HWI.out,hj]);clear HC4 HC5 HQ0 HNU hr0 hn0 h5 h6 hc6 HX;have C5:Hid (∀w,Gv 49 #[rtV df,rtV rt] w (.tuple #[.agg #[.bool qu.neg,.string (encS qu.num),.string (encS qu.den)],.bool true])):=hD c4;have C6:Hid (∀w,Gv 19 #[rtV fr,rtV qu] w (.agg #[.bool xx.neg,.string (encS xx.num),.string (encS xx.den)])):=hD c5;clear c4 c5;go_wp2_with fail
     clear hsz;refine wp_region_box (w0:=w6) (by kernel_rfl) (fun ix v _=>v=Eleast_any_8_1 nm um ud ca m gl off k y fr rt vv df qu ix) 18 19 (.cells #[.bool false,.string ⟨#[]⟩,.string ⟨#[]⟩] 29 (0,0)) (.cells #[.bool qu.neg,.string (encS qu.num),.string (encS qu.den)] 29 (0,0)) (fun t=>(decide (8≤t)&&decide (t<10))||(decide (30≤t)&&decide (t<48))) (by kernel_rfl) (by kernel_rfl) (by kernel_rfl) (by decide) (by decide) (by kernel_rfl) rfl (fun _ _ _ _ _ h=>h) ?_ ?_ ?_ ?_
     ·intro i hi hia his ov_ listed av_ w hR K hK;have ho:=hR.at_;have hi:i<21:=hi;have hii:i=0∨i=1∨i=2∨i=3∨i=4∨i=5∨i=6∨i=7∨i=8∨i=9∨i=10∨i=11∨i=12∨i=13∨i=14∨i=15∨i=16∨i=17∨i=20:=by omega
      rcases hii with rfl|rfl|rfl|rfl|rfl|rfl|rfl|rfl|rfl|rfl|rfl|rfl|rfl|rfl|rfl|rfl|rfl|rfl|rfl
      ·simp at ho;subst ho;have b3:av_.tmps.getD 3 undef=.pointer (some ⟨bk3,0,none⟩):=hR.b 3;obtain ⟨cx0,cx1,cx2⟩:=c3 (uH hR.below HX3_2);refine pSq ?_;go_simp;exact hK _ _ rfl rB
      ·simp at ho;subst ho;have b2:av_.tmps.getD 2 undef=.pointer (some ⟨bk2,0,none⟩):=hR.b 2;have cx0:w.cell? ⟨bk2,0,none⟩=some (.string nm):=by rw [Lib.cell_of_heap (hpU hR.below HX2_1.out)];rfl
       have cx1:w.cell? ⟨bk2,1,none⟩=some (.int .i64 um):=by rw [Lib.cell_of_heap (hpU hR.below HX2_1.out)];rfl
       have cx2:w.cell? ⟨bk2,2,none⟩=some (.int .i64 ud):=by rw [Lib.cell_of_heap (hpU hR.below HX2_1.out)];rfl
       have cx3:w.cell? ⟨bk2,3,none⟩=some (.slice (some ⟨gl,off,none⟩) m.length ca):=by rw [Lib.cell_of_heap (hpU hR.below HX2_1.out)];rfl
       refine pSq ?_;go_simp;exact hK _ _ rfl rB
      ·simp at ho;subst ho;have b6:av_.tmps.getD 6 undef=.slice (some ⟨gl,off,none⟩) m.length ca:=hR.b 6;refine pSq ?_;go_simp;exact hK _ _ rfl rB
      ·simp at ho;subst ho;have b7:av_.tmps.getD 7 undef=.int .i64 (k:Int):=hR.b 7;refine pSq ?_;go_simp;exact hK _ _ rfl rB
      ·simp at ho;subst ho;have e2:av_.tmps.getD 33 undef=.slice (some ⟨gl,off,none⟩) m.length ca:=hR.dep ⟨2,.data⟩ (by simp) rfl (by decide) (by decide);have e3:av_.tmps.getD 34 undef=.int .i64 (k:Int):=hR.dep ⟨3,.data⟩ (by simp) rfl (by decide) (by decide);have hk3:(k:Int)<(m.length:Int):=by have:=HLT.out;omega
       refine pSq ?_;go_simp;exact hK _ _ rfl rB
      ·simp at ho;subst ho;have e4:av_.tmps.getD 35 undef=.pointer (some ⟨gl,off+k*6,none⟩):=hR.dep ⟨4,.data⟩ (by simp) rfl (by decide) (by decide);refine pSq ?_;go_simp;exact hK _ _ rfl rB
      ·simp at ho;subst ho;have e5:av_.tmps.getD 36 undef=.pointer (some ⟨gl,off+k*6,none⟩):=hR.dep ⟨5,.data⟩ (by simp) rfl (by decide) (by decide);obtain ⟨cx0,cx1,cx2,cx3,cx4,cx5⟩:=HE.out _ (HB.out.trans (hR.below.mono HB.out.size));refine pSq ?_;go_simp;exact hK _ _ rfl rB
      ·simp at ho;subst ho;have e1:av_.tmps.getD 32 undef=.agg #[.string nm,.int .i64 um,.int .i64 ud,.slice (some ⟨gl,off,none⟩) m.length ca]:=hR.dep ⟨1,.data⟩ (by simp) rfl (by decide) (by decide);have e6:av_.tmps.getD 37 undef=.agg #[.bool fr.neg,.string (encS fr.num),.string (encS fr.den)]:=hR.dep ⟨6,.data⟩ (by simp) rfl (by decide) (by decide);refine pSq ?_;go_simp;refine (C3.out w (HB.out.trans (hR.below.mono HB.out.size))).mono ?_;rintro e w' ⟨rfl,hb⟩;exact hK _ _ (rfl) hb
      ·simp at ho;subst ho;have e0:av_.tmps.getD 31 undef=.agg #[.bool y.neg,.string (encS y.num),.string (encS y.den)]:=hR.dep ⟨0,.data⟩ (by simp) rfl (by decide) (by decide);have e7:av_.tmps.getD 38 undef=.agg #[.bool vv.neg,.string (encS vv.num),.string (encS vv.den)]:=hR.dep ⟨7,.data⟩ (by simp) rfl (by decide) (by decide);refine pSq ?_;go_simp;refine (C4.out w).mono ?_;rintro e w' ⟨rfl,hb⟩;exact hK _ _ (rfl) hb
      ·simp at ho;subst ho;have b6:av_.tmps.getD 6 undef=.slice (some ⟨gl,off,none⟩) m.length ca:=hR.b 6;refine pSq ?_;go_simp;exact hK _ _ rfl rB
      ·simp at ho;subst ho;have b7:av_.tmps.getD 7 undef=.int .i64 (k:Int):=hR.b 7;refine pSq ?_;go_simp;exact hK _ _ rfl rB
      ·simp at ho;subst ho;have e9:av_.tmps.getD 40 undef=.slice (some ⟨gl,off,none⟩) m.length ca:=hR.dep ⟨9,.data⟩ (by simp) rfl (by decide) (by decide);have e10:av_.tmps.getD 41 undef=.int .i64 (k:Int):=hR.dep ⟨10,.data⟩ (by simp) rfl (by decide) (by decide);have hk3:(k:Int)<(m.length:Int):=by have:=HLT.out;omega
       refine pSq ?_;go_simp;exact hK _ _ rfl rB
      ·simp at ho;subst ho;have e11:av_.tmps.getD 42 undef=.pointer (some ⟨gl,off+k*6,none⟩):=hR.dep ⟨11,.data⟩ (by simp) rfl (by decide) (by decide);refine pSq ?_;go_simp;exact hK _ _ rfl rB
      ·simp at ho;subst ho;have e12:av_.tmps.getD 43 undef=.pointer (some ⟨gl,off+k*6+3,none⟩):=hR.dep ⟨12,.data⟩ (by simp) rfl (by decide) (by decide);obtain ⟨cx0,cx1,cx2,cx3,cx4,cx5⟩:=HE.out _ (HB.out.trans (hR.below.mono HB.out.size));refine pSq ?_;go_simp;exact hK _ _ rfl rB
      ·simp at ho;subst ho;have e8:av_.tmps.getD 39 undef=.agg #[.bool df.neg,.string (encS df.num),.string (encS df.den)]:=hR.dep ⟨8,.data⟩ (by simp) rfl (by decide) (by decide);have e13:av_.tmps.getD 44 undef=.agg #[.bool rt.neg,.string (encS rt.num),.string (encS rt.den)]:=hR.dep ⟨13,.data⟩ (by simp) rfl (by decide) (by decide);refine pSq ?_;go_simp;refine (C5.out w).mono ?_;rintro e w' ⟨rfl,hb⟩;exact hK _ _ (rfl) hb
      ·simp at ho;subst ho;have e14:av_.tmps.getD 45 undef=.tuple #[.agg #[.bool qu.neg,.string (encS qu.num),.string (encS qu.den)],.bool true]:=hR.dep ⟨14,.data⟩ (by simp) rfl (by decide) (by decide);refine pSq ?_;go_simp;exact hK _ _ rfl rB
      ·simp at ho;subst ho;have e15:av_.tmps.getD 30 undef=.tuple #[.agg #[.bool qu.neg,.string (encS qu.num),.string (encS qu.den)],.bool true]:=hR.dep ⟨15,.data⟩ (by simp) rfl (by decide) (by decide);refine pSq ?_;go_simp;exact hK _ _ rfl rB
      ·simp at ho;subst ho;have e15:av_.tmps.getD 30 undef=.tuple #[.agg #[.bool qu.neg,.string (encS qu.num),.string (encS qu.den)],.bool true]:=hR.dep ⟨15,.data⟩ (by simp) rfl (by decide) (by decide);refine pSq ?_;go_simp;exact hK _ _ rfl rB
      ·simp at ho;subst ho;have e17:av_.tmps.getD 47 undef=.bool true:=hR.dep ⟨17,.data⟩ (by simp) rfl (by decide) (by decide);refine pSq ?_;go_simp;exact hK _ _ rfl rB
     ·intro ov_ av_ w ho K hK;simp at ho;subst ho;refine pSq ?_;go_simp;exact hK _ _ _ rfl (Nat.le_refl _) (heap_alloc_new _ _) (rB.alloc (Nat.le_refl _) _)
     ·intro ov_ listed av_ w g hR hv hg hz K hK;have ho:=hR.at_;simp at ho;subst ho;have e18:av_.tmps.getD 8 undef=.pointer (some ⟨g,0,none⟩):=hv;have e16:av_.tmps.getD 46 undef=.agg #[.bool qu.neg,.string (encS qu.num),.string (encS qu.den)]:=hR.dep ⟨16,.data⟩ (by simp) rfl (by decide) (by decide);have cz0:w.cell? ⟨g,0,none⟩=some (.bool false):=by rw [Lib.cell_of_heap hz];rfl
      have fz0:w.frozen? ⟨g,0,none⟩=false:=frz0 hz 0;have cz1:w.cell? ⟨g,1,none⟩=some (.string ⟨#[]⟩):=by rw [Lib.cell_of_heap hz];rfl
      have fz1:w.frozen? ⟨g,1,none⟩=false:=frz0 hz 1;have cz2:w.cell? ⟨g,2,none⟩=some (.string ⟨#[]⟩):=by rw [Lib.cell_of_heap hz];rfl
      have fz2:w.frozen? ⟨g,2,none⟩=false:=frz0 hz 2;refine pSq ?_;go_simp;exact hK _ (by simp [World.setCell,Array.getElem?_modify,hz]) (((rB.setCell (p:=⟨g,0,none⟩) hg (.bool qu.neg)).setCell (p:=⟨g,1,none⟩) hg (.string (encS qu.num))).setCell (p:=⟨g,2,none⟩) hg (.string (encS qu.den)))
     ·intro sv_ w g hS hg0 hge hN hb;have e18:sv_ 8=.pointer (some ⟨g,0,none⟩):=hg0;simp only [over,ovL,Nat.reduceAdd,Nat.reduceLeDiff,Nat.reduceLT];obtain ⟨bk8,hg1⟩:∃b,g=b:=⟨_,rfl⟩;rw [hg1] at e18 hge hN;clear hg1;have HG8_9:Hid (n0≤bk8):=hD (by rw [HN0.out];exact Nat.le_trans HB.out.size hge);have HL8_9:=hD (Nat.lt_of_lt_of_le (Array.getElem?_eq_some_iff.1 HX4_3.out).1 hge);have HX8_9:=hD hN;clear hN hge hg0;have HX2_1:=uH hb HX2_1;have HX3_2:=uH hb HX3_2;have HX4_3:=uH hb HX4_3;have HB:=mH HB hb;obtain ⟨w7,hw⟩:∃w8,w8=w:=⟨_,rfl⟩;subst hw;rw [e18];clear hS hb e18;go_wp2_with fail
      refine wp_region_box (w0:=w7) (by kernel_rfl) (fun ix v _=>v=Eleast_any_9_2 ca m gl off k fr qu xx ix) 7 8 (.cells #[.bool false,.string ⟨#[]⟩,.string ⟨#[]⟩] 29 (0,0)) (.cells #[.bool xx.neg,.string (encS xx.num),.string (encS xx.den)] 29 (0,0)) (fun t=>(decide (10≤t)&&decide (t<11))||(decide (48≤t)&&decide (t<55))) (by kernel_rfl) (by kernel_rfl) (by kernel_rfl) (by decide) (by decide) (by kernel_rfl) rfl (fun _ _ _ _ _ h=>h) ?_ ?_ ?_ ?_
      ·intro i hi hia his ov_ listed av_ w hR K hK;have ho:=hR.at_;have hi:i<9:=hi;have hii:i=0∨i=1∨i=2∨i=3∨i=4∨i=5∨i=6:=by omega
       rcases hii with rfl|rfl|rfl|rfl|rfl|rfl|rfl
       ·simp at ho;subst ho;have b6:av_.tmps.getD 6 undef=.slice (some ⟨gl,off,none⟩) m.length ca:=hR.b 6;refine pSq ?_;go_simp;exact hK _ _ rfl rB
       ·simp at ho;subst ho;have b7:av_.tmps.getD 7 undef=.int .i64 (k:Int):=hR.b 7;refine pSq ?_;go_simp;exact hK _ _ rfl rB
       ·simp at ho;subst ho;have e0:av_.tmps.getD 48 undef=.slice (some ⟨gl,off,none⟩) m.length ca:=hR.dep ⟨0,.data⟩ (by simp) rfl (by decide) (by decide);have e1:av_.tmps.getD 49 undef=.int .i64 (k:Int):=hR.dep ⟨1,.data⟩ (by simp) rfl (by decide) (by decide);have hk3:(k:Int)<(m.length:Int):=by have:=HLT.out;omega
        refine pSq ?_;go_simp;exact hK _ _ rfl rB
       ·simp at ho;subst ho;have e2:av_.tmps.getD 50 undef=.pointer (some ⟨gl,off+k*6,none⟩):=hR.dep ⟨2,.data⟩ (by simp) rfl (by decide) (by decide);refine pSq ?_;go_simp;exact hK _ _ rfl rB
       ·simp at ho;subst ho;have e3:av_.tmps.getD 51 undef=.pointer (some ⟨gl,off+k*6,none⟩):=hR.dep ⟨3,.data⟩ (by simp) rfl (by decide) (by decide);obtain ⟨cx0,cx1,cx2,cx3,cx4,cx5⟩:=HE.out _ (HB.out.trans (hR.below.mono HB.out.size));refine pSq ?_;go_simp;exact hK _ _ rfl rB
       ·simp at ho;subst ho;have b8:av_.tmps.getD 8 undef=.pointer (some ⟨bk8,0,none⟩):=hR.b 8;obtain ⟨cx0,cx1,cx2⟩:=c3 (uH hR.below HX8_9);refine pSq ?_;go_simp;exact hK _ _ rfl rB
       ·simp at ho;subst ho;have e4:av_.tmps.getD 52 undef=.agg #[.bool fr.neg,.string (encS fr.num),.string (encS fr.den)]:=hR.dep ⟨4,.data⟩ (by simp) rfl (by decide) (by decide);have e5:av_.tmps.getD 53 undef=.agg #[.bool qu.neg,.string (encS qu.num),.string (encS qu.den)]:=hR.dep ⟨5,.data⟩ (by simp) rfl (by decide) (by decide);refine pSq ?_;go_simp;refine (C6.out w).mono ?_;rintro e w' ⟨rfl,hb⟩;exact hK _ _ (rfl) hb
      ·intro ov_ av_ w ho K hK;simp at ho;subst ho;refine pSq ?_;go_simp;exact hK _ _ _ rfl (Nat.le_refl _) (heap_alloc_new _ _) (rB.alloc (Nat.le_refl _) _)
      ·intro ov_ listed av_ w g hR hv hg hz K hK;have ho:=hR.at_;simp at ho;subst ho;have e7:av_.tmps.getD 10 undef=.pointer (some ⟨g,0,none⟩):=hv;have e6:av_.tmps.getD 54 undef=.agg #[.bool xx.neg,.string (encS xx.num),.string (encS xx.den)]:=hR.dep ⟨6,.data⟩ (by simp) rfl (by decide) (by decide);have cz0:w.cell? ⟨g,0,none⟩=some (.bool false):=by rw [Lib.cell_of_heap hz];rfl
       have fz0:w.frozen? ⟨g,0,none⟩=false:=frz0 hz 0;have cz1:w.cell? ⟨g,1,none⟩=some (.string ⟨#[]⟩):=by rw [Lib.cell_of_heap hz];rfl
       have fz1:w.frozen? ⟨g,1,none⟩=false:=frz0 hz 1;have cz2:w.cell? ⟨g,2,none⟩=some (.string ⟨#[]⟩):=by rw [Lib.cell_of_heap hz];rfl
       have fz2:w.frozen? ⟨g,2,none⟩=false:=frz0 hz 2;refine pSq ?_;go_simp;exact hK _ (by simp [World.setCell,Array.getElem?_modify,hz]) (((rB.setCell (p:=⟨g,0,none⟩) hg (.bool xx.neg)).setCell (p:=⟨g,1,none⟩) hg (.string (encS xx.num))).setCell (p:=⟨g,2,none⟩) hg (.string (encS xx.den)))
      ·intro sv_ w g hS hg0 hge hN hb;have e7:sv_ 10=.pointer (some ⟨g,0,none⟩):=hg0;simp only [over,ovL,Nat.reduceAdd,Nat.reduceLeDiff,Nat.reduceLT];obtain ⟨bk10,hg1⟩:∃b,g=b:=⟨_,rfl⟩;rw [hg1] at e7 hge hN;clear hg1;have HG10_10:Hid (n0≤bk10):=hD (by rw [HN0.out];exact Nat.le_trans HB.out.size hge);have HL10_10:=hD (Nat.lt_of_lt_of_le (Array.getElem?_eq_some_iff.1 HX8_9.out).1 hge);have HX10_10:=hD hN;clear hN hge hg0;have HX2_1:=uH hb HX2_1;have HX3_2:=uH hb HX3_2;have HX4_3:=uH hb HX4_3;have HX8_9:=uH hb HX8_9;have HB:=mH HB hb;obtain ⟨w8,hw⟩:∃w8,w8=w:=⟨_,rfl⟩;subst hw;rw [e7];clear hS hb e7;go_wp2_with fail
       by_cases hj1:j=m.length
       ·have HKB:Hid (((j:Int)==(m.length:Int))=true):=hD (by rw [hj1];simp);have HHT:Hid (refHit m y k=true):=hD (by rw [HH.out,decide_eq_true hj1,Bool.true_or]);clear hj1 hj HH HC6;refine wpVl (w:=w8) (by kernel_rfl) (fun ix v _=>v=Eleast_any_10_3 ca m gl off j k ix) (fun t=>(decide (55≤t)&&decide (t<71))) (by kernel_rfl) (by kernel_rfl) (by kernel_rfl) (fun _ _ _ _ _ h=>h) ?_ ?_
        ·intro i hi ov_ listed av_ w hR K hK;have ho:=hR.at_;have hi:i<16:=hi;have hii:i=0∨i=1∨i=2∨i=3∨i=4∨i=5∨i=6∨i=7∨i=8∨i=9∨i=10∨i=11∨i=12∨i=13∨i=14∨i=15:=by omega
         rcases hii with rfl|rfl|rfl|rfl|rfl|rfl|rfl|rfl|rfl|rfl|rfl|rfl|rfl|rfl|rfl|rfl<;>(simp at ho;subst ho)
         ·have b7:av_.tmps.getD 7 undef=.int .i64 (k:Int):=hR.b 7;refine pSq ?_;go_simp;exact hK _ _ rfl rB
         ·have e0:av_.tmps.getD 55 undef=.int .i64 (k:Int):=hR.d 0;have hjk:=HJK.out;refine pSq ?_;go_simp;exact hK _ _ rfl rB
         ·have b6:av_.tmps.getD 6 undef=.slice (some ⟨gl,off,none⟩) m.length ca:=hR.b 6;refine pSq ?_;go_simp;exact hK _ _ rfl rB
         ·have e2:av_.tmps.getD 57 undef=.slice (some ⟨gl,off,none⟩) m.length ca:=hR.d 2;refine pSq ?_;go_simp;exact hK _ _ rfl rB
         ·have e1:av_.tmps.getD 56 undef=.int .i64 (j:Int):=hR.d 1;have e3:av_.tmps.getD 58 undef=.int .i64 (m.length:Int):=hR.d 3;have hkb:=HKB.out;refine pSq ?_;go_simp;exact hK _ _ rfl rB
         ·have e4:av_.tmps.getD 59 undef=.bool true:=hR.d 4;refine pSq ?_;go_simp;exact hK _ _ rfl rB
         ·have e5:av_.tmps.getD 60 undef=.bool true:=hR.g 5;refine gSkp rfl rfl rfl (b:=false) e5 (by decide) ?_;exact hK _ _ rfl rB
         ·have e5:av_.tmps.getD 60 undef=.bool true:=hR.g 5;refine gSkp rfl rfl rfl (b:=false) e5 (by decide) ?_;exact hK _ _ rfl rB
         ·have e5:av_.tmps.getD 60 undef=.bool true:=hR.g 5;refine gSkp rfl rfl rfl (b:=false) e5 (by decide) ?_;exact hK _ _ rfl rB
         ·have e5:av_.tmps.getD 60 undef=.bool true:=hR.g 5;refine gSkp rfl rfl rfl (b:=false) e5 (by decide) ?_;exact hK _ _ rfl rB
         ·have e5:av_.tmps.getD 60 undef=.bool true:=hR.g 5;refine gSkp rfl rfl rfl (b:=false) e5 (by decide) ?_;exact hK _ _ rfl rB
         ·have e5:av_.tmps.getD 60 undef=.bool true:=hR.g 5;refine gSkp rfl rfl rfl (b:=false) e5 (by decide) ?_;exact hK _ _ rfl rB
         ·have e5:av_.tmps.getD 60 undef=.bool true:=hR.g 5;refine gSkp rfl rfl rfl (b:=false) e5 (by decide) ?_;exact hK _ _ rfl rB
         ·have e5:av_.tmps.getD 60 undef=.bool true:=hR.g 5;refine gSkp rfl rfl rfl (b:=false) e5 (by decide) ?_;exact hK _ _ rfl rB
         ·have e5:av_.tmps.getD 60 undef=.bool true:=hR.g 5;refine gSkp rfl rfl rfl (b:=false) e5 (by decide) ?_;exact hK _ _ rfl rB
         ·have e5:av_.tmps.getD 60 undef=.bool true:=hR.d 5;have e14:av_.tmps.getD 69 undef=undef:=hR.d 14;refine pSq ?_;go_simp;exact hK _ _ rfl rB
        ·intro sv_ w hS hb;have e15:sv_ 70=.bool true:=hS 15 (by decide);simp only [over,ovL,Nat.reduceAdd,Nat.reduceLeDiff,Nat.reduceLT];have HB:=mH HB hb;have HX2_1:=uH hb HX2_1;have HX3_2:=uH hb HX3_2;have HX4_3:=uH hb HX4_3;have HX8_9:=uH hb HX8_9;have HX10_10:=uH hb HX10_10;obtain ⟨w9,hw⟩:∃w8,w8=w:=⟨_,rfl⟩;subst hw;rw [e15];clear hS hb e15;obtain ⟨hn,hx⟩:=HFK.out (HHT.out);have hV:V=(rawR xx,true):=by rw [HV.out,if_neg hn,hx]
         subst hV;clear hn hx;obtain ⟨k11a,k11b,k11c⟩:=c3 HX10_10;obtain ⟨W10,hW10,HX4_3,HB,ho,f12a,f12b,f12c,k12a,k12b,k12c⟩:=putR HX4_3 HB HN0 HG4_3 xx;have HX2_1:=ho _ _ (en2 HL3_2 HL4_3) HX2_1;have HX3_2:=ho _ _ (en1 HL4_3) HX3_2;have HX8_9:=ho _ _ (ne1 HL8_9) HX8_9;have HX10_10:=ho _ _ (ne2 HL8_9 HL10_10) HX10_10;clear ho;go_wp2_with fail;clear k11a k11b k11c f12a f12b f12c k12a k12b k12c hW10;refine bodyPost_ret (rC2 HX4_3.out) rfl ?_;exact ⟨rfl,by rw [HN0.out];exact HB.out⟩
       ·have hjn:j<m.length:=by have:=HLT.out;omega
        have HE2:=hD (HAT.out j hjn);have HKB:Hid (((j:Int)==(m.length:Int))=false∧(j:Int)<(m.length:Int)):=hD ⟨by simp;omega,by omega⟩;have HH:=hD (show refHit m y k=decide (cmpR xx (frT m j)≤0) by rw [HH.out,decide_eq_false hj1,Bool.false_or]);have d1:=HC6.out j;obtain ⟨fr2,h1⟩:∃a,frT m j=a:=⟨_,rfl⟩;obtain ⟨rt2,h2⟩:∃a,rtT m j=a:=⟨_,rfl⟩;rw [h1,h2] at HE2;rw [h1] at d1 HH;obtain ⟨cz,h3⟩:∃a,cmpR xx fr2=a:=⟨_,rfl⟩;rw [h3] at d1 HH;have C7:Hid (∀w,Gv 24 #[rtV xx,rtV fr2] w (.int .i64 cz)):=hD d1;clear d1 h1 h2 h3 hjn hj1 hj HC6;obtain ⟨tz,htz⟩:∃xq,decide (cz≤0)=xq:=⟨_,rfl⟩;have Htz:=hD htz;clear htz;cases tz
        case false =>
         refine wpVl (w:=w8) (by kernel_rfl) (fun ix v _=>v=Eleast_any_10_4 ca m gl off j k cz xx fr2 ix) (fun t=>(decide (55≤t)&&decide (t<71))) (by kernel_rfl) (by kernel_rfl) (by kernel_rfl) (fun _ _ _ _ _ h=>h) ?_ ?_
         ·intro i hi ov_ listed av_ w hR K hK;have ho:=hR.at_;have hi:i<16:=hi;have hii:i=0∨i=1∨i=2∨i=3∨i=4∨i=5∨i=6∨i=7∨i=8∨i=9∨i=10∨i=11∨i=12∨i=13∨i=14∨i=15:=by omega
          rcases hii with rfl|rfl|rfl|rfl|rfl|rfl|rfl|rfl|rfl|rfl|rfl|rfl|rfl|rfl|rfl|rfl<;>(simp at ho;subst ho)
          ·have b7:av_.tmps.getD 7 undef=.int .i64 (k:Int):=hR.b 7;refine pSq ?_;go_simp;exact hK _ _ rfl rB
          ·have e0:av_.tmps.getD 55 undef=.int .i64 (k:Int):=hR.d 0;have hjk:=HJK.out;refine pSq ?_;go_simp;exact hK _ _ rfl rB
          ·have b6:av_.tmps.getD 6 undef=.slice (some ⟨gl,off,none⟩) m.length ca:=hR.b 6;refine pSq ?_;go_simp;exact hK _ _ rfl rB
          ·have e2:av_.tmps.getD 57 undef=.slice (some ⟨gl,off,none⟩) m.length ca:=hR.d 2;refine pSq ?_;go_simp;exact hK _ _ rfl rB
          ·have e1:av_.tmps.getD 56 undef=.int .i64 (j:Int):=hR.d 1;have e3:av_.tmps.getD 58 undef=.int .i64 (m.length:Int):=hR.d 3;have hkb:=HKB.out.1;refine pSq ?_;go_simp;exact hK _ _ rfl rB
          ·have e4:av_.tmps.getD 59 undef=.bool false:=hR.d 4;refine pSq ?_;go_simp;exact hK _ _ rfl rB
          ·have e5:av_.tmps.getD 60 undef=.bool false:=hR.g 5;have b10:av_.tmps.getD 10 undef=.pointer (some ⟨bk10,0,none⟩):=hR.b 10;obtain ⟨cx0,cx1,cx2⟩:=c3 (uH hR.below HX10_10);refine gSq (b:=false) e5 ?_;go_simp;exact hK _ _ rfl rB
          ·have e5:av_.tmps.getD 60 undef=.bool false:=hR.g 5;have b6:av_.tmps.getD 6 undef=.slice (some ⟨gl,off,none⟩) m.length ca:=hR.b 6;refine gSq (b:=false) e5 ?_;go_simp;exact hK _ _ rfl rB
          ·have e5:av_.tmps.getD 60 undef=.bool false:=hR.g 5;have b7:av_.tmps.getD 7 undef=.int .i64 (k:Int):=hR.b 7;refine gSq (b:=false) e5 ?_;go_simp;exact hK _ _ rfl rB
          ·have e8:av_.tmps.getD 63 undef=.int .i64 (k:Int):=hR.d 8;have e5:av_.tmps.getD 60 undef=.bool false:=hR.g 5;have hjk:=HJK.out;refine gSq (b:=false) e5 ?_;go_simp;exact hK _ _ rfl rB
          ·have e7:av_.tmps.getD 62 undef=.slice (some ⟨gl,off,none⟩) m.length ca:=hR.d 7;have e9:av_.tmps.getD 64 undef=.int .i64 (j:Int):=hR.d 9;have e5:av_.tmps.getD 60 undef=.bool false:=hR.g 5;have hkb:=HKB.out.2;refine gSq (b:=false) e5 ?_;go_simp;exact hK _ _ rfl rB
          ·have e10:av_.tmps.getD 65 undef=.pointer (some ⟨gl,off+j*6,none⟩):=hR.d 10;have e5:av_.tmps.getD 60 undef=.bool false:=hR.g 5;refine gSq (b:=false) e5 ?_;go_simp;exact hK _ _ rfl rB
          ·have e11:av_.tmps.getD 66 undef=.pointer (some ⟨gl,off+j*6,none⟩):=hR.d 11;have e5:av_.tmps.getD 60 undef=.bool false:=hR.g 5;obtain ⟨cx0,cx1,cx2,cx3,cx4,cx5⟩:=HE2.out _ (HB.out.trans (hR.below.mono HB.out.size));refine gSq (b:=false) e5 ?_;go_simp;exact hK _ _ rfl rB
          ·have e6:av_.tmps.getD 61 undef=.agg #[.bool xx.neg,.string (encS xx.num),.string (encS xx.den)]:=hR.d 6;have e12:av_.tmps.getD 67 undef=.agg #[.bool fr2.neg,.string (encS fr2.num),.string (encS fr2.den)]:=hR.d 12;have e5:av_.tmps.getD 60 undef=.bool false:=hR.g 5;refine gSq (b:=false) e5 ?_;go_simp;refine (C7.out w).mono ?_;rintro e w' ⟨rfl,hb⟩;exact hK _ _ (rfl) hb
          ·have e13:av_.tmps.getD 68 undef=.int .i64 cz:=hR.d 13;have e5:av_.tmps.getD 60 undef=.bool false:=hR.g 5;have htz:=Htz.out;refine gSq (b:=false) e5 ?_;go_simp;exact hK _ _ rfl rB
          ·have e5:av_.tmps.getD 60 undef=.bool false:=hR.d 5;have e14:av_.tmps.getD 69 undef=.bool false:=hR.d 14;refine pSq ?_;go_simp;exact hK _ _ rfl rB
         ·intro sv_ w hS hb;have e15:sv_ 70=.bool false:=hS 15 (by decide);simp only [over,ovL,Nat.reduceAdd,Nat.reduceLeDiff,Nat.reduceLT];have HB:=mH HB hb;have HX2_1:=uH hb HX2_1;have HX3_2:=uH hb HX3_2;have HX4_3:=uH hb HX4_3;have HX8_9:=uH hb HX8_9;have HX10_10:=uH hb HX10_10;obtain ⟨w11,hw⟩:∃w8,w8=w:=⟨_,rfl⟩;subst hw;rw [e15];clear hS hb e15;have HA2:=hD (HAS.out (by rw [HH.out];exact Htz.out));have hwi:=HWI.out;go_wp2_with fail;clear hwi
          go_roundw
          case rel=>exact ⟨k+1,by have:=HLT.out;omega,by first|rfl|go_num,HA2,HX2_1,HX3_2,HX4_3,HB⟩
          case measure=>have:=HLT.out;simp [intOf];omega
        case true =>
         refine wpVl (w:=w8) (by kernel_rfl) (fun ix v _=>v=Eleast_any_10_5 ca m gl off j k cz xx fr2 ix) (fun t=>(decide (55≤t)&&decide (t<71))) (by kernel_rfl) (by kernel_rfl) (by kernel_rfl) (fun _ _ _ _ _ h=>h) ?_ ?_
         ·intro i hi ov_ listed av_ w hR K hK;have ho:=hR.at_;have hi:i<16:=hi;have hii:i=0∨i=1∨i=2∨i=3∨i=4∨i=5∨i=6∨i=7∨i=8∨i=9∨i=10∨i=11∨i=12∨i=13∨i=14∨i=15:=by omega
          rcases hii with rfl|rfl|rfl|rfl|rfl|rfl|rfl|rfl|rfl|rfl|rfl|rfl|rfl|rfl|rfl|rfl<;>(simp at ho;subst ho)
          ·have b7:av_.tmps.getD 7 undef=.int .i64 (k:Int):=hR.b 7;refine pSq ?_;go_simp;exact hK _ _ rfl rB
          ·have e0:av_.tmps.getD 55 undef=.int .i64 (k:Int):=hR.d 0;have hjk:=HJK.out;refine pSq ?_;go_simp;exact hK _ _ rfl rB
          ·have b6:av_.tmps.getD 6 undef=.slice (some ⟨gl,off,none⟩) m.length ca:=hR.b 6;refine pSq ?_;go_simp;exact hK _ _ rfl rB
          ·have e2:av_.tmps.getD 57 undef=.slice (some ⟨gl,off,none⟩) m.length ca:=hR.d 2;refine pSq ?_;go_simp;exact hK _ _ rfl rB
          ·have e1:av_.tmps.getD 56 undef=.int .i64 (j:Int):=hR.d 1;have e3:av_.tmps.getD 58 undef=.int .i64 (m.length:Int):=hR.d 3;have hkb:=HKB.out.1;refine pSq ?_;go_simp;exact hK _ _ rfl rB
          ·have e4:av_.tmps.getD 59 undef=.bool false:=hR.d 4;refine pSq ?_;go_simp;exact hK _ _ rfl rB
          ·have e5:av_.tmps.getD 60 undef=.bool false:=hR.g 5;have b10:av_.tmps.getD 10 undef=.pointer (some ⟨bk10,0,none⟩):=hR.b 10;obtain ⟨cx0,cx1,cx2⟩:=c3 (uH hR.below HX10_10);refine gSq (b:=false) e5 ?_;go_simp;exact hK _ _ rfl rB
          ·have e5:av_.tmps.getD 60 undef=.bool false:=hR.g 5;have b6:av_.tmps.getD 6 undef=.slice (some ⟨gl,off,none⟩) m.length ca:=hR.b 6;refine gSq (b:=false) e5 ?_;go_simp;exact hK _ _ rfl rB
          ·have e5:av_.tmps.getD 60 undef=.bool false:=hR.g 5;have b7:av_.tmps.getD 7 undef=.int .i64 (k:Int):=hR.b 7;refine gSq (b:=false) e5 ?_;go_simp;exact hK _ _ rfl rB
          ·have e8:av_.tmps.getD 63 undef=.int .i64 (k:Int):=hR.d 8;have e5:av_.tmps.getD 60 undef=.bool false:=hR.g 5;have hjk:=HJK.out;refine gSq (b:=false) e5 ?_;go_simp;exact hK _ _ rfl rB
          ·have e7:av_.tmps.getD 62 undef=.slice (some ⟨gl,off,none⟩) m.length ca:=hR.d 7;have e9:av_.tmps.getD 64 undef=.int .i64 (j:Int):=hR.d 9;have e5:av_.tmps.getD 60 undef=.bool false:=hR.g 5;have hkb:=HKB.out.2;refine gSq (b:=false) e5 ?_;go_simp;exact hK _ _ rfl rB
          ·have e10:av_.tmps.getD 65 undef=.pointer (some ⟨gl,off+j*6,none⟩):=hR.d 10;have e5:av_.tmps.getD 60 undef=.bool false:=hR.g 5;refine gSq (b:=false) e5 ?_;go_simp;exact hK _ _ rfl rB
          ·have e11:av_.tmps.getD 66 undef=.pointer (some ⟨gl,off+j*6,none⟩):=hR.d 11;have e5:av_.tmps.getD 60 undef=.bool false:=hR.g 5;obtain ⟨cx0,cx1,cx2,cx3,cx4,cx5⟩:=HE2.out _ (HB.out.trans (hR.below.mono HB.out.size));refine gSq (b:=false) e5 ?_;go_simp;exact hK _ _ rfl rB
          ·have e6:av_.tmps.getD 61 undef=.agg #[.bool xx.neg,.string (encS xx.num),.string (encS xx.den)]:=hR.d 6;have e12:av_.tmps.getD 67 undef=.agg #[.bool fr2.neg,.string (encS fr2.num),.string (encS fr2.den)]:=hR.d 12;have e5:av_.tmps.getD 60 undef=.bool false:=hR.g 5;refine gSq (b:=false) e5 ?_;go_simp;refine (C7.out w).mono ?_;rintro e w' ⟨rfl,hb⟩;exact hK _ _ (rfl) hb
          ·have e13:av_.tmps.getD 68 undef=.int .i64 cz:=hR.d 13;have e5:av_.tmps.getD 60 undef=.bool false:=hR.g 5;have htz:=Htz.out;refine gSq (b:=false) e5 ?_;go_simp;exact hK _ _ rfl rB
          ·have e5:av_.tmps.getD 60 undef=.bool false:=hR.d 5;have e14:av_.tmps.getD 69 undef=.bool true:=hR.d 14;refine pSq ?_;go_simp;exact hK _ _ rfl rB
         ·intro sv_ w hS hb;have e15:sv_ 70=.bool true:=hS 15 (by decide);simp only [over,ovL,Nat.reduceAdd,Nat.reduceLeDiff,Nat.reduceLT];have HB:=mH HB hb;have HX2_1:=uH hb HX2_1;have HX3_2:=uH hb HX3_2;have HX4_3:=uH hb HX4_3;have HX8_9:=uH hb HX8_9;have HX10_10:=uH hb HX10_10;obtain ⟨w12,hw⟩:∃w8,w8=w:=⟨_,rfl⟩;subst hw;rw [e15];clear hS hb e15;have HHT:Hid (refHit m y k=true):=hD (by rw [HH.out];exact Htz.out);obtain ⟨hn,hx⟩:=HFK.out (HHT.out);have hV:V=(rawR xx,true):=by rw [HV.out,if_neg hn,hx]
          subst hV;clear hn hx;obtain ⟨k13a,k13b,k13c⟩:=c3 HX10_10;obtain ⟨W13,hW13,HX4_3,HB,ho,f14a,f14b,f14c,k14a,k14b,k14c⟩:=putR HX4_3 HB HN0 HG4_3 xx;have HX2_1:=ho _ _ (en2 HL3_2 HL4_3) HX2_1;have HX3_2:=ho _ _ (en1 HL4_3) HX3_2;have HX8_9:=ho _ _ (ne1 HL8_9) HX8_9;have HX10_10:=ho _ _ (ne2 HL8_9 HL10_10) HX10_10;clear ho;go_wp2_with fail;clear k13a k13b k13c f14a f14b f14c k14a k14b k14c hW13;refine bodyPost_ret (rC2 HX4_3.out) rfl ?_;exact ⟨rfl,by rw [HN0.out];exact HB.out⟩
   ·have hge:¬(k:Int)<(m.length:Int):=by omega
    have hn:=HFA.out (fun j h=>HA.out j (by omega));have hV:V=(zrow,false):=by rw [HV.out,if_pos hn]
    subst hV;clear hn HV;obtain ⟨W14,hW14,HX4_3,HB,ho,f15a,f15b,f15c,k15a,k15b,k15c⟩:=putZ HX4_3 HB HN0 HG4_3;have HX2_1:=ho _ _ (en2 HL3_2 HL4_3) HX2_1;have HX3_2:=ho _ _ (en1 HL4_3) HX3_2;clear ho;go_wp2_with fail;clear hge f15a f15b f15c k15a k15b k15c hW14;refine bodyPost_ret (rC2 HX4_3.out) rfl ?_;exact ⟨rfl,by rw [HN0.out];exact HB.out⟩
end Go.Proofs.YtblgfmjlajhipaaGreatDoor
