/- Contracts that the proofs of this seat share. Each theorem names its conditions. -/
import Derived.Deep.DeepCutAuto
import Derived.Test.YtblgfmjlajhipaaGreatDoorZb9
import Derived.Test.YtblgfmjlajhipaaGreatDoorZb5
set_option maxHeartbeats 16000000
set_option linter.unusedVariables false
namespace Go.Proofs.YtblgfmjlajhipaaGreatDoor
open Go.RowKit Go.Shelf
open Dgt
def AtT (A:World) (g o:Nat) (x y:Rt):Prop:=∀W,Below A.heap.size A W→W.cell? ⟨g,o,none⟩=some (.bool x.neg)∧W.cell? ⟨g,o+1,none⟩=some (.string (encS x.num))∧W.cell? ⟨g,o+2,none⟩=some (.string (encS x.den)) ∧
 W.cell? ⟨g,o+3,none⟩=some (.bool y.neg)∧W.cell? ⟨g,o+4,none⟩=some (.string (encS y.num))∧W.cell? ⟨g,o+5,none⟩=some (.string (encS y.den))
theorem LstK.openT {A:World} {v:Value} {m:List BT} (h:LstK A v (m.map rawB)):∃p cap,v=.slice p m.length cap∧m.length≤cap∧m.length≤1000∧∀i,i<m.length→∃g off,p=some ⟨g,off,none⟩∧AtT A g (off+i*6) (frT m i) (rtT m i):=by
 obtain ⟨p,cap,h1,h2,h3,h4⟩:=h.open;rw [List.length_map] at h1 h2 h3;refine ⟨p,cap,h1,h2,h3,fun i hi=> ?_⟩;obtain ⟨g,off,k1,k2⟩:=h4 i (by rwa [List.length_map]);refine ⟨g,off,k1,?_⟩;rw [List.getElem_map] at k2;rw [frT_at hi,rtT_at hi];exact k2
theorem LstK.openS {A:World} {v:Value} {m:List BT} (h:LstK A v (m.map rawB)) (h0:0<m.length):∃g off cap,v=.slice (some ⟨g,off,none⟩) m.length cap∧m.length≤cap∧m.length≤1000∧∀i,i<m.length→AtT A g (off+i*6) (frT m i) (rtT m i):=by
 obtain ⟨p,cap,h1,h2,h3,h4⟩:=h.openT;obtain ⟨g,off,rfl,-⟩:=h4 0 h0;refine ⟨g,off,cap,h1,h2,h3,fun i hi=> ?_⟩;obtain ⟨g2,off2,e,k⟩:=h4 i hi;simp only [Option.some.injEq,Addr.mk.injEq,and_true] at e;obtain ⟨rfl,rfl⟩:=e;exact k
theorem own_lit {W:World} {g B n size:Nat} {e:TypeId} {xs:List Value} (h:W.heap[g]? =some (.cells xs.toArray e (0,0))) (hl:xs.length=n*size) (hn:n≤1000) (hB:B≤g):W.ownsRow B e size (.slice (some ⟨g,0,none⟩) n n) n xs :=
 ⟨hl,.inr ⟨g,n,_,rfl,hB,h,Nat.le_refl _,by unfold maxLen;omega,by rw [List.size_toArray,hl],by
  rw [←hl];show xs.take xs.length=xs;rw [List.take_length]⟩⟩
def begs (m:List BT) (k:Nat):List Rw:=(List.range k).map fun j=>rawR (begT m j)
theorem begs_s (m:List BT) (k:Nat):begs m (k+1)=begs m k++[rawR (begT m k)]:=by unfold begs;rw [List.range_succ,List.map_append];rfl
theorem begs_len (m:List BT) (k:Nat):(begs m k).length=k:=by unfold begs;simp
theorem begs_at {W:World} {v:Value} {m:List BT} {n k:Nat} (h:LstR W v (begs m n)) (hk:k<n):∃g off c,v=.slice (some ⟨g,off,none⟩) n c∧∀V,Below W.heap.size W V→V.cell? ⟨g,off+k*3,none⟩=some (.bool (begT m k).neg)∧V.cell? ⟨g,off+k*3+1,none⟩=some (.string (encS (begT m k).num))∧V.cell? ⟨g,off+k*3+2,none⟩=some (.string (encS (begT m k).den)):=by
 rcases h with ⟨rfl,h0⟩|⟨g,off,cap,h1,h2,h3,h4⟩
 ·have:=begs_len m n;rw [h0] at this;simp at this;omega
 ·rw [begs_len] at h1;refine ⟨g,off,cap,h1,fun V hV=> ?_⟩;rw [clU hV h2,clU hV h2,clU hV h2];have:=h4 k (by rw [begs_len];exact hk);have e:(begs m n)[k]'(by rw [begs_len];exact hk)=rawR (begT m k):=by unfold begs;simp
  rw [e] at this;exact this
def Esums_any_5_1 (ca:Nat) (m:List BT) (k:Nat) (j:Nat) (gl:Nat) (off:Nat) (fr:Rt) (fr2:Rt) (wd:Rt) (bk1:Nat):Nat→Value
 | 0=>.pointer (some ⟨bk1,3,none⟩)
 | 1=>.slice (some ⟨gl,off,none⟩) m.length ca
 | 2=>.int .i64 (k:Int)
 | 3=>.int .i64 (j:Int)
 | 4=>.pointer (some ⟨gl,off+j*6,none⟩)
 | 5=>.pointer (some ⟨gl,off+j*6,none⟩)
 | 6=>.agg #[.bool fr2.neg,.string (encS fr2.num),.string (encS fr2.den)]
 | 7=>.pointer (some ⟨bk1,3,none⟩)
 | 8=>.slice (some ⟨gl,off,none⟩) m.length ca
 | 9=>.int .i64 (k:Int)
 | 10=>.pointer (some ⟨gl,off+k*6,none⟩)
 | 11=>.pointer (some ⟨gl,off+k*6,none⟩)
 | 12=>.agg #[.bool fr.neg,.string (encS fr.num),.string (encS fr.den)]
 | 13=>.agg #[.bool wd.neg,.string (encS wd.num),.string (encS wd.den)]
 | 14=>undef
 | 15=>undef
 | _=>undef
def Esums_any_6_2 (ca:Nat) (m:List BT) (k:Nat) (gl:Nat) (off:Nat) (rt:Rt) (wd:Rt) (pr:Rt) (b1:Rt) (b2:Rt) (g3:Nat) (off3:Nat) (c3_:Nat) (bk1:Nat) (ws:Nat):Nat→Value
 | 0=>.slice (some ⟨g3,off3,none⟩) (k+1) c3_
 | 1=>.slice (some ⟨g3,off3,none⟩) (k+1) c3_
 | 2=>.int .i64 (k:Int)
 | 3=>.pointer (some ⟨g3,off3+k*3,none⟩)
 | 4=>.agg #[.bool b1.neg,.string (encS b1.num),.string (encS b1.den)]
 | 5=>.agg #[.bool wd.neg,.string (encS wd.num),.string (encS wd.den)]
 | 6=>.pointer (some ⟨bk1,3,none⟩)
 | 7=>.slice (some ⟨gl,off,none⟩) m.length ca
 | 8=>.int .i64 (k:Int)
 | 9=>.pointer (some ⟨gl,off+k*6,none⟩)
 | 10=>.pointer (some ⟨gl,off+k*6+3,none⟩)
 | 11=>.agg #[.bool rt.neg,.string (encS rt.num),.string (encS rt.den)]
 | 12=>.agg #[.bool pr.neg,.string (encS pr.num),.string (encS pr.den)]
 | 13=>.agg #[.bool b2.neg,.string (encS b2.num),.string (encS b2.den)]
 | _=>undef
def Ssums_any_6_2 (ca:Nat) (m:List BT) (k:Nat) (gl:Nat) (off:Nat) (rt:Rt) (wd:Rt) (pr:Rt) (b1:Rt) (b2:Rt) (g3:Nat) (off3:Nat) (c3_:Nat) (bk1:Nat) (ws:Nat) (ix:Nat) (v:Value) (w:World):Prop :=
 match ix with
 | 14=>∃g,v=.slice (some ⟨g,0,none⟩) 1 1∧ws≤g∧w.heap[g]? =some (.cells #[.bool b2.neg,.string (encS b2.num),.string (encS b2.den)] 29 (0,0))
 | ix=>v=Esums_any_6_2 ca m k gl off rt wd pr b1 b2 g3 off3 c3_ bk1 ws ix
theorem Ssums_any_6_2_up (ca:Nat) (m:List BT) (k:Nat) (gl:Nat) (off:Nat) (rt:Rt) (wd:Rt) (pr:Rt) (b1:Rt) (b2:Rt) (g3:Nat) (off3:Nat) (c3_:Nat) (bk1:Nat) (ws:Nat) (ix:Nat) (v:Value) (w w' :World) (hb:Below w.heap.size w w') (h:Ssums_any_6_2 ca m k gl off rt wd pr b1 b2 g3 off3 c3_ bk1 ws ix v w):Ssums_any_6_2 ca m k gl off rt wd pr b1 b2 g3 off3 c3_ bk1 ws ix v w' :=by
 unfold Ssums_any_6_2 at h ⊢
 split at h
 ·exact by obtain ⟨g,e1,e2,e3⟩:=h;exact ⟨g,e1,e2,hpU hb e3⟩
 ·exact h
set_option maxRecDepth 100000 in
theorem sums_any (nm:ByteArray) (um ud:Int) (v:Value) (m:List BT) (hS:Sch m) (wq:World) (hl:LstK wq v (m.map rawB)) :
  Calls Tryz.prog 61 #[.agg #[.string nm,.int .i64 um,.int .i64 ud,v]] wq fun e w' =>∃v',e=.returned v' ∧LstR w' v' (begs m m.length)∧Below wq.heap.size wq w' :=by
 obtain ⟨gl,off,ca,rfl,hca2,hla,hca⟩:=hl.openS hS.pos;have HAT:=hD hca;have HLA:=hD hla;have HCA:=hD hca2;have HSC:=hD hS;clear hca hla hl hca2 hS;have c1:=fun w=>RatOf_any 0 w (by decide) (by decide)
 have HZ0:Hid (begT m 0=ofR 0):=hD rfl;obtain ⟨z0,hz0⟩:∃z,ofR 0=z:=⟨_,rfl⟩;rw [hz0] at c1 HZ0;have HL1:Hid ((1:Int)≤(m.length:Int)∧(m.length:Int)≤(ca:Int)):=hD (by have:=HSC.out.pos;have:=HCA.out;omega);have C1:Hid (∀w,Gv 58 #[.int .i64 0] w (.agg #[.bool z0.neg,.string (encS z0.num),.string (encS z0.den)])):=hD c1;clear c1 hz0;have HB:=hD (Below.refl wq.heap.size wq);obtain ⟨n0,hn0⟩:∃n,n=wq.heap.size:=⟨_,rfl⟩;rw [←hn0];have HN0:=hD hn0;clear hn0;go_enter Tryz.func61,Tryz.ntmps61;obtain ⟨W1,bk1,hW1,hbk1,HX1_1,HB,HG1_1,hup⟩:=boxn HB HN0 (.cells #[.string nm,.int .i64 um,.int .i64 ud,.slice (some ⟨gl,off,none⟩) m.length ca] 26);clear hup;go_wp2_with fail;clear hW1 hbk1;refine (C1.out _).mono ?_;rintro e w2 ⟨rfl,hb⟩;have HX1_1:=uH hb HX1_1;have HB:=mH HB hb;clear hb;obtain ⟨W3,bk7,hW3,hbk7,HX7_2,HB,HG7_2,hup⟩:=boxR HB HN0 z0;have HL7_2:=(hup _ _ HX1_1).2;have HX1_1:=(hup _ _ HX1_1).1
 clear hup
 go_upto_region 2 with fail
 clear hW3 hbk7
 go_cut [8,9,10,11,12] (fun s8 s9 s10 s11 s12 wx=>s11=.int .i64 ((m.length-1:Nat):Int)∧s12=.int .i64 0∧W3=wx)
 case first =>
  have hl1:=HL1.out.1;have hl2:=HL1.out.2;have k3:W3.cell? ⟨bk1,3,none⟩=some (.slice (some ⟨gl,off,none⟩) m.length ca):=by rw [Lib.cell_of_heap HX1_1.out];rfl
  go_wp2_with fail
  all_goals (first|(subst h;go_meet;exact ⟨rfl,rfl,rfl⟩)|(go_meet;exact ⟨rfl,rfl,rfl⟩))
 case rest =>
  obtain ⟨rfl,rfl,rfl⟩:=hcut;go_wp2_with fail;have HO:Hid (W3.ownsRow bk7 29 3 (.slice (some ⟨bk7,0,none⟩) 1 1) 1 (cells3 (begs m 1))):=hD (own_lit (by
   have:begs m 1=[rawR z0]:=by unfold begs;rw [show List.range 1=[0] from rfl,List.map_singleton,HZ0.out]
   rw [this];exact HX7_2.out) (by rw [cells3_len,begs_len]) (by decide) (Nat.le_refl _))
  have HLB:Hid (bk1<bk7):=HL7_2;have HNB:Hid (n0≤bk7):=HG7_2;clear HX7_2 HZ0
  go_loopw [3,12] (fun u3 u12 wr=>∃(k:Nat),k≤(m.length-1)∧u12=.int .i64 (k:Int)∧Hid (wr.ownsRow bk7 29 3 u3 (k+1) (cells3 (begs m (k+1))))∧Hid (wr.heap[bk1]? =some (.cells #[.string nm,.int .i64 um,.int .i64 ud,.slice (some ⟨gl,off,none⟩) m.length ca] 26 (0,0)))∧Hid (Below wq.heap.size wq wr)) (fun _ u12 _=>(m.length-1)-(intOf u12).toNat)
  case atStart=>exact ⟨0,by omega,by first|rfl|go_num,HO,HX1_1,HB⟩
  case round =>
   obtain ⟨k,hk,rfl,HO3,HX1_1,HB⟩:=hrel
   by_cases hlt:k<(m.length-1)
   ·have hlt' :(k:Int)<((m.length-1):Int):=by omega
    obtain ⟨j,hj⟩:∃j,k+1=j:=⟨_,rfl⟩;have hjn:j<m.length:=by omega
    have HE:=hD (HAT.out k (by omega));have HE2:=hD (HAT.out j hjn);have hs:=HSC.out;have c1:=fun w=>RatSub_r (IsR.of (hs.frOk j) (hs.frSz j)) (IsR.of (hs.frOk k) (hs.frSz k)) (by decide) (by decide) w
    have hwo:=subR_ok (hs.frOk j) (hs.frOk k);have hwz:=subR_sz (hs.frSz j) (hs.frSz k);have c2:=fun w=>RatMul_r (IsR.of hwo hwz) (IsR.of (hs.rtOk k) ((hs.rtSz k).mono (by decide))) (by decide) (by decide) w
    have hk8:k≤8:=by have:=hs.le;omega
    have c3:=fun w=>RatAdd_r (IsR.of (beg_ok hs k) ((beg_sz hs k).mono (show 8+152*k≤10000 by omega))) (IsR.of (mulR_ok hwo (hs.rtOk k)) ((mulR_sz hwz (hs.rtSz k)).mono (by decide))) (by decide) (by decide) w
    have HBE:Hid (begT m j=addR (begT m k) (mulR (subR (frT m j) (frT m k)) (rtT m k))):=hD (by rw [←hj];rfl);obtain ⟨fr,h1⟩:∃a,frT m k=a:=⟨_,rfl⟩;obtain ⟨fr2,h2⟩:∃a,frT m j=a:=⟨_,rfl⟩;obtain ⟨rt,h3⟩:∃a,rtT m k=a:=⟨_,rfl⟩;obtain ⟨rt2,h8⟩:∃a,rtT m j=a:=⟨_,rfl⟩;rw [h1,h2] at c1;rw [h1,h2,h3] at c2;rw [h1,h2,h3] at c3;rw [h1,h2,h3] at HBE;rw [h1,h3] at HE;rw [h2,h8] at HE2;obtain ⟨wd,h4⟩:∃a,subR fr2 fr=a:=⟨_,rfl⟩;rw [h4] at c1 c2 c3 HBE;obtain ⟨pr,h5⟩:∃a,mulR wd rt=a:=⟨_,rfl⟩;rw [h5] at c2 c3 HBE;obtain ⟨b1,h6⟩:∃a,begT m k=a:=⟨_,rfl⟩;rw [h6] at c3 HBE;obtain ⟨b2,h7⟩:∃a,addR b1 pr=a:=⟨_,rfl⟩;rw [h7] at c3 HBE;have HJ:Hid (IntKind.i64.wrap ((k:Int)+1)=(j:Int)∧(j:Int)<(m.length:Int)∧(k:Int)<(m.length:Int)∧(k:Int)<(k:Int)+1):=hD ⟨by rw [IntWalk.i64_in _ (by omega)];omega,by omega,by omega,by omega⟩;have HBK:Hid (begT m k=b1):=hD h6;have HLT:=hD hlt;have HJK:=hD hj
    have C2:Hid (∀w,Gv 63 #[rtV fr2,rtV fr] w (.agg #[.bool wd.neg,.string (encS wd.num),.string (encS wd.den)])):=hD c1;have C3:Hid (∀w,Gv 62 #[rtV wd,rtV rt] w (.agg #[.bool pr.neg,.string (encS pr.num),.string (encS pr.den)])):=hD c2;have C4:Hid (∀w,Gv 60 #[rtV b1,rtV pr] w (.agg #[.bool b2.neg,.string (encS b2.num),.string (encS b2.den)])):=hD c3;clear c1 c2 c3 hs hwo hwz hk8 h1 h2 h3 h4 h5 h6 h7 h8 hj hjn hlt hk;have HR3_1_1:=hD (own_old HO3.out HLB.out);go_wp2_with fail;clear hlt'
    refine wp_region_box (w0:=wr) (by kernel_rfl) (fun ix v _=>v=Esums_any_5_1 ca m k j gl off fr fr2 wd bk1 ix) 14 15 (.cells #[.bool false,.string ⟨#[]⟩,.string ⟨#[]⟩] 29 (0,0)) (.cells #[.bool wd.neg,.string (encS wd.num),.string (encS wd.den)] 29 (0,0)) (fun t=>(decide (5≤t)&&decide (t<6))||(decide (15≤t)&&decide (t<29))) (by kernel_rfl) (by kernel_rfl) (by kernel_rfl) (by decide) (by decide) (by kernel_rfl) rfl (fun _ _ _ _ _ h=>h) ?_ ?_ ?_ ?_
    ·intro i hi hia his ov_ listed av_ w hR K hK;have ho:=hR.at_;have hi:i<16:=hi;have hii:i=0∨i=1∨i=2∨i=3∨i=4∨i=5∨i=6∨i=7∨i=8∨i=9∨i=10∨i=11∨i=12∨i=13:=by omega
     rcases hii with rfl|rfl|rfl|rfl|rfl|rfl|rfl|rfl|rfl|rfl|rfl|rfl|rfl|rfl
     ·simp at ho;subst ho;have b1:av_.tmps.getD 1 undef=.pointer (some ⟨bk1,0,none⟩):=hR.b 1;refine pSq ?_;go_simp;exact hK _ _ rfl rB
     ·simp at ho;subst ho;have e0:av_.tmps.getD 15 undef=.pointer (some ⟨bk1,3,none⟩):=hR.dep ⟨0,.data⟩ (by simp) rfl (by decide) (by decide);have cx0:w.cell? ⟨bk1,3,none⟩=some (.slice (some ⟨gl,off,none⟩) m.length ca):=by rw [Lib.cell_of_heap (hpU hR.below HX1_1.out)];rfl
      refine pSq ?_;go_simp;exact hK _ _ rfl rB
     ·simp at ho;subst ho;have b4:av_.tmps.getD 4 undef=.int .i64 (k:Int):=hR.b 4;refine pSq ?_;go_simp;exact hK _ _ rfl rB
     ·simp at ho;subst ho;have e2:av_.tmps.getD 17 undef=.int .i64 (k:Int):=hR.dep ⟨2,.data⟩ (by simp) rfl (by decide) (by decide);have hj1:=HJ.out.1;refine pSq ?_;go_simp;exact hK _ _ rfl rB
     ·simp at ho;subst ho;have e1:av_.tmps.getD 16 undef=.slice (some ⟨gl,off,none⟩) m.length ca:=hR.dep ⟨1,.data⟩ (by simp) rfl (by decide) (by decide);have e3:av_.tmps.getD 18 undef=.int .i64 (j:Int):=hR.dep ⟨3,.data⟩ (by simp) rfl (by decide) (by decide);have hj2:=HJ.out.2.1;refine pSq ?_;go_simp;exact hK _ _ rfl rB
     ·simp at ho;subst ho;have e4:av_.tmps.getD 19 undef=.pointer (some ⟨gl,off+j*6,none⟩):=hR.dep ⟨4,.data⟩ (by simp) rfl (by decide) (by decide);refine pSq ?_;go_simp;exact hK _ _ rfl rB
     ·simp at ho;subst ho;have e5:av_.tmps.getD 20 undef=.pointer (some ⟨gl,off+j*6,none⟩):=hR.dep ⟨5,.data⟩ (by simp) rfl (by decide) (by decide);obtain ⟨cx0,cx1,cx2,cx3,cx4,cx5⟩:=HE2.out _ (HB.out.trans (hR.below.mono HB.out.size));refine pSq ?_;go_simp;exact hK _ _ rfl rB
     ·simp at ho;subst ho;have b1:av_.tmps.getD 1 undef=.pointer (some ⟨bk1,0,none⟩):=hR.b 1;refine pSq ?_;go_simp;exact hK _ _ rfl rB
     ·simp at ho;subst ho;have e7:av_.tmps.getD 22 undef=.pointer (some ⟨bk1,3,none⟩):=hR.dep ⟨7,.data⟩ (by simp) rfl (by decide) (by decide);have cx0:w.cell? ⟨bk1,3,none⟩=some (.slice (some ⟨gl,off,none⟩) m.length ca):=by rw [Lib.cell_of_heap (hpU hR.below HX1_1.out)];rfl
      refine pSq ?_;go_simp;exact hK _ _ rfl rB
     ·simp at ho;subst ho;have b4:av_.tmps.getD 4 undef=.int .i64 (k:Int):=hR.b 4;refine pSq ?_;go_simp;exact hK _ _ rfl rB
     ·simp at ho;subst ho;have e8:av_.tmps.getD 23 undef=.slice (some ⟨gl,off,none⟩) m.length ca:=hR.dep ⟨8,.data⟩ (by simp) rfl (by decide) (by decide);have e9:av_.tmps.getD 24 undef=.int .i64 (k:Int):=hR.dep ⟨9,.data⟩ (by simp) rfl (by decide) (by decide);have hj3:=HJ.out.2.2.1;refine pSq ?_;go_simp;exact hK _ _ rfl rB
     ·simp at ho;subst ho;have e10:av_.tmps.getD 25 undef=.pointer (some ⟨gl,off+k*6,none⟩):=hR.dep ⟨10,.data⟩ (by simp) rfl (by decide) (by decide);refine pSq ?_;go_simp;exact hK _ _ rfl rB
     ·simp at ho;subst ho;have e11:av_.tmps.getD 26 undef=.pointer (some ⟨gl,off+k*6,none⟩):=hR.dep ⟨11,.data⟩ (by simp) rfl (by decide) (by decide);obtain ⟨cx0,cx1,cx2,cx3,cx4,cx5⟩:=HE.out _ (HB.out.trans (hR.below.mono HB.out.size));refine pSq ?_;go_simp;exact hK _ _ rfl rB
     ·simp at ho;subst ho;have e6:av_.tmps.getD 21 undef=.agg #[.bool fr2.neg,.string (encS fr2.num),.string (encS fr2.den)]:=hR.dep ⟨6,.data⟩ (by simp) rfl (by decide) (by decide);have e12:av_.tmps.getD 27 undef=.agg #[.bool fr.neg,.string (encS fr.num),.string (encS fr.den)]:=hR.dep ⟨12,.data⟩ (by simp) rfl (by decide) (by decide);refine pSq ?_;go_simp;refine (C2.out w).mono ?_;rintro e w' ⟨rfl,hb⟩;exact hK _ _ (rfl) hb
    ·intro ov_ av_ w ho K hK;simp at ho;subst ho;refine pSq ?_;go_simp;exact hK _ _ _ rfl (Nat.le_refl _) (heap_alloc_new _ _) (rB.alloc (Nat.le_refl _) _)
    ·intro ov_ listed av_ w g hR hv hg hz K hK;have ho:=hR.at_;simp at ho;subst ho;have e14:av_.tmps.getD 5 undef=.pointer (some ⟨g,0,none⟩):=hv;have e13:av_.tmps.getD 28 undef=.agg #[.bool wd.neg,.string (encS wd.num),.string (encS wd.den)]:=hR.dep ⟨13,.data⟩ (by simp) rfl (by decide) (by decide);have cz0:w.cell? ⟨g,0,none⟩=some (.bool false):=by rw [Lib.cell_of_heap hz];rfl
     have fz0:w.frozen? ⟨g,0,none⟩=false:=frz0 hz 0;have cz1:w.cell? ⟨g,1,none⟩=some (.string ⟨#[]⟩):=by rw [Lib.cell_of_heap hz];rfl
     have fz1:w.frozen? ⟨g,1,none⟩=false:=frz0 hz 1;have cz2:w.cell? ⟨g,2,none⟩=some (.string ⟨#[]⟩):=by rw [Lib.cell_of_heap hz];rfl
     have fz2:w.frozen? ⟨g,2,none⟩=false:=frz0 hz 2;refine pSq ?_;go_simp;exact hK _ (by simp [World.setCell,Array.getElem?_modify,hz]) (((rB.setCell (p:=⟨g,0,none⟩) hg (.bool wd.neg)).setCell (p:=⟨g,1,none⟩) hg (.string (encS wd.num))).setCell (p:=⟨g,2,none⟩) hg (.string (encS wd.den)))
    ·intro sv_ w g hS hg0 hge hN hb;have e14:sv_ 5=.pointer (some ⟨g,0,none⟩):=hg0;simp only [over,ovL,Nat.reduceAdd,Nat.reduceLeDiff,Nat.reduceLT];obtain ⟨bk5,hg1⟩:∃b,g=b:=⟨_,rfl⟩;rw [hg1] at e14 hge hN;clear hg1;have HG5_4:Hid (n0≤bk5):=hD (by rw [HN0.out];exact Nat.le_trans HB.out.size hge);have HL5_4:=hD (Nat.lt_of_lt_of_le (Array.getElem?_eq_some_iff.1 HX1_1.out).1 hge);have HX5_4:=hD hN;have hge0:=hge;clear hN hge hg0;have HR3_5_4:=hD (own_ge HO3.out hge0);have HO3:=hD (own_up HO3.out hb);clear hge0;have HX1_1:=uH hb HX1_1;have HB:=mH HB hb;obtain ⟨w4,hw⟩:∃w8,w8=w:=⟨_,rfl⟩;subst hw;rw [e14];clear hS hb e14;go_wp2_with fail;have HLS:=hD (own_lstR (l:=begs m (k+1)) (by rw [begs_len];exact HO3.out) (by rw [begs_len];have:=HLT.out;have:=HSC.out.le;omega))
     have HLO:Hid (∃g3 off3 c3,u3=.slice (some ⟨g3,off3,none⟩) (k+1) c3∧∀W,Below w4.heap.size w4 W→W.cell? ⟨g3,off3+k*3,none⟩=some (.bool b1.neg)∧W.cell? ⟨g3,off3+k*3+1,none⟩=some (.string (encS b1.num))∧W.cell? ⟨g3,off3+k*3+2,none⟩=some (.string (encS b1.den))):=hD (by
      have h:=begs_at HLS.out (k:=k) (by omega)
      rwa [HBK.out] at h)
     obtain ⟨g3,off3,c3_,hs3,hat3⟩:=HLO.out;subst hs3;have HE3:=hD hat3;clear HLO HLS hat3;refine wpTl (w:=w4) (by kernel_rfl) (Ssums_any_6_2 ca m k gl off rt wd pr b1 b2 g3 off3 c3_ bk1 w4.heap.size) 15 (fun t=>(decide (29≤t)&&decide (t<44))) (by decide) (by kernel_rfl) (by kernel_rfl) (by kernel_rfl) (by kernel_rfl) (by kernel_rfl) (Ssums_any_6_2_up ca m k gl off rt wd pr b1 b2 g3 off3 c3_ bk1 w4.heap.size) ?_ ?_
     ·intro i hi ov_ listed av_ w hR K hK;have ho:=hR.at_;have hi:i<15:=hi;have hii:i=0∨i=1∨i=2∨i=3∨i=4∨i=5∨i=6∨i=7∨i=8∨i=9∨i=10∨i=11∨i=12∨i=13∨i=14:=by omega
      rcases hii with rfl|rfl|rfl|rfl|rfl|rfl|rfl|rfl|rfl|rfl|rfl|rfl|rfl|rfl|rfl<;>(simp at ho;subst ho)
      ·have b3:av_.tmps.getD 3 undef=.slice (some ⟨g3,off3,none⟩) (k+1) c3_:=hR.early (j:=16) (by kernel_rfl) rfl ⟨0,.phase⟩ (by simp) rfl rfl;refine pSq ?_;go_simp;exact hK _ _ rfl rB
      ·have b3:av_.tmps.getD 3 undef=.slice (some ⟨g3,off3,none⟩) (k+1) c3_:=hR.early (j:=16) (by kernel_rfl) rfl ⟨1,.phase⟩ (by simp) rfl rfl;refine pSq ?_;go_simp;exact hK _ _ rfl rB
      ·have b4:av_.tmps.getD 4 undef=.int .i64 (k:Int):=hR.b 4;refine pSq ?_;go_simp;exact hK _ _ rfl rB
      ·have e1:av_.tmps.getD 30 undef=.slice (some ⟨g3,off3,none⟩) (k+1) c3_:=hR.t 1;have e2:av_.tmps.getD 31 undef=.int .i64 (k:Int):=hR.t 2;have hj4:=HJ.out.2.2.2;refine pSq ?_;go_simp;exact hK _ _ rfl rB
      ·have e3:av_.tmps.getD 32 undef=.pointer (some ⟨g3,off3+k*3,none⟩):=hR.t 3;obtain ⟨cx0,cx1,cx2⟩:=HE3.out _ hR.below;refine pSq ?_;go_simp;exact hK _ _ rfl rB
      ·have b5:av_.tmps.getD 5 undef=.pointer (some ⟨bk5,0,none⟩):=hR.b 5;obtain ⟨cx0,cx1,cx2⟩:=c3 (uH hR.below HX5_4);refine pSq ?_;go_simp;exact hK _ _ rfl rB
      ·have b1:av_.tmps.getD 1 undef=.pointer (some ⟨bk1,0,none⟩):=hR.b 1;refine pSq ?_;go_simp;exact hK _ _ rfl rB
      ·have e6:av_.tmps.getD 35 undef=.pointer (some ⟨bk1,3,none⟩):=hR.t 6;have cx0:w.cell? ⟨bk1,3,none⟩=some (.slice (some ⟨gl,off,none⟩) m.length ca):=by rw [Lib.cell_of_heap (hpU hR.below HX1_1.out)];rfl
       refine pSq ?_;go_simp;exact hK _ _ rfl rB
      ·have b4:av_.tmps.getD 4 undef=.int .i64 (k:Int):=hR.b 4;refine pSq ?_;go_simp;exact hK _ _ rfl rB
      ·have e7:av_.tmps.getD 36 undef=.slice (some ⟨gl,off,none⟩) m.length ca:=hR.t 7;have e8:av_.tmps.getD 37 undef=.int .i64 (k:Int):=hR.t 8;have hj3:=HJ.out.2.2.1;refine pSq ?_;go_simp;exact hK _ _ rfl rB
      ·have e9:av_.tmps.getD 38 undef=.pointer (some ⟨gl,off+k*6,none⟩):=hR.t 9;refine pSq ?_;go_simp;exact hK _ _ rfl rB
      ·have e10:av_.tmps.getD 39 undef=.pointer (some ⟨gl,off+k*6+3,none⟩):=hR.t 10;obtain ⟨cx0,cx1,cx2,cx3,cx4,cx5⟩:=HE.out _ (HB.out.trans (hR.below.mono HB.out.size));refine pSq ?_;go_simp;exact hK _ _ rfl rB
      ·have e5:av_.tmps.getD 34 undef=.agg #[.bool wd.neg,.string (encS wd.num),.string (encS wd.den)]:=hR.t 5;have e11:av_.tmps.getD 40 undef=.agg #[.bool rt.neg,.string (encS rt.num),.string (encS rt.den)]:=hR.t 11;refine pSq ?_;go_simp;refine (C3.out w).mono ?_;rintro e w' ⟨rfl,hb⟩;exact hK _ _ (rfl) hb
      ·have e4:av_.tmps.getD 33 undef=.agg #[.bool b1.neg,.string (encS b1.num),.string (encS b1.den)]:=hR.t 4;have e12:av_.tmps.getD 41 undef=.agg #[.bool pr.neg,.string (encS pr.num),.string (encS pr.den)]:=hR.t 12;refine pSq ?_;go_simp;refine (C4.out w).mono ?_;rintro e w' ⟨rfl,hb⟩;exact hK _ _ (rfl) hb
      ·have e13:av_.tmps.getD 42 undef=.agg #[.bool b2.neg,.string (encS b2.num),.string (encS b2.den)]:=hR.t 13;have g13:=e13;rw [Array.getD_eq_getD_getElem?] at g13;refine pSq ?_;go_simp;exact hK _ _ (⟨_,rfl,hR.below.size,heap_alloc_new _ _⟩) (rB.alloc (Nat.le_refl _) _)
     ·intro sv_ w hS hb;have e0:sv_ 29=.slice (some ⟨g3,off3,none⟩) (k+1) c3_:=hS 0 (by decide);have e14:=hS 14 (by decide);simp only [over,ovL,Nat.reduceAdd,Nat.reduceLeDiff,Nat.reduceLT];obtain ⟨bk43,e14b,hg,hN⟩:∃g,sv_ 43=.slice (some ⟨g,0,none⟩) 1 1∧w4.heap.size≤g∧w.heap[g]? =some (.cells #[.bool b2.neg,.string (encS b2.num),.string (encS b2.den)] 29 (0,0)):=e14;have HG43_5:Hid (n0≤bk43):=hD (by rw [HN0.out];exact Nat.le_trans HB.out.size hg);have HL43_5:=hD (Nat.lt_of_lt_of_le (Array.getElem?_eq_some_iff.1 HX5_4.out).1 hg);have HX43_5:=hD hN;clear hN hg
      try clear e14
      have e14:=e14b;clear e14b;have HX1_1:=uH hb HX1_1;have HX5_4:=uH hb HX5_4;have HO3:=hD (own_up HO3.out hb);have HB:=mH HB hb;obtain ⟨w5,hw⟩:∃w8,w8=w:=⟨_,rfl⟩;subst hw;rw [e0,e14];clear hS hb e0 e14;obtain ⟨v6,w6,hrun6,hO,hkp,hbl⟩:=app_rat HO3.out HX43_5.out (one3 _ _ _) (.inr (by omega)) (by have:=HLT.out;have:=HSC.out.le;omega);have HX1_1:=hkp _ _ HLB HX1_1;have HB:=hbl _ _ (by have:=HNB.out;have:=HN0.out;omega) HB;have HO3:=hD hO;clear hO hkp hbl;refine tail_step (n:=1) rfl rfl ?_;refine wp_append_run (.tmp 29) (.tmp 43) 54 rfl _ _ _ _ rfl rfl hrun6 ?_;go_simp;refine tail_step (n:=0) rfl rfl ?_;go_simp;clear hrun6;simp only [wpTail];have hwi:IntKind.i64.wrap ((k:Int)+1)=((k+1:Nat):Int):=by rw [HJ.out.1, ←HJK.out]
      go_wp2_with fail;clear hwi
      go_roundw
      case rel=>exact ⟨k+1,by have:=HLT.out;omega,by first|rfl|go_num,hD (by rw [begs_s,cells3_append,show begT m (k+1)=b2 from by rw [HJK.out];exact HBE.out];exact HO3.out),HX1_1,HB⟩
      case measure=>have:=HLT.out;simp [intOf];omega
   ·have hge:¬(k:Int)<((m.length-1):Int):=by omega
    have HLR:Hid (LstR wr u3 (begs m m.length)):=hD (own_lstR (by rw [begs_len];have h:=HO3.out;have:=HSC.out.pos;rwa [show k+1=m.length by omega] at h) (by rw [begs_len];exact HLA.out));go_wp2_with fail;clear hge;go_ret;exact ⟨_,rfl,HLR.out,by rw [HN0.out];exact HB.out⟩
end Go.Proofs.YtblgfmjlajhipaaGreatDoor
