/- Package nat: Montgomery's power (pow). Each theorem names its conditions. -/
import Derived.Test.YtakbkbmjeanboaaGreatDoorMonB
import Derived.Test.YtakbkbmjeanboaaGreatDoorPowB
import Derived.Test.YtakbkbmjeanboaaGreatDoorRgb
namespace Go.Proofs.YtakbkbmjeanboaaGreatDoor
open Go.RowKit Go.Shelf
open Dgt
set_option linter.unusedVariables false
attribute [local go_sem] Oper.semAt_some

/-- v reads as k digits whose number is V -/
def LimN (W : World) (v : Value) (k V : Nat) : Prop := ∃ l, Lim W v l ∧ l.length = k ∧ valB 4294967296 l = V
theorem LimN.up {A W : World} {v : Value} {k V : Nat} (h : LimN A v k V) (hb : Below A.heap.size A W) : LimN W v k V := by
  obtain ⟨l, h1, h2⟩ := h; exact ⟨l, h1.up hb, h2⟩
theorem LimN.box {W : World} {v : Value} {k V b0 : Nat} {p : Option Addr} {n c : Nat} {t : TypeId} (hz : W.heap[b0]? = some (.cells #[.slice p n c] t (0, 0))) (h : LimN W v k V) (u : Value) : LimN (W.setCell ⟨b0, 0, none⟩ u) v k V := by
  obtain ⟨l, h1, h2⟩ := h; exact ⟨l, h1.box hz u, h2⟩
theorem LimN.put {W : World} {v : Value} {k V b0 : Nat} {L : Loop} (h : LimN W v k V) (hl : W.heap[b0]? = some (.loop L)) (o : Obj) : LimN (W.putObj b0 o) v k V := by
  obtain ⟨l, h1, h2⟩ := h; exact ⟨l, h1.put hl o, h2⟩
theorem LimN.putd {W : World} {v : Value} {k V b0 : Nat} {x : Option (List Deferred)} (h : LimN W v k V) (hl : W.heap[b0]? = some (.deferred x)) (o : Obj) : LimN (W.putObj b0 o) v k V := by
  obtain ⟨l, h1, h2⟩ := h
  refine ⟨l, ?_, h2⟩
  obtain ⟨h1, q, cap, rfl, h2, h3, h4⟩ := h1
  refine ⟨h1, q, cap, rfl, h2, h3, fun i hi => ?_⟩
  obtain ⟨g, off, rfl, hg, hc⟩ := h4 i hi
  have hne : g ≠ b0 := by
    rintro rfl
    simp [World.cell?, hl] at hc
  exact ⟨g, off, rfl, by rw [World.putObj_size]; exact hg, by rw [World.cell?_of_block (w := W) (heap_put_other hne)]; exact hc⟩
theorem LimN.open_ {W : World} {v : Value} {k V : Nat} (h : LimN W v k V) : ∃ p n c, v = .slice p n c := by
  obtain ⟨l, h1, -⟩ := h; obtain ⟨p, n, c, e, -⟩ := h1.open_; exact ⟨p, n, c, e⟩
def SO1 (od va : Value) (k V1 VA : Nat) (j : Nat) (v : Value) (w : World) : Prop :=
  match j with
  | 0 => v = od
  | 1 => Lim w v [1]
  | 2 => LimN w v k V1
  | 3 => v = od
  | 4 => v = va
  | 5 => LimN w v k VA
  | _ => True
theorem SO1_up (od va : Value) (k V1 VA : Nat) (j : Nat) (v : Value) (w w' : World) (hb : Below w.heap.size w w') (h : SO1 od va k V1 VA j v w) : SO1 od va k V1 VA j v w' := by
  unfold SO1 at h ⊢
  split at h
  · exact h
  · exact h.up hb
  · exact h.up hb
  · exact h
  · exact h
  · exact h.up hb
  · trivial
theorem SO1_box (od va : Value) (k V1 VA : Nat) {p : Option Addr} {n c : Nat} (t : TypeId) (b0 j : Nat) (v : Value) (w : World) (u : Value) (hz : w.heap[b0]? = some (.cells #[.slice p n c] t (0, 0))) (h : SO1 od va k V1 VA j v w) : SO1 od va k V1 VA j v (w.setCell ⟨b0, 0, none⟩ u) := by
  unfold SO1 at h ⊢
  split at h
  · exact h
  · exact h.box hz u
  · exact h.box hz u
  · exact h
  · exact h
  · exact h.box hz u
  · trivial
def SO7 (od v0 : Value) (k V : Nat) (j : Nat) (v : Value) (w : World) : Prop :=
  match j with
  | 0 => v = od
  | 1 => v = v0
  | 2 => v = od
  | 3 => Lim w v [1]
  | 4 => LimN w v k 1
  | 5 => LimN w v k V
  | 6 => LimN w v k V
  | _ => True
theorem SO7_up (od v0 : Value) (k V : Nat) (j : Nat) (v : Value) (w w' : World) (hb : Below w.heap.size w w') (h : SO7 od v0 k V j v w) : SO7 od v0 k V j v w' := by
  unfold SO7 at h ⊢
  split at h
  · exact h
  · exact h
  · exact h
  · exact h.up hb
  · exact h.up hb
  · exact h.up hb
  · exact h.up hb
  · trivial
/-- what stands at the head of each round -/
def MonI (w : World) (bo b7 b8 Bn : Nat) (od vm u ve : Value) (om : Value) (k A E M K R : Nat) (pre : List Bool) (W : World) : Prop :=
  ∃ v, W.heap[bo]? = some (.cells #[vm, om] 70 (0, 0)) ∧ W.heap[b7]? = some (.cells #[v] 61 (0, 0)) ∧ W.heap[b8]? = some (.cells #[u] 61 (0, 0)) ∧ W.heap[Bn]? = some (.cells #[ve] 61 (0, 0)) ∧
    Lim W vm (digs 4294967296 M) ∧ LimN W u k (A * R % M) ∧ Lim W ve (digs 4294967296 E) ∧ LimN W v k (A ^ (E / 2 ^ (K - pre.length)) * R % M) ∧ Below w.heap.size w W
theorem MonI_up {w : World} {bo b7 b8 Bn : Nat} {od vm u ve om : Value} {k A E M K R : Nat} (pre : List Bool) (X Y : World) (hb : Below X.heap.size X Y) (h : MonI w bo b7 b8 Bn od vm u ve om k A E M K R pre X) : MonI w bo b7 b8 Bn od vm u ve om k A E M K R pre Y := by
  obtain ⟨v, h1, h2, h3, h4, h5, h6, h7, h8, h9⟩ := h
  exact ⟨v, heap_up hb h1, heap_up hb h2, heap_up hb h3, heap_up hb h4, h5.up hb, h6.up hb, h7.up hb, h8.up hb, h9.trans (hb.mono h9.size)⟩
theorem MonI_put {w : World} {bo b7 b8 Bn : Nat} {od vm u ve om : Value} {k A E M K R : Nat} {l : Nat} (hwl : w.heap.size ≤ l) (pre : List Bool) (X : World) (L L' : Loop) (hl : X.heap[l]? = some (.loop L)) (h : MonI w bo b7 b8 Bn od vm u ve om k A E M K R pre X) : MonI w bo b7 b8 Bn od vm u ve om k A E M K R pre (X.putObj l (.loop L')) := by
  obtain ⟨v, h1, h2, h3, h4, h5, h6, h7, h8, h9⟩ := h
  exact ⟨v, cells_put hl h1, cells_put hl h2, cells_put hl h3, cells_put hl h4, h5.put hl _, h6.put hl _, h7.put hl _, h8.put hl _, h9.trans (belowK_b (w := w) (Nat.le_refl _) X l _ _ hwl hl rfl rfl)⟩
/-- mul, on numbers in Montgomery's form -/
theorem mul_n (va vb vm : Value) (X Y M minus m0 k : Nat) (w : World) (ha : LimN w va k X) (hb : LimN w vb k Y) (hm : Lim w vm (digs 4294967296 M)) (hk : (digs 4294967296 M).length = k) (hk0 : 0 < k) (hk9 : k ≤ 100000000)
    (hX : X < M) (hminus : minus < 4294967296) (hm0 : (digs 4294967296 M)[0]? = some m0) (hmi : (minus * m0 + 1) % 4294967296 = 0) :
    Calls Tryz.prog 76 #[.agg #[vm, .int .u32 (minus : Int)], va, vb] w fun e w' => ∃ v L, e = .returned v ∧ LimN w' v k L ∧ L < M ∧ L * 4294967296 ^ k % M = X * Y % M ∧ Below w.heap.size w w' := by
  obtain ⟨la, ha1, ha2, rfl⟩ := ha
  obtain ⟨lb, hb1, hb2, rfl⟩ := hb
  refine (mul_any va vb vm la lb M minus m0 k w ha1 hb1 hm hk hk0 hk9 ha2 hb2 hX hminus hm0 hmi).mono ?_
  rintro e w' ⟨v, lr, rfl, h1, h2, h3, h4, h5⟩
  exact ⟨v, _, rfl, ⟨lr, h1, h2, rfl⟩, h3, h4, h5⟩
set_option maxHeartbeats 8000000 in
set_option maxRecDepth 100000 in
theorem pow_any (vm va ve : Value) (la : List Nat) (E M minus m0 k : Nat) (w : World) (ha : Lim w va la) (he : Lim w ve (digs 4294967296 E)) (hm : Lim w vm (digs 4294967296 M)) (hk : (digs 4294967296 M).length = k) (hk0 : 0 < k) (hk9 : k ≤ 100000000) (hla : la.length ≤ k) (hE9 : (digs 4294967296 E).length ≤ 100000000)
    (hM1 : 1 < M) (hodd : M % 2 = 1) (hminus : minus < 4294967296) (hm0 : (digs 4294967296 M)[0]? = some m0) (hmi : (minus * m0 + 1) % 4294967296 = 0) :
    Calls Tryz.prog 54 #[.agg #[vm, .int .u32 (minus : Int)], va, ve] w fun e w' => ∃ v, e = .returned v ∧ LimN w' v k (valB 4294967296 la ^ E % M) ∧ Below w.heap.size w w' := by
  obtain ⟨A, hA⟩ : ∃ A, valB 4294967296 la = A := ⟨_, rfl⟩
  obtain ⟨R, hR⟩ : ∃ R, 4294967296 ^ k = R := ⟨_, rfl⟩
  obtain ⟨pm, nm, cm, rfl, -⟩ := hm.open_
  obtain ⟨pa, na, ca, rfl, -⟩ := ha.open_
  obtain ⟨pe, ne, ce, rfl, -⟩ := he.open_
  have HMOD := Lib.hid (fun (va vb : Value) (X Y : Nat) (w : World) (h1 : LimN w va k X) (h2 : LimN w vb k Y) (h3 : Lim w (.slice pm nm cm) (digs 4294967296 M)) (h4 : X < M) => mul_n va vb (.slice pm nm cm) X Y M minus m0 k w h1 h2 h3 hk hk0 hk9 h4 hminus hm0 hmi)
  have HSH := Lib.hid (fun (v : Value) (l : List Nat) (w : World) (h1 : Lim w (.slice pm nm cm) (digs 4294967296 M)) (h2 : Lim w v l) (h3 : l.length ≤ k) => shifted_any (.slice pm nm cm) v l M minus k w h1 h2 hk h3 hk9 (by omega))
  have HFU := Lib.hid (fun (v : Value) (l : List Nat) (w : World) (h1 : Lim w (.slice pm nm cm) (digs 4294967296 M)) (h2 : Lim w v l) (h3 : l.length ≤ k) => full_any (.slice pm nm cm) v l (digs 4294967296 M) minus k w h1 h2 hk h3 hk9)
  have HCP := Lib.hid (hR ▸ cop_pow hodd k : Nat.Coprime M R)
  have HA := Lib.hid ha; have HE := Lib.hid he; have HM := Lib.hid hm; have HK0 := Lib.hid hk0; have HM1 := Lib.hid hM1; have HLA := Lib.hid hla; have HAV := Lib.hid hA; have HRV := Lib.hid hR; have HE9 := Lib.hid hE9; have HODD := Lib.hid hodd
  rw [hA]
  clear ha he hm hk hk0 hk9 hla hE9 hM1 hodd hminus hm0 hmi hA hR
  refine callsIn_wide (n := 0) |>.1 ?_
  refine callsIn_of_wp_marks Tryz.func54 rfl trivial ?_
  simp only [Tryz.ntmps54, List.size_toArray, List.length_cons, List.length_nil, Nat.reduceAdd, Nat.reduceSub, Array.replicate_succ, Array.replicate_zero, List.push_toArray, List.append_toArray, List.nil_append, List.cons_append]
  gi_wp2_with fail
  obtain ⟨W1, hW1⟩ : ∃ W1, w.alloc (.cells #[.slice pm nm cm, .int .u32 (minus : Int)] 70) = W1 := ⟨_, rfl⟩
  obtain ⟨bo, hbo⟩ : ∃ b, w.heap.size = b := ⟨_, rfl⟩
  have hb1 : Below w.heap.size w W1 := by rw [← hW1]; exact (Below.refl _ w).alloc (Nat.le_refl _) _
  have hB1 : W1.heap[bo]? = some (.cells #[.slice pm nm cm, .int .u32 (minus : Int)] 70 (0, 0)) := by rw [← hW1, ← hbo]; exact heap_alloc_new w _
  have hs1 : W1.heap.size = bo + 1 := by rw [← hW1, ← hbo]; simp
  simp only [hW1, hbo]
  have HB1 := Lib.hid hb1; have HBO := Lib.hid hB1; have HS1 := Lib.hid hs1; have HWO := Lib.hid hbo
  have HBC : Hid (∀ W', Below W1.heap.size W1 W' → W'.cell? ⟨bo, 0, none⟩ = some (.slice pm nm cm) ∧ W'.cell? ⟨bo, 1, none⟩ = some (.int .u32 (minus : Int))) := Lib.hid fun W' h => by
    have := heap_up h hB1
    exact ⟨by rw [Lib.cell_of_heap this]; rfl, by rw [Lib.cell_of_heap this]; rfl⟩
  have HAW := Lib.hid (HA.out.up hb1); have HMW := Lib.hid (HM.out.up hb1); have HEW := Lib.hid (HE.out.up hb1)
  clear hW1 hb1 hB1 hs1 hbo
  refine wpIn_region_box2 (w := W1) (by kernel_rfl) (SO1 (.agg #[.slice pm nm cm, .int .u32 (minus : Int)]) (.slice pa na ca) k (1 * R % M) (A * R % M)) (fun v w => LimN w v k (1 * R % M)) (fun v w => LimN w v k (A * R % M)) 6 7 8 (.slice none 0 0) 61 (fun t => (decide (10 ≤ t) && decide (t < 16)) || (decide (7 ≤ t) && decide (t < 9))) (by kernel_rfl) (by kernel_rfl) (by kernel_rfl) (by kernel_rfl) (by kernel_rfl) rfl (by decide) (by decide) (by decide) 7 8 rfl rfl
    (SO1_up _ _ _ _ _) (fun v w w' hb h => h.up hb) (fun v w w' hb h => h.up hb) (fun b0 j v w u hz h => SO1_box _ _ _ _ _ _ b0 j v w u hz h) (fun b0 v w u hz h => h.box hz u) (fun b0 v w u hz h => h.box hz u) ?_ ?_ ?_ ?_ ?_
  · intro i hi hi1 hi2 o listed a' w' hR K hK
    have ho := hR.at_
    have hii : i = 0 ∨ i = 1 ∨ i = 2 ∨ i = 3 ∨ i = 4 ∨ i = 5 := by omega
    obtain ⟨c0, c1⟩ := HBC.out _ hR.below
    have HBL := Lib.hid hR.below
    clear hi hi1 hi2
    rcases hii with rfl | rfl | rfl | rfl | rfl | rfl
    · simp at ho
      subst ho
      have b3 : a'.tmps.getD 3 undef = .pointer (some ⟨bo, 0, none⟩) := hR.base 3 (by kernel_rfl)
      refine plain_stepI rfl rfl ?_
      go_simp
      exact hK _ _ rfl (Below.refl _ _)
    · simp at ho
      subst ho
      refine plain_stepI rfl rfl ?_
      go_simp
      exact hK _ _ (lim_one w' (r := 1) (by decide)) ((Below.refl _ _).alloc (Nat.le_refl _) _)
    · simp at ho
      subst ho
      have e0 : a'.tmps.getD 10 undef = .agg #[.slice pm nm cm, .int .u32 (minus : Int)] := hR.dep ⟨0, .data⟩ (by simp) rfl (by decide) (by decide) (by decide)
      have e1 : Lim w' (a'.tmps.getD 11 undef) [1] := hR.dep ⟨1, .data⟩ (by simp) rfl (by decide) (by decide) (by decide)
      obtain ⟨v1, hv1⟩ : ∃ v1, a'.tmps.getD 11 undef = v1 := ⟨_, rfl⟩
      rw [hv1] at e1
      refine plain_stepI rfl rfl ?_
      go_simp
      refine ⟨trivial, rfl, ?_⟩
      refine (callsIn_wide.2 (HSH.out v1 [1] w' (HMW.out.up HBL.out) e1 HK0.out)).mono ?_
      rintro r w2 ⟨v2, lr, rfl, h2, h3, h4, hb⟩
      rw [HRV.out, valB_one] at h4
      exact hK _ _ ⟨lr, h2, h3, h4⟩ hb
    · simp at ho
      subst ho
      have b3 : a'.tmps.getD 3 undef = .pointer (some ⟨bo, 0, none⟩) := hR.base 3 (by kernel_rfl)
      refine plain_stepI rfl rfl ?_
      go_simp
      exact hK _ _ rfl (Below.refl _ _)
    · simp at ho
      subst ho
      have b1 : a'.tmps.getD 1 undef = .slice pa na ca := hR.base 1 (by kernel_rfl)
      refine plain_stepI rfl rfl ?_
      go_simp
      exact hK _ _ rfl (Below.refl _ _)
    · simp at ho
      subst ho
      have e0 : a'.tmps.getD 13 undef = .agg #[.slice pm nm cm, .int .u32 (minus : Int)] := hR.dep ⟨3, .data⟩ (by simp) rfl (by decide) (by decide) (by decide)
      have e1 : a'.tmps.getD 14 undef = .slice pa na ca := hR.dep ⟨4, .data⟩ (by simp) rfl (by decide) (by decide) (by decide)
      refine plain_stepI rfl rfl ?_
      go_simp
      refine ⟨trivial, rfl, ?_⟩
      refine (callsIn_wide.2 (HSH.out _ la w' (HMW.out.up HBL.out) (HAW.out.up HBL.out) HLA.out)).mono ?_
      rintro r w2 ⟨v2, lr, rfl, h2, h3, h4, hb⟩
      rw [HRV.out, HAV.out] at h4
      exact hK _ _ ⟨lr, h2, h3, h4⟩ hb
  · rintro i (rfl | rfl) o a' w' ho K hK
    all_goals
      simp at ho
      subst ho
      refine plain_stepI rfl rfl ?_
      go_simp
      exact hK
  · intro b0 o listed a' w' hR hda hz K hK
    have ho := hR.at_
    simp at ho
    subst ho
    have e6 : LimN w' (a'.tmps.getD 12 undef) k (1 * R % M) := hR.dep ⟨2, .data⟩ (by simp) rfl (by decide) (by decide) (by decide)
    have c0 := (box_cell hz).1
    have z0 := (box_cell hz).2
    obtain ⟨v1, hv1⟩ : ∃ v1, a'.tmps.getD 12 undef = v1 := ⟨_, rfl⟩
    rw [hv1] at e6
    obtain ⟨p1, n1, d1, rfl⟩ := e6.open_
    refine plain_stepI rfl rfl ?_
    go_simp
    exact hK _ e6
  · intro b0 o listed a' w' hR hda hz K hK
    have ho := hR.at_
    simp at ho
    subst ho
    have e6 : LimN w' (a'.tmps.getD 15 undef) k (A * R % M) := hR.dep ⟨5, .data⟩ (by simp) rfl (by decide) (by decide) (by decide)
    have c0 := (box_cell hz).1
    have z0 := (box_cell hz).2
    obtain ⟨v1, hv1⟩ : ∃ v1, a'.tmps.getD 15 undef = v1 := ⟨_, rfl⟩
    rw [hv1] at e6
    obtain ⟨p1, n1, d1, rfl⟩ := e6.open_
    refine plain_stepI rfl rfl ?_
    go_simp
    exact hK _ e6
  · intro s b7 b8 u1 u2 W2 hb2 hg7 hg8 hne e7 e8 h7 h8 hu7 hu8
    simp only [over, Nat.zero_add, Nat.reduceAdd, Nat.reduceLeDiff, Nat.reduceLT, decide_true, decide_false, Bool.and_true, Bool.and_false, Bool.or_false, Bool.or_true, cond_true, cond_false]
    rw [e7, e8]
    have HBB2 := Lib.hid (HB1.out.trans (hb2.mono HB1.out.size))
    have HE2 := Lib.hid (HEW.out.up hb2); have HM2 := Lib.hid (HMW.out.up hb2); have HBO2 := Lib.hid (heap_up hb2 HBO.out)
    have H7 := Lib.hid h7; have H8 := Lib.hid h8; have HU7 := Lib.hid hu7; have HU8 := Lib.hid hu8; have HNE := Lib.hid hne; have HG7 := Lib.hid hg7; have HG8 := Lib.hid hg8
    have HB2S := Lib.hid hb2.size
    clear e7 e8 h7 h8 hu7 hu8 hb2 hne hg7 hg8
    gi_wp2_with fail
    refine ⟨trivial, rfl, ?_⟩
    refine (callsIn_wide.2 (digits_any _ _ ⟨_, _, _, rfl⟩)).mono ?_
    rintro r W5 ⟨rfl, hW5⟩
    have hs5 : W5.heap.size = W2.heap.size + 1 := by rw [hW5]; simp
    have hb5 : Below W2.heap.size W2 W5 := by rw [hW5]; exact (Below.refl _ W2).alloc (Nat.le_refl _) _
    have hbn : W5.heap[W2.heap.size]? = some (.cells #[.slice pe ne ce] 61 (0, 0)) := by rw [hW5]; exact heap_alloc_new W2 _
    clear hW5
    gi_wp2_with fail
    obtain ⟨Bn, hbne⟩ : ∃ Bn, W2.heap.size = Bn := ⟨_, rfl⟩
    rw [hbne] at hbn
    rw [hbne]
    obtain ⟨K, hK⟩ : ∃ K, 32 * (digs 4294967296 E).length = K := ⟨_, rfl⟩
    have hEK : E < 2 ^ K := by
      have := digs_lt (B := 4294967296) (by decide) E
      rw [show (4294967296 : Nat) = 2 ^ 32 from by decide, ← Nat.pow_mul] at this
      rw [← hK]; exact this
    have hI0 : MonI w bo b7 b8 Bn (.bool true) (.slice pm nm cm) u2 (.slice pe ne ce) (.int .u32 (minus : Int)) k A E M K R [] W5 := by
      refine ⟨u1, heap_up hb5 HBO2.out, heap_up hb5 H7.out, heap_up hb5 H8.out, hbn, HM2.out.up hb5, HU8.out.up hb5, HE2.out.up hb5, ?_, HBB2.out.trans (hb5.mono HBB2.out.size)⟩
      rw [List.length_nil, Nat.sub_zero, Nat.div_eq_of_lt hEK, Nat.pow_zero]
      exact HU7.out.up hb5
    have hneO : bo ≠ b7 := by have := HG7.out; have := HS1.out; omega
    have h7l : b7 < W2.heap.size := (Array.getElem?_eq_some_iff.1 H7.out).1
    have hneB : Bn ≠ b7 := by omega
    have hw5 : w.heap.size ≤ W5.heap.size + 1 := by have := (HBB2.out.trans (hb5.mono HBB2.out.size)).size; omega
    have HI0 := Lib.hid hI0; have HEK := Lib.hid hEK; have HKK := Lib.hid hK; have HW5 := Lib.hid hw5; have HS5 := Lib.hid hs5; have HBN := Lib.hid hbne; have H7L := Lib.hid h7l
    have HNO := Lib.hid hneO; have HNB := Lib.hid hneB
    clear hI0 hEK hK hw5 hbn hb5 hs5 hbne h7l hneO hneB
    have hdi := digits_iter (.slice pe ne ce) (digs 4294967296 E) Bn (by have := HE9.out; omega)
    rw [valB_digs (by decide), HKK.out] at hdi
    refine wp_rangeP (xs := bitsL E K) (encs := fun b : Bool => #[Value.bool b]) rfl (enters_of Tryz.func78 (by kernel_rfl) rfl) hdi (fun _ => rfl)
      (MonI w bo b7 b8 Bn (.bool true) (.slice pm nm cm) u2 (.slice pe ne ce) (.int .u32 (minus : Int)) k A E M K R) MonI_up (MonI_put HW5.out) (fun pre X h => by obtain ⟨v, h1, h2, h3, h4, h5, h6, h7, h8, h9⟩ := h; exact ⟨h4, h7⟩) HI0.out ?round ?done
    case round =>
      rintro l pre x rest W hxs -
      gi_wp2_with fail
      refine ⟨trivial, ?_⟩
      rintro W' hW' ⟨v, h1, h2, h3, h4, h5, h6, h7, h8, h9⟩
      obtain ⟨hj, hx⟩ := bitsL_split hxs
      obtain ⟨kk, hkk⟩ : ∃ k, K - 1 - pre.length = k := ⟨_, rfl⟩
      have hk1 : K - pre.length = kk + 1 := by omega
      have hk2 : K - (pre ++ [x]).length = kk := by rw [List.length_append, List.length_singleton]; omega
      rw [hkk] at hx
      rw [hk1] at h8
      obtain ⟨pv, nv, cv, rfl⟩ := h8.open_
      obtain ⟨pu, nu, cu, rfl⟩ := h6.open_
      obtain ⟨P0, hP0⟩ : ∃ P0, A ^ (E / 2 ^ (kk + 1)) * R % M = P0 := ⟨_, rfl⟩
      rw [hP0] at h8
      have hPM : P0 < M := by rw [← hP0]; exact Nat.mod_lt _ (by have := HM1.out; omega)
      have c0 : W'.cell? ⟨bo, 0, none⟩ = some (.slice pm nm cm) := by rw [Lib.cell_of_heap h1]; rfl
      have c1 : W'.cell? ⟨bo, 1, none⟩ = some (.int .u32 (minus : Int)) := by rw [Lib.cell_of_heap h1]; rfl
      have c7 := (box_cell h2).1
      have JO := Lib.hid h1; have J7 := Lib.hid h2; have J8 := Lib.hid h3; have JN := Lib.hid h4; have JM := Lib.hid h5; have JU := Lib.hid h6; have JE := Lib.hid h7; have JV := Lib.hid h8; have JB := Lib.hid h9
      have HX := Lib.hid hx; have HKE := Lib.hid hk2; have HP0 := Lib.hid hP0; have HPM := Lib.hid hPM; have HWW := Lib.hid hW'
      clear h1 h2 h3 h4 h5 h6 h7 h8 h9 hx hk1 hk2 hP0 hPM hW' hj hkk
      gi_wp2_with fail
      refine ⟨trivial, rfl, ?_⟩
      refine (CallsIn.inRound l (callsIn_wide.2 (HMOD.out _ _ P0 P0 W' JV.out JV.out JM.out HPM.out))).mono ?_
      rintro r W6 ⟨vx, P1, rfl, hx6, hP1, hQ1, hb6⟩
      obtain ⟨px, nx, cx, rfl⟩ := hx6.open_
      have z7 := heap_up hb6 J7.out
      have f7 := (box_cell z7).2
      have c7 := (box_cell z7).1
      have hb7w : w.heap.size ≤ b7 := by have := HG7.out; have := HS1.out; have := HWO.out; omega
      obtain ⟨W7, hW7⟩ : ∃ W7, W6.setCell ⟨b7, 0, none⟩ (.slice px nx cx) = W7 := ⟨_, rfl⟩
      have KF : Hid (Fr (fun b => b = b7) W' W7) := Lib.hid (by rw [← hW7]; exact (Fr.of_new hb6 (fun b => b = b7)).setCell (p := ⟨b7, 0, none⟩) (.inl rfl) _)
      have KO := Lib.hid (KF.out.heap JO.out HNO.out)
      have K7 : Hid (W7.heap[b7]? = some (.cells #[.slice px nx cx] 61 (0, 0))) := Lib.hid (by rw [← hW7]; exact box_set z7 _)
      have K8 := Lib.hid (KF.out.heap J8.out (Ne.symm HNE.out))
      have KN := Lib.hid (KF.out.heap JN.out HNB.out)
      have KM : Hid (Lim W7 (.slice pm nm cm) (digs 4294967296 M)) := Lib.hid (by rw [← hW7]; exact (JM.out.up hb6).box z7 _)
      have KU : Hid (LimN W7 (.slice pu nu cu) k (A * R % M)) := Lib.hid (by rw [← hW7]; exact (JU.out.up hb6).box z7 _)
      have KE : Hid (Lim W7 (.slice pe ne ce) (digs 4294967296 E)) := Lib.hid (by rw [← hW7]; exact (JE.out.up hb6).box z7 _)
      have KV : Hid (LimN W7 (.slice px nx cx) k P1) := Lib.hid (by rw [← hW7]; exact hx6.box z7 _)
      have KB : Hid (Below w.heap.size w W7) := Lib.hid (by rw [← hW7]; exact (JB.out.trans (hb6.mono JB.out.size)).setCell hb7w _)
      have HP1 := Lib.hid hP1
      have HQ1 : Hid (P1 * R % M = P0 * P0 % M) := Lib.hid (by rw [← HRV.out]; exact hQ1)
      have HZ7 := Lib.hid z7; have HB7W := Lib.hid hb7w
      have hnD : W5.heap.size ≠ b7 := by have := HS5.out; have := H7L.out; omega
      have hnL : W5.heap.size + 1 ≠ b7 := by have := HS5.out; have := H7L.out; omega
      have HND := Lib.hid hnD; have HNL := Lib.hid hnL
      clear hx6 hP1 hQ1 hb6 z7 hb7w c0 c1 hnD hnL
      cases x
      · have hxe : ¬ E / 2 ^ kk % 2 = 1 := by have := HX.out; simpa using this.symm
        have hpe := mont_even (x := A) (n := E) (M := M) (k := kk) (R := R) (L := P1) HCP.out HP1.out hxe (by rw [HP0.out]; exact HQ1.out)
        have HPE := Lib.hid hpe
        clear hpe hxe
        gi_wp2_with fail
        refine ⟨⟨_, KO.out, K7.out, K8.out, KN.out, KM.out, KU.out, KE.out, ?_, KB.out⟩, ?_, ?_⟩
        · rw [HKE.out, ← HPE.out]; exact KV.out
        · exact KF.out.block _ (by have := HWW.out; omega) HND.out
        · exact KF.out.block _ (by have := HWW.out; omega) HNL.out
      · have hxe : E / 2 ^ kk % 2 = 1 := by have := HX.out; simpa using this.symm
        have HXE := Lib.hid hxe
        clear hxe
        have c0 : W7.cell? ⟨bo, 0, none⟩ = some (.slice pm nm cm) := by rw [Lib.cell_of_heap KO.out]; rfl
        have c1 : W7.cell? ⟨bo, 1, none⟩ = some (.int .u32 (minus : Int)) := by rw [Lib.cell_of_heap KO.out]; rfl
        have d7 := (box_cell K7.out).1
        have d8 := (box_cell K8.out).1
        gi_wp2_with fail
        refine ⟨trivial, rfl, ?_⟩
        refine (CallsIn.inRound l (callsIn_wide.2 (HMOD.out _ _ P1 (A * R % M) W7 KV.out KU.out KM.out HP1.out))).mono ?_
        rintro r W8 ⟨vy, P2, rfl, hx8, hP2, hQ2, hb8⟩
        obtain ⟨py, ny, cy, rfl⟩ := hx8.open_
        have z9 := heap_up hb8 K7.out
        have f9 := (box_cell z9).2
        have c9 := (box_cell z9).1
        obtain ⟨W9, hW9⟩ : ∃ W9, W8.setCell ⟨b7, 0, none⟩ (.slice py ny cy) = W9 := ⟨_, rfl⟩
        have NF : Hid (Fr (fun b => b = b7) W7 W9) := Lib.hid (by rw [← hW9]; exact (Fr.of_new hb8 (fun b => b = b7)).setCell (p := ⟨b7, 0, none⟩) (.inl rfl) _)
        have NO := Lib.hid (NF.out.heap KO.out HNO.out)
        have N7 : Hid (W9.heap[b7]? = some (.cells #[.slice py ny cy] 61 (0, 0))) := Lib.hid (by rw [← hW9]; exact box_set z9 _)
        have N8 := Lib.hid (NF.out.heap K8.out (Ne.symm HNE.out))
        have NN := Lib.hid (NF.out.heap KN.out HNB.out)
        have NM : Hid (Lim W9 (.slice pm nm cm) (digs 4294967296 M)) := Lib.hid (by rw [← hW9]; exact (KM.out.up hb8).box z9 _)
        have NU : Hid (LimN W9 (.slice pu nu cu) k (A * R % M)) := Lib.hid (by rw [← hW9]; exact (KU.out.up hb8).box z9 _)
        have NE : Hid (Lim W9 (.slice pe ne ce) (digs 4294967296 E)) := Lib.hid (by rw [← hW9]; exact (KE.out.up hb8).box z9 _)
        have NV : Hid (LimN W9 (.slice py ny cy) k P2) := Lib.hid (by rw [← hW9]; exact hx8.box z9 _)
        have NB : Hid (Below w.heap.size w W9) := Lib.hid (by rw [← hW9]; exact (KB.out.trans (hb8.mono KB.out.size)).setCell HB7W.out _)
        have hpe := mont_odd (x := A) (n := E) (M := M) (k := kk) (R := R) (L := P1) (L2 := P2) HCP.out HP1.out hP2 HXE.out (by rw [HP0.out]; exact HQ1.out) (by rw [← HRV.out, HRV.out]; rw [HRV.out] at hQ2; exact hQ2)
        have HPE := Lib.hid hpe
        have NFF := Lib.hid (KF.out.trans NF.out)
        clear hpe hx8 hP2 hQ2 hb8 z9 c0 c1 d7 d8 hW7
        gi_wp2_with fail
        refine ⟨⟨_, NO.out, N7.out, N8.out, NN.out, NM.out, NU.out, NE.out, ?_, NB.out⟩, ?_, ?_⟩
        · rw [HKE.out, ← HPE.out]; exact NV.out
        · exact NFF.out.block _ (by have := HWW.out; omega) HND.out
        · exact NFF.out.block _ (by have := HWW.out; omega) HNL.out
    case done =>
      rintro W ⟨v, h1, h2, h3, h4, h5, h6, h7, h8, h9⟩ hsz hD
      rw [bitsL_len, Nat.sub_self, Nat.pow_zero, Nat.div_one] at h8
      obtain ⟨pv, nv, cv, rfl⟩ := h8.open_
      have H9 := Lib.hid h9; have HD' := Lib.hid hD; have HV := Lib.hid h8; have HMm := Lib.hid h5; have HO := Lib.hid h1; have HS7 := Lib.hid h2
      have hlt : W5.heap.size < W.heap.size := (Array.getElem?_eq_some_iff.1 hD).1
      clear h1 h2 h3 h4 h5 h6 h7 h8 h9 hD
      gi_wp2_with fail
      refine wpIn_region_vals_d _ (w := W) (by kernel_rfl) (SO7 (.agg #[.slice pm nm cm, .int .u32 (minus : Int)]) (.slice pv nv cv) k (A ^ E % M)) (fun t => (decide (28 ≤ t) && decide (t < 34)) || (decide (6 ≤ t) && decide (t < 7))) (by kernel_rfl) (by kernel_rfl) (by kernel_rfl) (SO7_up _ _ _ _) ?_ ?_
      · intro i hi o listed a' w' hR K hK
        have ho := hR.at_
        have hi : i < 7 := hi
        have hii : i = 0 ∨ i = 1 ∨ i = 2 ∨ i = 3 ∨ i = 4 ∨ i = 5 ∨ i = 6 := by omega
        have HBL := Lib.hid hR.below
        have c0 : w'.cell? ⟨bo, 0, none⟩ = some (.slice pm nm cm) := by rw [Lib.cell_of_heap (heap_up HBL.out HO.out)]; rfl
        have c1 : w'.cell? ⟨bo, 1, none⟩ = some (.int .u32 (minus : Int)) := by rw [Lib.cell_of_heap (heap_up HBL.out HO.out)]; rfl
        have d7 := (box_cell (heap_up HBL.out HS7.out)).1
        clear hi
        rcases hii with rfl | rfl | rfl | rfl | rfl | rfl | rfl
        · simp at ho
          subst ho
          have b3 : a'.tmps.getD 3 undef = .pointer (some ⟨bo, 0, none⟩) := hR.base 3 (by kernel_rfl)
          refine plain_stepI rfl rfl ?_
          go_simp
          exact hK _ _ rfl (Below.refl _ _)
        · simp at ho
          subst ho
          have b3 : a'.tmps.getD 7 undef = .pointer (some ⟨b7, 0, none⟩) := hR.base 7 (by kernel_rfl)
          refine plain_stepI rfl rfl ?_
          go_simp
          exact hK _ _ rfl (Below.refl _ _)
        · simp at ho
          subst ho
          have b3 : a'.tmps.getD 3 undef = .pointer (some ⟨bo, 0, none⟩) := hR.base 3 (by kernel_rfl)
          refine plain_stepI rfl rfl ?_
          go_simp
          exact hK _ _ rfl (Below.refl _ _)
        · simp at ho
          subst ho
          refine plain_stepI rfl rfl ?_
          go_simp
          exact hK _ _ (lim_one w' (r := 1) (by decide)) ((Below.refl _ _).alloc (Nat.le_refl _) _)
        · simp at ho
          subst ho
          have e0 : a'.tmps.getD 30 undef = .agg #[.slice pm nm cm, .int .u32 (minus : Int)] := hR.dep ⟨2, .data⟩ (by simp) rfl
          have e1 : Lim w' (a'.tmps.getD 31 undef) [1] := hR.dep ⟨3, .data⟩ (by simp) rfl
          obtain ⟨v1, hv1⟩ : ∃ v1, a'.tmps.getD 31 undef = v1 := ⟨_, rfl⟩
          rw [hv1] at e1
          refine plain_stepI rfl rfl ?_
          go_simp
          refine ⟨trivial, rfl, ?_⟩
          refine (callsIn_wide.2 (HFU.out v1 [1] w' (HMm.out.up HBL.out) e1 HK0.out)).mono ?_
          rintro r w2 ⟨v2, rfl, h2, hb⟩
          exact hK _ _ ⟨_, h2, by rw [List.length_append, List.length_replicate]; have := HK0.out; simp; omega, by rw [valB_pad, valB_one]⟩ hb
        · simp at ho
          subst ho
          have e0 : a'.tmps.getD 28 undef = .agg #[.slice pm nm cm, .int .u32 (minus : Int)] := hR.dep ⟨0, .data⟩ (by simp) rfl
          have e1 : a'.tmps.getD 29 undef = .slice pv nv cv := hR.dep ⟨1, .data⟩ (by simp) rfl
          have e4 : LimN w' (a'.tmps.getD 32 undef) k 1 := hR.dep ⟨4, .data⟩ (by simp) rfl
          obtain ⟨v1, hv1⟩ : ∃ v1, a'.tmps.getD 32 undef = v1 := ⟨_, rfl⟩
          rw [hv1] at e4
          refine plain_stepI rfl rfl ?_
          go_simp
          refine ⟨trivial, rfl, ?_⟩
          refine (callsIn_wide.2 (HMOD.out _ v1 (A ^ E * R % M) 1 w' (HV.out.up HBL.out) e4 (HMm.out.up HBL.out) (Nat.mod_lt _ (by have := HM1.out; omega)))).mono ?_
          rintro r w2 ⟨v2, L, rfl, h2, hL, hQ, hb⟩
          rw [HRV.out] at hQ
          rw [mont_out HCP.out hL hQ] at h2
          exact hK _ _ h2 hb
        · simp at ho
          subst ho
          have e5 : LimN w' (a'.tmps.getD 33 undef) k (A ^ E % M) := hR.dep ⟨5, .data⟩ (by simp) rfl
          obtain ⟨v1, hv1⟩ : ∃ v1, a'.tmps.getD 33 undef = v1 := ⟨_, rfl⟩
          rw [hv1] at e5
          refine plain_stepI rfl rfl ?_
          go_simp
          exact hK _ _ e5 (Below.refl _ _)
      · intro s W8 hS hb8
        have e6 : LimN W8 (s 6) k (A ^ E % M) := hS 6 (by decide)
        simp only [over, Nat.zero_add, Nat.reduceAdd, Nat.reduceLeDiff, Nat.reduceLT, decide_true, decide_false, Bool.and_true, Bool.and_false, Bool.or_false, Bool.or_true, cond_true, cond_false]
        obtain ⟨u, hu⟩ : ∃ u, s 6 = u := ⟨_, rfl⟩
        rw [hu] at e6 ⊢
        have HU := Lib.hid e6
        have hK8 : Hid (W8.heap[W5.heap.size]? = some (.deferred (some []))) := Lib.hid (block_new hb8 HD'.out)
        have hB8 : Hid (Below w.heap.size w W8) := Lib.hid (H9.out.trans (hb8.mono H9.out.size))
        have hws : w.heap.size ≤ W5.heap.size := by have := HBB2.out.size; have := HS5.out; have := HBN.out; omega
        have HWS := Lib.hid hws
        clear hb8 hS hu e6 hws
        gi_wp2_with fail
        refine ⟨by simp, .inl ⟨_, _, rfl, run_takeDeferred hK8.out, ?_⟩⟩
        refine ⟨_, results_tmp rfl _ _ _, ?_⟩
        have hput := belowK_b (w := w) (Nat.le_refl _) W8 W5.heap.size _ (.deferred none) HWS.out hK8.out rfl rfl
        exact ⟨_, rfl, HU.out.putd hK8.out _, hB8.out.trans hput⟩
end Go.Proofs.YtakbkbmjeanboaaGreatDoor
