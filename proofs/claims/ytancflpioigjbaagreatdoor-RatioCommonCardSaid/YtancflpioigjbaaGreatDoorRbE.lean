/- Reference of ratio: Add, Sub, Cmp. Each theorem names its conditions. -/
import Derived.Test.YtancflpioigjbaaGreatDoorRbD
namespace Go.Proofs.YtancflpioigjbaaGreatDoor
open Go.RowKit Go.Shelf
open Dgt
set_option linter.unusedVariables false

def EWC (ba bb : Nat) (ra rb L : Rt) (X Y D : Nat) (xn : Bool) : Nat → Value
  | 0 => .pointer (some ⟨ba, 0, none⟩)
  | 1 => .bool xn
  | 2 => .string (encS X)
  | 3 => .string (encS Y)
  | 4 => .string (encS (X + Y))
  | 5 => .string (encS D)
  | 6 => .agg #[.bool L.neg, .string (encS L.num), .string (encS L.den)]
  | _ => undef
def SWC (ba bb : Nat) (ra rb L : Rt) (X Y D : Nat) (xn : Bool) (ix : Nat) (v : Value) (w : World) : Prop :=
  match ix with
  | ix => v = EWC ba bb ra rb L X Y D xn ix
theorem SWC_up (ba bb : Nat) (ra rb L : Rt) (X Y D : Nat) (xn : Bool) (ix : Nat) (v : Value) (w w' : World) (hb : Below w.heap.size w w') (h : SWC ba bb ra rb L X Y D xn ix v w) : SWC ba bb ra rb L X Y D xn ix v w' := by
  exact h
set_option maxHeartbeats 1000000 in
set_option maxRecDepth 100000 in
theorem rRatAdd_r {va vb : Value} {ra rb : Rt} {k : Nat} (ha : IsR va ra k) (hb : IsR vb rb k) (hk1 : 1 ≤ k) (hk : k ≤ 400000) (wq : World) :
    Calls Tryz.prog 34 #[va, vb] wq fun e w' => e = .returned (rtV (addR ra rb)) ∧ Below wq.heap.size wq w' := by
  have HVA := Lib.hid (fun w => rvalue_r ha (by omega) w); have HVB := Lib.hid (fun w => rvalue_r hb (by omega) w)
  have za := ha.rz hk1; have zb := hb.rz hk1; have oka := ha.ok; have okb := hb.ok
  have HX := Lib.hid (fun w => rMul_any (encS ra.num) (encS rb.den) w (Nat.le_trans (encS_size_lt za.1) (by omega)) (Nat.le_trans (encS_size_lt zb.2) (by omega)))
  simp only [numS_encS] at HX
  have HY := Lib.hid (fun w => rMul_any (encS rb.num) (encS ra.den) w (Nat.le_trans (encS_size_lt zb.1) (by omega)) (Nat.le_trans (encS_size_lt za.2) (by omega)))
  simp only [numS_encS] at HY
  have HD := Lib.hid (fun w => rMul_any (encS ra.den) (encS rb.den) w (Nat.le_trans (encS_size_lt za.2) (by omega)) (Nat.le_trans (encS_size_lt zb.2) (by omega)))
  simp only [numS_encS] at HD
  have zx := (za.1.mul zb.2).mono (j := 2 * k) (by omega); have zy := (zb.1.mul za.2).mono (j := 2 * k) (by omega); have zd := (za.2.mul zb.2).mono (j := 2 * k) (by omega)
  have hdp := Nat.mul_pos oka.pos okb.pos
  have HE1 : Hid (ra.neg = rb.neg → addR ra rb = low ra.neg (ra.num * rb.den + rb.num * ra.den) (ra.den * rb.den)) := Lib.hid fun h => by unfold addR; rw [if_pos h]
  have HE2 : Hid (¬ ra.neg = rb.neg → rb.num * ra.den ≤ ra.num * rb.den → addR ra rb = low ra.neg (ra.num * rb.den - rb.num * ra.den) (ra.den * rb.den)) := Lib.hid fun h h2 => by unfold addR; rw [if_neg h, if_pos h2]
  have HE3 : Hid (¬ ra.neg = rb.neg → ¬ rb.num * ra.den ≤ ra.num * rb.den → addR ra rb = low rb.neg (rb.num * ra.den - ra.num * rb.den) (ra.den * rb.den)) := Lib.hid fun h h2 => by unfold addR; rw [if_neg h, if_neg h2]
  obtain ⟨Z, hZ⟩ : ∃ Z, addR ra rb = Z := ⟨_, rfl⟩
  obtain ⟨X, hX⟩ : ∃ X, ra.num * rb.den = X := ⟨_, rfl⟩
  obtain ⟨Y, hY⟩ : ∃ Y, rb.num * ra.den = Y := ⟨_, rfl⟩
  obtain ⟨D, hD⟩ : ∃ D, ra.den * rb.den = D := ⟨_, rfl⟩
  obtain ⟨xn, hxn⟩ : ∃ b, ra.neg = b := ⟨_, rfl⟩
  obtain ⟨yn, hyn⟩ : ∃ b, rb.neg = b := ⟨_, rfl⟩
  rw [hX] at HX zx; rw [hY] at HY zy; rw [hD] at HD zd hdp
  simp only [hX, hY, hD, hZ, hxn, hyn] at HE1 HE2 HE3
  rw [hxn] at HVA; rw [hyn] at HVB
  rw [hZ]
  have sx := Nat.le_trans (encS_size_lt zx) (show 2 * k ≤ 1000000 by omega); have sy := Nat.le_trans (encS_size_lt zy) (show 2 * k ≤ 1000000 by omega)
  have HS := Lib.hid (fun w => rAdd_any (encS X) (encS Y) w sx sy)
  have HU := Lib.hid (fun w => rSub_any (encS X) (encS Y) w sx sy)
  have HU2 := Lib.hid (fun w => rSub_any (encS Y) (encS X) w sy sx)
  have HC := Lib.hid (fun w => rCmp_any (encS X) (encS Y) w (Nat.le_trans sx (by decide)) (Nat.le_trans sy (by decide)))
  simp only [numS_encS] at HS HU HU2 HC
  have HLQ := Lib.hid (fun (b : Bool) (N : Nat) (hN : Sz N (2 * k + 1)) w => rlowest_n b N D w hdp (hN.mono (by omega)) (zd.mono (by omega)))
  have ZX : Hid (Sz (X + Y) (2 * k + 1) ∧ Sz (X - Y) (2 * k + 1) ∧ Sz (Y - X) (2 * k + 1)) := Lib.hid ⟨zx.add zy, (zx.sub _).mono (by omega), (zy.sub _).mono (by omega)⟩
  clear zx zy zd hdp hX hY hD hZ hxn hyn sx sy
  obtain ⟨na, sa, da, rfl, -⟩ := ha
  obtain ⟨nb, sb, db, rfl, -⟩ := hb
  clear za zb hk1 hk oka okb
  obtain ⟨W3, hW3, hxa, hxb, hxz, hb3⟩ := boxes3 wq (.cells #[.bool na, .string sa, .string da] 26) (.cells #[.bool nb, .string sb, .string db] 26) (.cells #[.bool false, .string ⟨#[]⟩, .string ⟨#[]⟩] 26)
  obtain ⟨⟨ca0, ca1, ca2⟩, -⟩ := row_cells hxa
  go_enter Tryz.func34, Tryz.ntmps34
  go_wp2_with fail
  obtain ⟨ba, hba⟩ : ∃ b, wq.heap.size = b := ⟨_, rfl⟩
  obtain ⟨bb, hbb⟩ : ∃ b, ba + 1 = b := ⟨_, rfl⟩
  obtain ⟨bz, hbz⟩ : ∃ b, bb + 1 = b := ⟨_, rfl⟩
  rw [hba] at hxa hxb hxz ⊢
  rw [hbb] at hxb hxz ⊢
  rw [hbz] at hxz ⊢
  have HNE : Hid (ba ≠ bb) := Lib.hid (by omega); have HNZA : Hid (bz ≠ ba) := Lib.hid (by omega); have HNZB : Hid (bz ≠ bb) := Lib.hid (by omega)
  refine (HVA.out _).mono ?_
  rintro e w1 ⟨rfl, hb⟩
  have hxa1 := heap_up hb hxa; have hxb1 := heap_up hb hxb; have hxz1 := heap_up hb hxz
  have hbl1 := hb3.trans (hb.mono hb3.size)
  clear hb hb3 hxa hxb hxz ca0 ca1 ca2 hW3
  obtain ⟨⟨ca0, ca1, ca2⟩, hfa⟩ := row_cells hxa1
  have fa0 := hfa 0; have fa1 := hfa 1; have fa2 := hfa 2
  obtain ⟨W4, hW4⟩ : ∃ W4, ((w1.setCell ⟨ba, 0, none⟩ (.bool xn)).setCell ⟨ba, 1, none⟩ (.string (encS ra.num))).setCell ⟨ba, 2, none⟩ (.string (encS ra.den)) = W4 := ⟨_, rfl⟩
  have hxa4 : W4.heap[ba]? = some (.cells #[.bool xn, .string (encS ra.num), .string (encS ra.den)] 26 (0, 0)) := by rw [← hW4]; exact row_set hxa1 _ _ _
  have hxb4 : W4.heap[bb]? = some (.cells #[.bool nb, .string sb, .string db] 26 (0, 0)) := by rw [← hW4]; simpa [World.setCell, Array.getElem?_modify, HNE.out] using hxb1
  have hxz4 : W4.heap[bz]? = some (.cells #[.bool false, .string ⟨#[]⟩, .string ⟨#[]⟩] 26 (0, 0)) := by rw [← hW4]; simpa [World.setCell, Array.getElem?_modify, Ne.symm HNZA.out] using hxz1
  have hbl4 : Below wq.heap.size wq W4 := by rw [← hW4]; exact below_row hbl1 (by omega) _ _ _
  obtain ⟨⟨cb0, cb1, cb2⟩, -⟩ := row_cells hxb4
  have HXA := Lib.hid hxa4; have HXB := Lib.hid hxb4; have HXZ := Lib.hid hxz4; have HB4 := Lib.hid hbl4
  clear hfa hxa1 hxb1 hxz1 hbl1 hxa4 hxb4 hxz4 hbl4
  go_wp2_with fail
  refine (HVB.out _).mono ?_
  rintro e w2 ⟨rfl, hb⟩
  have hxa1 := heap_up hb HXA.out; have hxb1 := heap_up hb HXB.out; have hxz1 := heap_up hb HXZ.out
  have hbl1 := HB4.out.trans (hb.mono HB4.out.size)
  clear hb cb0 cb1 cb2 ca0 ca1 ca2 fa0 fa1 fa2 hW4
  obtain ⟨⟨cb0, cb1, cb2⟩, hfb⟩ := row_cells hxb1
  have fb0 := hfb 0; have fb1 := hfb 1; have fb2 := hfb 2
  obtain ⟨W5, hW5⟩ : ∃ W5, ((w2.setCell ⟨bb, 0, none⟩ (.bool yn)).setCell ⟨bb, 1, none⟩ (.string (encS rb.num))).setCell ⟨bb, 2, none⟩ (.string (encS rb.den)) = W5 := ⟨_, rfl⟩
  have hxb5 : W5.heap[bb]? = some (.cells #[.bool yn, .string (encS rb.num), .string (encS rb.den)] 26 (0, 0)) := by rw [← hW5]; exact row_set hxb1 _ _ _
  have hxa5 : W5.heap[ba]? = some (.cells #[.bool xn, .string (encS ra.num), .string (encS ra.den)] 26 (0, 0)) := by rw [← hW5]; simpa [World.setCell, Array.getElem?_modify, Ne.symm HNE.out] using hxa1
  have hxz5 : W5.heap[bz]? = some (.cells #[.bool false, .string ⟨#[]⟩, .string ⟨#[]⟩] 26 (0, 0)) := by rw [← hW5]; simpa [World.setCell, Array.getElem?_modify, Ne.symm HNZB.out] using hxz1
  have HB5 : Hid (Below wq.heap.size wq W5) := Lib.hid (by rw [← hW5]; exact below_row hbl1 (by omega) _ _ _)
  have HXA := Lib.hid hxa5; have HXB := Lib.hid hxb5; have HXZ := Lib.hid hxz5
  clear hfb hxa1 hxb1 hxz1 hbl1 hxa5 hxz5
  clear hxb5
  obtain ⟨⟨ca0, ca1, ca2⟩, -⟩ := row_cells HXA.out
  obtain ⟨⟨cd0, cd1, cd2⟩, -⟩ := row_cells HXB.out
  go_wp2_with fail
  refine (HX.out _).mono ?_
  rintro e w3 ⟨rfl, hb⟩
  have HXA := Lib.hid (heap_up hb HXA.out); have HXB := Lib.hid (heap_up hb HXB.out); have HXZ := Lib.hid (heap_up hb HXZ.out)
  have HB5 := Lib.hid (HB5.out.trans (hb.mono HB5.out.size))
  clear hb ca0 ca1 ca2 cd0 cd1 cd2 cb0 cb1 cb2 fb0 fb1 fb2 hW5
  obtain ⟨⟨ca0, ca1, ca2⟩, -⟩ := row_cells HXA.out
  obtain ⟨⟨cd0, cd1, cd2⟩, -⟩ := row_cells HXB.out
  go_wp2_with fail
  refine (HY.out _).mono ?_
  rintro e w4 ⟨rfl, hb⟩
  have HXA := Lib.hid (heap_up hb HXA.out); have HXB := Lib.hid (heap_up hb HXB.out); have HXZ := Lib.hid (heap_up hb HXZ.out)
  have HB5 := Lib.hid (HB5.out.trans (hb.mono HB5.out.size))
  clear hb ca0 ca1 ca2 cd0 cd1 cd2
  obtain ⟨⟨ca0, ca1, ca2⟩, -⟩ := row_cells HXA.out
  obtain ⟨⟨cd0, cd1, cd2⟩, -⟩ := row_cells HXB.out
  go_wp2_with fail
  refine (HD.out _).mono ?_
  rintro e w6 ⟨rfl, hb⟩
  have HXA := Lib.hid (heap_up hb HXA.out); have HXB := Lib.hid (heap_up hb HXB.out); have HXZ := Lib.hid (heap_up hb HXZ.out)
  have HB5 := Lib.hid (HB5.out.trans (hb.mono HB5.out.size))
  clear hb ca0 ca1 ca2 cd0 cd1 cd2
  obtain ⟨⟨ca0, ca1, ca2⟩, -⟩ := row_cells HXA.out
  obtain ⟨⟨cd0, cd1, cd2⟩, -⟩ := row_cells HXB.out
  by_cases hxy : xn = yn
  · have hq := HE1.out hxy
    obtain ⟨L, hL⟩ : ∃ L, low xn (X + Y) D = L := ⟨_, rfl⟩
    have HL1 := Lib.hid (HLQ.out xn (X + Y) ZX.out.1)
    rw [hL] at hq HL1
    obtain rfl : L = Z := hq.symm
    clear hL hq
    have HXY := Lib.hid hxy
    have hxy2 : (xn == yn) = true := by rw [hxy]; simp
    clear hxy HE1 HE2 HE3
    go_wp2_with fail
    clear ca0 ca1 ca2 cd0 cd1 cd2
    refine wp_region_tail (w := w6) (by kernel_rfl) (SWC ba bb ra rb L X Y D xn) 7 (fun t => (decide (36 ≤ t) && decide (t < 43))) (by decide) (by kernel_rfl) (by kernel_rfl) (by kernel_rfl) (by kernel_rfl) (by kernel_rfl) (SWC_up ba bb ra rb L X Y D xn) ?_ ?_
    · intro i hi o listed a w hR K hK
      have ho := hR.at_
      have hi : i < 7 := hi
      have hii : i = 0 ∨ i = 1 ∨ i = 2 ∨ i = 3 ∨ i = 4 ∨ i = 5 ∨ i = 6 := by omega
      rcases hii with rfl | rfl | rfl | rfl | rfl | rfl | rfl
      · simp at ho
        subst ho
        have b2 : a.tmps.getD 2 undef = .pointer (some ⟨ba, 0, none⟩) := hR.base 2 (by kernel_rfl)
        refine plain_step rfl rfl ?_
        go_simp
        exact hK _ _ (rfl) (Below.refl _ _)
      · simp at ho
        subst ho
        have e0 : a.tmps.getD 36 undef = .pointer (some ⟨ba, 0, none⟩) := hR.dep ⟨0, .data⟩ (by simp) rfl (by decide)
        obtain ⟨⟨cx0, cx1, cx2⟩, -⟩ := row_cells (heap_up hR.below HXA.out)
        refine plain_step rfl rfl ?_
        go_simp
        exact hK _ _ (rfl) (Below.refl _ _)
      · simp at ho
        subst ho
        have b5 : a.tmps.getD 5 undef = .string (encS X) := hR.base 5 (by kernel_rfl)
        refine plain_step rfl rfl ?_
        go_simp
        exact hK _ _ (rfl) (Below.refl _ _)
      · simp at ho
        subst ho
        have b6 : a.tmps.getD 6 undef = .string (encS Y) := hR.base 6 (by kernel_rfl)
        refine plain_step rfl rfl ?_
        go_simp
        exact hK _ _ (rfl) (Below.refl _ _)
      · simp at ho
        subst ho
        have e2 : a.tmps.getD 38 undef = .string (encS X) := hR.dep ⟨2, .data⟩ (by simp) rfl (by decide)
        have e3 : a.tmps.getD 39 undef = .string (encS Y) := hR.dep ⟨3, .data⟩ (by simp) rfl (by decide)
        refine plain_step rfl rfl ?_
        go_simp
        refine (HS.out w).mono ?_
        rintro e w' ⟨rfl, hb⟩
        exact hK _ _ (rfl) hb
      · simp at ho
        subst ho
        have b7 : a.tmps.getD 7 undef = .string (encS D) := hR.base 7 (by kernel_rfl)
        refine plain_step rfl rfl ?_
        go_simp
        exact hK _ _ (rfl) (Below.refl _ _)
      · simp at ho
        subst ho
        have e1 : a.tmps.getD 37 undef = .bool xn := hR.dep ⟨1, .data⟩ (by simp) rfl (by decide)
        have e4 : a.tmps.getD 40 undef = .string (encS (X + Y)) := hR.dep ⟨4, .data⟩ (by simp) rfl (by decide)
        have e5 : a.tmps.getD 41 undef = .string (encS D) := hR.dep ⟨5, .data⟩ (by simp) rfl (by decide)
        refine plain_step rfl rfl ?_
        go_simp
        refine (HL1.out w).mono ?_
        rintro e w' ⟨rfl, hb⟩
        exact hK _ _ (rfl) hb
    · intro s w hS hb
      have e6 : s 42 = .agg #[.bool L.neg, .string (encS L.num), .string (encS L.den)] := hS 6 (by decide)
      simp only [over, Nat.zero_add, Nat.reduceAdd, Nat.reduceLeDiff, Nat.reduceLT, decide_true, decide_false, Bool.and_true, Bool.and_false, cond_true, cond_false]
      obtain ⟨⟨cz0, cz1, cz2⟩, hfz⟩ := row_cells (heap_up hb HXZ.out)
      have fz0 := hfz 0; have fz1 := hfz 1; have fz2 := hfz 2
      refine tail_step (n := 0) rfl rfl ?_
      go_simp
      simp only [wpTail]
      have hrow := row_set (heap_up hb HXZ.out) (.bool L.neg) (.string (encS L.num)) (.string (encS L.den))
      have hbw := below_row (HB5.out.trans (hb.mono HB5.out.size)) (b := bz) (by omega) (.bool L.neg) (.string (encS L.num)) (.string (encS L.den))
      have HROW := Lib.hid hrow; have HBW := Lib.hid hbw
      clear hrow hbw hS hb cz0 cz1 cz2 hfz fz0 fz1 fz2
      go_wp2_with fail
      refine bodyPost_ret (results_cell_row rfl _ _ bz 26 _ (0, 0) _ rfl HROW.out Tryz.underlying26 rfl (by kernel_rfl)) rfl ?_
      exact ⟨rfl, HBW.out⟩
  · have HQ2 := Lib.hid (HE2.out hxy); have HQ3 := Lib.hid (HE3.out hxy)
    have hxy2 : (xn == yn) = false := by simp [hxy]
    clear HE1 HE2 HE3
    go_wp2_with fail
    refine (HC.out _).mono ?_
    rintro e w7 ⟨rfl, rfl⟩
    by_cases hle : Y ≤ X
    · have hq := HQ2.out hle
      obtain ⟨L, hL⟩ : ∃ L, low xn (X - Y) D = L := ⟨_, rfl⟩
      have HL1 := Lib.hid (HLQ.out xn (X - Y) ZX.out.2.1)
      rw [hL] at hq HL1
      subst hq
      clear hL
      obtain ⟨c, hc, hc0⟩ := cmp_ge (m := X) (n := Y) hle
      rw [hc]
      rw [decide_eq_true hle] at HU
      clear hle hc
      go_wp2_with fail
      refine (HU.out _).mono ?_
      rintro e w8 ⟨rfl, hb⟩
      have HXA := Lib.hid (heap_up hb HXA.out); have HXB := Lib.hid (heap_up hb HXB.out); have HXZ := Lib.hid (heap_up hb HXZ.out)
      have HB5 := Lib.hid (HB5.out.trans (hb.mono HB5.out.size))
      clear hb ca0 ca1 ca2 cd0 cd1 cd2
      obtain ⟨⟨ca0, ca1, ca2⟩, -⟩ := row_cells HXA.out
      obtain ⟨⟨cd0, cd1, cd2⟩, -⟩ := row_cells HXB.out
      go_wp2_with fail
      refine (HL1.out _).mono ?_
      rintro e w5 ⟨rfl, hb⟩
      unfold rtV
      obtain ⟨⟨cz0, cz1, cz2⟩, hfz⟩ := row_cells (heap_up hb HXZ.out)
      have fz0 := hfz 0; have fz1 := hfz 1; have fz2 := hfz 2
      have hrow := row_set (heap_up hb HXZ.out) (.bool Z.neg) (.string (encS Z.num)) (.string (encS Z.den))
      have hbw := below_row (HB5.out.trans (hb.mono HB5.out.size)) (b := bz) (by omega) (.bool Z.neg) (.string (encS Z.num)) (.string (encS Z.den))
      have HROW := Lib.hid hrow; have HBW := Lib.hid hbw
      clear hrow hbw hb hfz ca0 ca1 ca2 cd0 cd1 cd2
      go_wp2_with fail
      refine bodyPost_ret (results_cell_row rfl _ _ bz 26 _ (0, 0) _ rfl HROW.out Tryz.underlying26 rfl (by kernel_rfl)) rfl ?_
      exact ⟨rfl, HBW.out⟩
    · have hq := HQ3.out hle
      obtain ⟨L, hL⟩ : ∃ L, low yn (Y - X) D = L := ⟨_, rfl⟩
      have HL1 := Lib.hid (HLQ.out yn (Y - X) ZX.out.2.2)
      rw [hL] at hq HL1
      subst hq
      clear hL
      rw [cmpI_lt (by omega)]
      rw [decide_eq_true (show X ≤ Y by omega)] at HU2
      clear hle
      go_wp2_with fail
      refine (HU2.out _).mono ?_
      rintro e w8 ⟨rfl, hb⟩
      have HXA := Lib.hid (heap_up hb HXA.out); have HXB := Lib.hid (heap_up hb HXB.out); have HXZ := Lib.hid (heap_up hb HXZ.out)
      have HB5 := Lib.hid (HB5.out.trans (hb.mono HB5.out.size))
      clear hb ca0 ca1 ca2 cd0 cd1 cd2
      obtain ⟨⟨ca0, ca1, ca2⟩, -⟩ := row_cells HXA.out
      obtain ⟨⟨cd0, cd1, cd2⟩, -⟩ := row_cells HXB.out
      go_wp2_with fail
      refine (HL1.out _).mono ?_
      rintro e w5 ⟨rfl, hb⟩
      unfold rtV
      obtain ⟨⟨cz0, cz1, cz2⟩, hfz⟩ := row_cells (heap_up hb HXZ.out)
      have fz0 := hfz 0; have fz1 := hfz 1; have fz2 := hfz 2
      have hrow := row_set (heap_up hb HXZ.out) (.bool Z.neg) (.string (encS Z.num)) (.string (encS Z.den))
      have hbw := below_row (HB5.out.trans (hb.mono HB5.out.size)) (b := bz) (by omega) (.bool Z.neg) (.string (encS Z.num)) (.string (encS Z.den))
      have HROW := Lib.hid hrow; have HBW := Lib.hid hbw
      clear hrow hbw hb hfz ca0 ca1 ca2 cd0 cd1 cd2
      go_wp2_with fail
      refine bodyPost_ret (results_cell_row rfl _ _ bz 26 _ (0, 0) _ rfl HROW.out Tryz.underlying26 rfl (by kernel_rfl)) rfl ?_
      exact ⟨rfl, HBW.out⟩
def EWS (ba bb : Nat) (na nb : Bool) (sa da sb db : ByteArray) (M L : Rt) : Nat → Value
  | 0 => .agg #[.bool na, .string sa, .string da]
  | 1 => .agg #[.bool nb, .string sb, .string db]
  | 2 => rtV M
  | 3 => .agg #[.bool L.neg, .string (encS L.num), .string (encS L.den)]
  | _ => undef
def SWS (ba bb : Nat) (na nb : Bool) (sa da sb db : ByteArray) (M L : Rt) (ix : Nat) (v : Value) (w : World) : Prop :=
  match ix with
  | ix => v = EWS ba bb na nb sa da sb db M L ix
theorem SWS_up (ba bb : Nat) (na nb : Bool) (sa da sb db : ByteArray) (M L : Rt) (ix : Nat) (v : Value) (w w' : World) (hb : Below w.heap.size w w') (h : SWS ba bb na nb sa da sb db M L ix v w) : SWS ba bb na nb sa da sb db M L ix v w' := by
  exact h
set_option maxHeartbeats 1000000 in
set_option maxRecDepth 100000 in
theorem rRatSub_r {va vb : Value} {ra rb : Rt} {k : Nat} (ha : IsR va ra k) (hb : IsR vb rb k) (hk1 : 1 ≤ k) (hk : k ≤ 400000) (wq : World) :
    Calls Tryz.prog 35 #[va, vb] wq fun e w' => e = .returned (rtV (subR ra rb)) ∧ Below wq.heap.size wq w' := by
  have za := ha.rz hk1; have zb := hb.rz hk1; have oka := ha.ok; have okb := hb.ok
  have HNG := Lib.hid (fun w => rRatNeg_r hb (by omega) w)
  have HAD := Lib.hid (fun w => rRatAdd_r ha (IsR.of (negR_ok okb) (negR_sz zb)) hk1 hk w)
  have HE : Hid (subR ra rb = addR ra (negR rb)) := Lib.hid rfl
  rw [HE.out]
  obtain ⟨M, hM⟩ : ∃ M, negR rb = M := ⟨_, rfl⟩
  rw [hM] at HNG HAD ⊢
  obtain ⟨L, hL⟩ : ∃ L, addR ra M = L := ⟨_, rfl⟩
  rw [hL] at HAD ⊢
  clear hM hL HE
  obtain ⟨na, sa, da, rfl, -⟩ := ha
  obtain ⟨nb, sb, db, rfl, -⟩ := hb
  clear za zb hk1 hk oka okb
  obtain ⟨W3, hW3, hxa, hxb, hxz, hb3⟩ := boxes3 wq (.cells #[.bool na, .string sa, .string da] 26) (.cells #[.bool nb, .string sb, .string db] 26) (.cells #[.bool false, .string ⟨#[]⟩, .string ⟨#[]⟩] 26)
  go_enter Tryz.func35, Tryz.ntmps35
  go_wp2_with fail
  obtain ⟨ba, hba⟩ : ∃ b, wq.heap.size = b := ⟨_, rfl⟩
  obtain ⟨bb, hbb⟩ : ∃ b, ba + 1 = b := ⟨_, rfl⟩
  obtain ⟨bz, hbz⟩ : ∃ b, bb + 1 = b := ⟨_, rfl⟩
  rw [hba] at hxa hxb hxz ⊢
  rw [hbb] at hxb hxz ⊢
  rw [hbz] at hxz ⊢
  have HXA := Lib.hid hxa; have HXB := Lib.hid hxb; have HXZ := Lib.hid hxz; have HBQ := Lib.hid (show wq.heap.size ≤ bz by omega)
  have HB5 := Lib.hid hb3
  clear hW3 hxa hxb hxz hb3
  refine wp_region_tail (w := W3) (by kernel_rfl) (SWS ba bb na nb sa da sb db M L) 4 (fun t => (decide (5 ≤ t) && decide (t < 9))) (by decide) (by kernel_rfl) (by kernel_rfl) (by kernel_rfl) (by kernel_rfl) (by kernel_rfl) (SWS_up ba bb na nb sa da sb db M L) ?_ ?_
  · intro i hi o listed a w hR K hK
    have ho := hR.at_
    have hi : i < 4 := hi
    have hii : i = 0 ∨ i = 1 ∨ i = 2 ∨ i = 3 := by omega
    rcases hii with rfl | rfl | rfl | rfl
    · simp at ho
      subst ho
      have b2 : a.tmps.getD 2 undef = .pointer (some ⟨ba, 0, none⟩) := hR.base 2 (by kernel_rfl)
      obtain ⟨⟨cx0, cx1, cx2⟩, -⟩ := row_cells (heap_up hR.below HXA.out)
      refine plain_step rfl rfl ?_
      go_simp
      exact hK _ _ (rfl) (Below.refl _ _)
    · simp at ho
      subst ho
      have b3 : a.tmps.getD 3 undef = .pointer (some ⟨bb, 0, none⟩) := hR.base 3 (by kernel_rfl)
      obtain ⟨⟨cx0, cx1, cx2⟩, -⟩ := row_cells (heap_up hR.below HXB.out)
      refine plain_step rfl rfl ?_
      go_simp
      exact hK _ _ (rfl) (Below.refl _ _)
    · simp at ho
      subst ho
      have e1 : a.tmps.getD 6 undef = .agg #[.bool nb, .string sb, .string db] := hR.dep ⟨1, .data⟩ (by simp) rfl (by decide)
      refine plain_step rfl rfl ?_
      go_simp
      refine (HNG.out w).mono ?_
      rintro e w' ⟨rfl, hb⟩
      exact hK _ _ (rfl) hb
    · simp at ho
      subst ho
      have e0 : a.tmps.getD 5 undef = .agg #[.bool na, .string sa, .string da] := hR.dep ⟨0, .data⟩ (by simp) rfl (by decide)
      have e2 : a.tmps.getD 7 undef = rtV M := hR.dep ⟨2, .data⟩ (by simp) rfl (by decide)
      refine plain_step rfl rfl ?_
      go_simp
      refine (HAD.out w).mono ?_
      rintro e w' ⟨rfl, hb⟩
      exact hK _ _ (rfl) hb
  · intro s w hS hb
    have e3 : s 8 = .agg #[.bool L.neg, .string (encS L.num), .string (encS L.den)] := hS 3 (by decide)
    simp only [over, Nat.zero_add, Nat.reduceAdd, Nat.reduceLeDiff, Nat.reduceLT, decide_true, decide_false, Bool.and_true, cond_true, cond_false]
    obtain ⟨⟨cz0, cz1, cz2⟩, hfz⟩ := row_cells (heap_up hb HXZ.out)
    have fz0 := hfz 0; have fz1 := hfz 1; have fz2 := hfz 2
    refine tail_step (n := 0) rfl rfl ?_
    go_simp
    simp only [wpTail]
    have hrow := row_set (heap_up hb HXZ.out) (.bool L.neg) (.string (encS L.num)) (.string (encS L.den))
    have hbw := below_row (HB5.out.trans (hb.mono HB5.out.size)) (b := bz) (by omega) (.bool L.neg) (.string (encS L.num)) (.string (encS L.den))
    have HROW := Lib.hid hrow; have HBW := Lib.hid hbw
    clear hrow hbw hS hb cz0 cz1 cz2 hfz fz0 fz1 fz2
    go_wp2_with fail
    refine bodyPost_ret (results_cell_row rfl _ _ bz 26 _ (0, 0) _ rfl HROW.out Tryz.underlying26 rfl (by kernel_rfl)) rfl ?_
    exact ⟨rfl, HBW.out⟩
set_option maxHeartbeats 1000000 in
set_option maxRecDepth 100000 in
theorem rRatCmp_r {va vb : Value} {ra rb : Rt} {k : Nat} (ha : IsR va ra k) (hb : IsR vb rb k) (hk1 : 1 ≤ k) (hk : k ≤ 400000) (wq : World) :
    Calls Tryz.prog 38 #[va, vb] wq fun e w' => e = .returned (.int .i64 (cmpR ra rb)) ∧ Below wq.heap.size wq w' := by
  have HSU := Lib.hid (fun w => rRatSub_r ha hb hk1 hk w)
  have HSG := Lib.hid (fun w => rRatSign_r (IsR.of (subR_ok ha.ok hb.ok) (subR_sz (ha.rz hk1) (hb.rz hk1))) (by omega) w)
  have HE : Hid (cmpR ra rb = sgnR (subR ra rb)) := Lib.hid rfl
  rw [HE.out]
  obtain ⟨na, sa, da, rfl, -⟩ := ha
  obtain ⟨nb, sb, db, rfl, -⟩ := hb
  clear hk1 hk HE
  obtain ⟨W3, hW3, hxa, hxb, hb3⟩ := boxes2 wq (.cells #[.bool na, .string sa, .string da] 26) (.cells #[.bool nb, .string sb, .string db] 26)
  obtain ⟨⟨ca0, ca1, ca2⟩, -⟩ := row_cells hxa
  obtain ⟨⟨cb0, cb1, cb2⟩, -⟩ := row_cells hxb
  have HB3 := Lib.hid hb3
  clear hxa hxb hb3
  go_enter Tryz.func38, Tryz.ntmps38
  go_wp2_with fail
  refine (HSU.out _).mono ?_
  rintro e w1 ⟨rfl, hb⟩
  have HB4 := Lib.hid (HB3.out.trans (hb.mono HB3.out.size))
  clear hb ca0 ca1 ca2 cb0 cb1 cb2 hW3
  go_wp2_with fail
  refine (HSG.out _).mono ?_
  rintro e w2 ⟨rfl, hb⟩
  have HB5 := Lib.hid (HB4.out.trans (hb.mono HB4.out.size))
  clear hb
  go_wp2_with fail
  go_ret
  exact ⟨rfl, HB5.out⟩
end Go.Proofs.YtancflpioigjbaaGreatDoor
