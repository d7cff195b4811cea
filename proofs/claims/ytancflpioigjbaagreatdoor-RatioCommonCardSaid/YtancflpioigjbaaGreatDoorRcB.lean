/- Text of package ratio and of its reference. Each theorem names its conditions. -/
import Derived.Test.YtancflpioigjbaaGreatDoorRcA
import Derived.Test.YtancflpioigjbaaGreatDoorParR
namespace Go.Proofs.YtancflpioigjbaaGreatDoor
open Go.RowKit Go.Shelf
open Dgt
set_option linter.unusedVariables false

/-- the text of a number -/
def textL (a : Rt) : List UInt8 := (if a.neg then [45] else []) ++ (Lib.decDigits a.num ++ (if a.den = 1 then [] else 47 :: Lib.decDigits a.den))
def textS (a : Rt) : ByteArray := ⟨(textL a).toArray⟩
theorem decL_len {n k : Nat} (h : Sz n k) : (Lib.decDigits n).length ≤ 3 * k + 1 := by
  have h1 := dec_size (encS n)
  rw [numS_encS] at h1
  have h2 := encS_size_lt h
  omega
theorem textL_len {a : Rt} {k : Nat} (h : Rz a k) : (textL a).length ≤ 6 * k + 4 := by
  have h1 := decL_len h.1; have h2 := decL_len h.2
  unfold textL
  rw [List.length_append, List.length_append]
  have e1 : (if a.neg then [(45 : UInt8)] else []).length ≤ 1 := by split <;> simp
  have e2 : (if a.den = 1 then [] else (47 : UInt8) :: Lib.decDigits a.den).length ≤ 3 * k + 2 := by split <;> simp; omega
  omega
def ETX (ba : Nat) (ra : Rt) (Q : Bool) : Nat → Value
  | 0 => .pointer (some ⟨ba, 2, none⟩)
  | 1 => .string (encS ra.den)
  | 2 => .string (encS 1)
  | 3 => .bool Q
  | _ => undef
def STX (ba : Nat) (ra : Rt) (Q : Bool) (ix : Nat) (v : Value) (w : World) : Prop :=
  match ix with
  | ix => v = ETX ba ra Q ix
theorem STX_up (ba : Nat) (ra : Rt) (Q : Bool) (ix : Nat) (v : Value) (w w' : World) (hb : Below w.heap.size w w') (h : STX ba ra Q ix v w) : STX ba ra Q ix v w' := by
  exact h
set_option maxHeartbeats 1000000 in
set_option maxRecDepth 100000 in
theorem RatText_r {va : Value} {ra : Rt} {k : Nat} (ha : IsR va ra k) (hk1 : 1 ≤ k) (hk : k ≤ 300000) (wq : World) (htab : Lib.TabIs Tryz.prog wq "internal/strconv.uint64pow10" .u64 Lib.pow10Tab) :
    Calls Tryz.prog 19 #[va] wq fun e w' => e = .returned (.string (textS ra)) ∧ Below wq.heap.size wq w' := by
  have HVA := Lib.hid (fun w => value_r ha (by omega) w)
  have za := ha.rz hk1
  have l1 := decL_len za.1; have l2 := decL_len za.2
  have i1 : ((Lib.decDigits ra.num).length : Int) ≤ 900001 := by omega
  have i2 : ((Lib.decDigits ra.den).length : Int) ≤ 900001 := by omega
  have HTB := Lib.hid (Lib.tabBelow_of_tabIs htab)
  have HTN : Hid (∀ w, Below wq.heap.size wq w → Calls Tryz.prog 56 #[.string (encS ra.num)] w fun e w' => e = .returned (.string ⟨(Lib.decDigits ra.num).toArray⟩) ∧ Below w.heap.size w w') := Lib.hid fun w h => by
    have := Text_any (encS ra.num) w (Nat.le_trans (encS_size_lt za.1) (by omega)) (HTB.out.on h).here
    rwa [numS_encS] at this
  have HTD : Hid (∀ w, Below wq.heap.size wq w → Calls Tryz.prog 56 #[.string (encS ra.den)] w fun e w' => e = .returned (.string ⟨(Lib.decDigits ra.den).toArray⟩) ∧ Below w.heap.size w w') := Lib.hid fun w h => by
    have := Text_any (encS ra.den) w (Nat.le_trans (encS_size_lt za.2) (by omega)) (HTB.out.on h).here
    rwa [numS_encS] at this
  have HO1 := Lib.hid (fun w => Of_any 1 w (by decide))
  simp only [show (1 : Int).toNat = 1 from rfl] at HO1
  obtain ⟨Q, hQ⟩ : ∃ Q, decide (ra.den ≠ 1) = Q := ⟨_, rfl⟩
  obtain ⟨na, sa, da, rfl, -⟩ := ha
  obtain ⟨nn, hnn⟩ : ∃ b, ra.neg = b := ⟨_, rfl⟩
  have HQ0 : Hid ((¬ (encS ra.den).toList = (encS 1).toList) ↔ Q = true) := Lib.hid (by
    rw [← hQ, decide_eq_true_eq, bytes_ext]
    exact not_congr ⟨encS_inj, fun h => by rw [h]⟩)
  have HE : Hid (textL ra = (if nn then [45] else []) ++ (Lib.decDigits ra.num ++ (if Q then 47 :: Lib.decDigits ra.den else []))) := Lib.hid (by
    unfold textL
    rw [hnn, ← hQ]
    by_cases h : ra.den = 1 <;> simp [h])
  obtain ⟨N1, hN1⟩ : ∃ l, Lib.decDigits ra.num = l := ⟨_, rfl⟩
  obtain ⟨D1, hD1⟩ : ∃ l, Lib.decDigits ra.den = l := ⟨_, rfl⟩
  rw [hN1] at i1 HTN HE; rw [hD1] at i2 HTD HE
  rw [hnn] at HVA
  have hxa := heap_alloc_new wq (.cells #[.bool na, .string sa, .string da] 26)
  have hb0 := (Below.refl wq.heap.size wq).alloc (Nat.le_refl _) (.cells #[.bool na, .string sa, .string da] 26)
  obtain ⟨W1, hW1⟩ : ∃ W1, wq.alloc (.cells #[.bool na, .string sa, .string da] 26) = W1 := ⟨_, rfl⟩
  rw [hW1] at hxa hb0
  obtain ⟨⟨ca0, ca1, ca2⟩, -⟩ := row_cells hxa
  have HXA := Lib.hid hxa; have HB0 := Lib.hid hb0
  clear hxa hb0 hk hk1 za l1 l2 hQ hN1 hD1
  unfold textS
  go_enter Tryz.func19, Tryz.ntmps19
  go_wp2_with fail
  obtain ⟨ba, hba⟩ : ∃ b, wq.heap.size = b := ⟨_, rfl⟩
  refine (HVA.out _).mono ?_
  rintro e w1 ⟨rfl, hb⟩
  have HXA := Lib.hid (heap_up hb HXA.out); have HB0 := Lib.hid (HB0.out.trans (hb.mono HB0.out.size))
  clear hb ca0 ca1 ca2 hW1
  rw [hba] at HXA ⊢
  obtain ⟨⟨cb0, cb1, cb2⟩, hfb⟩ := row_cells HXA.out
  have fb0 := hfb 0; have fb1 := hfb 1; have fb2 := hfb 2
  obtain ⟨W2, hW2⟩ : ∃ W2, ((w1.setCell ⟨ba, 0, none⟩ (.bool nn)).setCell ⟨ba, 1, none⟩ (.string (encS ra.num))).setCell ⟨ba, 2, none⟩ (.string (encS ra.den)) = W2 := ⟨_, rfl⟩
  have hx2 := row_set HXA.out (.bool nn) (.string (encS ra.num)) (.string (encS ra.den))
  have hb2 := below_row HB0.out (b := ba) (by omega) (.bool nn) (.string (encS ra.num)) (.string (encS ra.den))
  rw [hW2] at hx2 hb2
  have HXA := Lib.hid hx2; have HB2 := Lib.hid hb2
  obtain ⟨⟨cc0, cc1, cc2⟩, -⟩ := row_cells hx2
  clear hfb hx2 hb2
  go_wp2_with fail
  refine (HTN.out _ HB2.out).mono ?_
  rintro e w3 ⟨rfl, hb⟩
  have HXA := Lib.hid (heap_up hb HXA.out); have HB3 := Lib.hid (HB2.out.trans (hb.mono HB2.out.size))
  clear hb cb0 cb1 cb2 fb0 fb1 fb2 cc0 cc1 cc2 hW2
  obtain ⟨⟨cc0, cc1, cc2⟩, -⟩ := row_cells HXA.out
  cases nn
  all_goals
    go_wp2_with fail
    clear cc0 cc1 cc2
    refine wp_region_vals (w := _) (by kernel_rfl) (STX ba ra Q) (fun t => (decide (13 ≤ t) && decide (t < 17))) (by kernel_rfl) (by kernel_rfl) (by kernel_rfl) (STX_up ba ra Q) ?_ ?_
    · intro i hi o listed a w hR K hK
      have ho := hR.at_
      have hi : i < 4 := hi
      have hii : i = 0 ∨ i = 1 ∨ i = 2 ∨ i = 3 := by omega
      rcases hii with rfl | rfl | rfl | rfl
      · simp at ho
        subst ho
        have b1 : a.tmps.getD 1 undef = .pointer (some ⟨ba, 0, none⟩) := hR.base 1 (by kernel_rfl)
        refine plain_step rfl rfl ?_
        go_simp
        exact hK _ _ (rfl) (Below.refl _ _)
      · simp at ho
        subst ho
        have e0 : a.tmps.getD 13 undef = .pointer (some ⟨ba, 2, none⟩) := hR.dep ⟨0, .data⟩ (by simp) rfl
        obtain ⟨⟨cx0, cx1, cx2⟩, -⟩ := row_cells (heap_up hR.below HXA.out)
        refine plain_step rfl rfl ?_
        go_simp
        exact hK _ _ (rfl) (Below.refl _ _)
      · simp at ho
        subst ho
        refine plain_step rfl rfl ?_
        go_simp
        refine (HO1.out w).mono ?_
        rintro e w' ⟨rfl, hb⟩
        exact hK _ _ (rfl) hb
      · simp at ho
        subst ho
        have e1 : a.tmps.getD 14 undef = .string (encS ra.den) := hR.dep ⟨1, .data⟩ (by simp) rfl
        have e2 : a.tmps.getD 15 undef = .string (encS 1) := hR.dep ⟨2, .data⟩ (by simp) rfl
        refine plain_step rfl rfl ?_
        go_simp
        exact hK _ _ (by show Value.bool _ = Value.bool Q; congr 1; rw [Bool.eq_iff_iff]; simp [HQ0.out]) (Below.refl _ _)
    · intro s w hS hb
      have e3 : s 16 = .bool Q := hS 3 (by decide)
      simp only [over, Nat.zero_add, Nat.reduceAdd, Nat.reduceLeDiff, Nat.reduceLT, decide_true, decide_false, Bool.and_true, Bool.and_false, cond_true, cond_false]
      rw [e3]
      have HXA := Lib.hid (heap_up hb HXA.out); have HB4 := Lib.hid (HB3.out.trans (hb.mono HB3.out.size))
      clear hS hb e3
      obtain ⟨⟨cc0, cc1, cc2⟩, -⟩ := row_cells HXA.out
      cases Q
      · go_wp2_with fail
        go_ret
        have hbwf := HB4.out
        exact ⟨by rw [HE.out]; simp [str_append]; try rfl, by first | exact hbwf | (rw [hba] at hbwf; exact hbwf)⟩
      · go_wp2_with fail
        refine (HTD.out _ HB4.out).mono ?_
        rintro e w5 ⟨rfl, hb⟩
        have HB5 := Lib.hid (HB4.out.trans (hb.mono HB4.out.size))
        clear hb cc0 cc1 cc2
        go_wp2_with fail
        go_ret
        have hbwf := HB5.out
        exact ⟨by rw [HE.out]; simp [← str_append]; try rfl, by first | exact hbwf | (rw [hba] at hbwf; exact hbwf)⟩
def ETY (ba : Nat) (ra : Rt) (c : Int) (Q : Bool) : Nat → Value
  | 0 => .pointer (some ⟨ba, 2, none⟩)
  | 1 => .string (encS ra.den)
  | 2 => .string (encS 1)
  | 3 => .int .i64 c
  | 4 => .bool Q
  | _ => undef
def STY (ba : Nat) (ra : Rt) (c : Int) (Q : Bool) (ix : Nat) (v : Value) (w : World) : Prop :=
  match ix with
  | ix => v = ETY ba ra c Q ix
theorem STY_up (ba : Nat) (ra : Rt) (c : Int) (Q : Bool) (ix : Nat) (v : Value) (w w' : World) (hb : Below w.heap.size w w') (h : STY ba ra c Q ix v w) : STY ba ra c Q ix v w' := by
  exact h
set_option maxHeartbeats 1000000 in
set_option maxRecDepth 100000 in
theorem rRatText_r {va : Value} {ra : Rt} {k : Nat} (ha : IsR va ra k) (hk1 : 1 ≤ k) (hk : k ≤ 300000) (wq : World) :
    Calls Tryz.prog 20 #[va] wq fun e w' => e = .returned (.string (textS ra)) ∧ Below wq.heap.size wq w' := by
  have HVA := Lib.hid (fun w => rvalue_r ha (by omega) w)
  have za := ha.rz hk1
  have l1 := decL_len za.1; have l2 := decL_len za.2
  have i1 : ((Lib.decDigits ra.num).length : Int) ≤ 900001 := by omega
  have i2 : ((Lib.decDigits ra.den).length : Int) ≤ 900001 := by omega
  have HTN : Hid (∀ w, Below wq.heap.size wq w → Calls Tryz.prog 58 #[.string (encS ra.num)] w fun e w' => e = .returned (.string ⟨(Lib.decDigits ra.num).toArray⟩) ∧ Below w.heap.size w w') := Lib.hid fun w h => by
    have := rText_any (encS ra.num) w (Nat.le_trans (encS_size_lt za.1) (by omega))
    rwa [numS_encS] at this
  have HTD : Hid (∀ w, Below wq.heap.size wq w → Calls Tryz.prog 58 #[.string (encS ra.den)] w fun e w' => e = .returned (.string ⟨(Lib.decDigits ra.den).toArray⟩) ∧ Below w.heap.size w w') := Lib.hid fun w h => by
    have := rText_any (encS ra.den) w (Nat.le_trans (encS_size_lt za.2) (by omega))
    rwa [numS_encS] at this
  have HO1 := Lib.hid (fun w => rOf_any 1 w (by decide))
  simp only [show (1 : Int).toNat = 1 from rfl] at HO1
  have HCM := Lib.hid (fun w => rCmp_any (encS ra.den) (encS 1) w (Nat.le_trans (encS_size_lt za.2) (by omega)) (Nat.le_trans (encS_size_lt sz_one) (by decide)))
  simp only [numS_encS] at HCM
  obtain ⟨c, hc⟩ : ∃ c, cmpI ra.den 1 = c := ⟨_, rfl⟩
  rw [hc] at HCM
  obtain ⟨Q, hQ⟩ : ∃ Q, decide (ra.den ≠ 1) = Q := ⟨_, rfl⟩
  obtain ⟨na, sa, da, rfl, -⟩ := ha
  obtain ⟨nn, hnn⟩ : ∃ b, ra.neg = b := ⟨_, rfl⟩
  have HQ0 : Hid ((¬ c = 0) ↔ Q = true) := Lib.hid (by
    rw [← hQ, ← hc, decide_eq_true_eq]; unfold cmpI
    split
    · constructor <;> intro _ <;> omega
    · split
      · constructor <;> intro _ <;> omega
      · constructor
        · intro h; exact absurd rfl h
        · intro h; omega)
  clear hc
  have HE : Hid (textL ra = (if nn then [45] else []) ++ (Lib.decDigits ra.num ++ (if Q then 47 :: Lib.decDigits ra.den else []))) := Lib.hid (by
    unfold textL
    rw [hnn, ← hQ]
    by_cases h : ra.den = 1 <;> simp [h])
  obtain ⟨N1, hN1⟩ : ∃ l, Lib.decDigits ra.num = l := ⟨_, rfl⟩
  obtain ⟨D1, hD1⟩ : ∃ l, Lib.decDigits ra.den = l := ⟨_, rfl⟩
  rw [hN1] at i1 HTN HE; rw [hD1] at i2 HTD HE
  rw [hnn] at HVA
  have hxa := heap_alloc_new wq (.cells #[.bool na, .string sa, .string da] 26)
  have hb0 := (Below.refl wq.heap.size wq).alloc (Nat.le_refl _) (.cells #[.bool na, .string sa, .string da] 26)
  obtain ⟨W1, hW1⟩ : ∃ W1, wq.alloc (.cells #[.bool na, .string sa, .string da] 26) = W1 := ⟨_, rfl⟩
  rw [hW1] at hxa hb0
  obtain ⟨⟨ca0, ca1, ca2⟩, -⟩ := row_cells hxa
  have HXA := Lib.hid hxa; have HB0 := Lib.hid hb0
  clear hxa hb0 hk hk1 za l1 l2 hQ hN1 hD1
  unfold textS
  go_enter Tryz.func20, Tryz.ntmps20
  go_wp2_with fail
  obtain ⟨ba, hba⟩ : ∃ b, wq.heap.size = b := ⟨_, rfl⟩
  refine (HVA.out _).mono ?_
  rintro e w1 ⟨rfl, hb⟩
  have HXA := Lib.hid (heap_up hb HXA.out); have HB0 := Lib.hid (HB0.out.trans (hb.mono HB0.out.size))
  clear hb ca0 ca1 ca2 hW1
  rw [hba] at HXA ⊢
  obtain ⟨⟨cb0, cb1, cb2⟩, hfb⟩ := row_cells HXA.out
  have fb0 := hfb 0; have fb1 := hfb 1; have fb2 := hfb 2
  obtain ⟨W2, hW2⟩ : ∃ W2, ((w1.setCell ⟨ba, 0, none⟩ (.bool nn)).setCell ⟨ba, 1, none⟩ (.string (encS ra.num))).setCell ⟨ba, 2, none⟩ (.string (encS ra.den)) = W2 := ⟨_, rfl⟩
  have hx2 := row_set HXA.out (.bool nn) (.string (encS ra.num)) (.string (encS ra.den))
  have hb2 := below_row HB0.out (b := ba) (by omega) (.bool nn) (.string (encS ra.num)) (.string (encS ra.den))
  rw [hW2] at hx2 hb2
  have HXA := Lib.hid hx2; have HB2 := Lib.hid hb2
  obtain ⟨⟨cc0, cc1, cc2⟩, -⟩ := row_cells hx2
  clear hfb hx2 hb2
  go_wp2_with fail
  refine (HTN.out _ HB2.out).mono ?_
  rintro e w3 ⟨rfl, hb⟩
  have HXA := Lib.hid (heap_up hb HXA.out); have HB3 := Lib.hid (HB2.out.trans (hb.mono HB2.out.size))
  clear hb cb0 cb1 cb2 fb0 fb1 fb2 cc0 cc1 cc2 hW2
  obtain ⟨⟨cc0, cc1, cc2⟩, -⟩ := row_cells HXA.out
  cases nn
  all_goals
    go_wp2_with fail
    clear cc0 cc1 cc2
    refine wp_region_vals (w := _) (by kernel_rfl) (STY ba ra c Q) (fun t => (decide (13 ≤ t) && decide (t < 18))) (by kernel_rfl) (by kernel_rfl) (by kernel_rfl) (STY_up ba ra c Q) ?_ ?_
    · intro i hi o listed a w hR K hK
      have ho := hR.at_
      have hi : i < 5 := hi
      have hii : i = 0 ∨ i = 1 ∨ i = 2 ∨ i = 3 ∨ i = 4 := by omega
      rcases hii with rfl | rfl | rfl | rfl | rfl
      · simp at ho
        subst ho
        have b1 : a.tmps.getD 1 undef = .pointer (some ⟨ba, 0, none⟩) := hR.base 1 (by kernel_rfl)
        refine plain_step rfl rfl ?_
        go_simp
        exact hK _ _ (rfl) (Below.refl _ _)
      · simp at ho
        subst ho
        have e0 : a.tmps.getD 13 undef = .pointer (some ⟨ba, 2, none⟩) := hR.dep ⟨0, .data⟩ (by simp) rfl
        obtain ⟨⟨cx0, cx1, cx2⟩, -⟩ := row_cells (heap_up hR.below HXA.out)
        refine plain_step rfl rfl ?_
        go_simp
        exact hK _ _ (rfl) (Below.refl _ _)
      · simp at ho
        subst ho
        refine plain_step rfl rfl ?_
        go_simp
        refine (HO1.out w).mono ?_
        rintro e w' ⟨rfl, hb⟩
        exact hK _ _ (rfl) hb
      · simp at ho
        subst ho
        have e1 : a.tmps.getD 14 undef = .string (encS ra.den) := hR.dep ⟨1, .data⟩ (by simp) rfl
        have e2 : a.tmps.getD 15 undef = .string (encS 1) := hR.dep ⟨2, .data⟩ (by simp) rfl
        refine plain_step rfl rfl ?_
        go_simp
        refine (HCM.out w).mono ?_
        rintro e w' ⟨rfl, rfl⟩
        exact hK _ _ (rfl) (Below.refl _ _)
      · simp at ho
        subst ho
        have e3 : a.tmps.getD 16 undef = .int .i64 c := hR.dep ⟨3, .data⟩ (by simp) rfl
        refine plain_step rfl rfl ?_
        go_simp
        exact hK _ _ (by show Value.bool _ = Value.bool Q; congr 1; rw [Bool.eq_iff_iff]; simp [HQ0.out]) (Below.refl _ _)
    · intro s w hS hb
      have e4 : s 17 = .bool Q := hS 4 (by decide)
      simp only [over, Nat.zero_add, Nat.reduceAdd, Nat.reduceLeDiff, Nat.reduceLT, decide_true, decide_false, Bool.and_true, Bool.and_false, cond_true, cond_false]
      rw [e4]
      have HXA := Lib.hid (heap_up hb HXA.out); have HB4 := Lib.hid (HB3.out.trans (hb.mono HB3.out.size))
      clear hS hb e4
      obtain ⟨⟨cc0, cc1, cc2⟩, -⟩ := row_cells HXA.out
      cases Q
      · go_wp2_with fail
        go_ret
        have hbwf := HB4.out
        exact ⟨by rw [HE.out]; simp [str_append]; try rfl, by first | exact hbwf | (rw [hba] at hbwf; exact hbwf)⟩
      · go_wp2_with fail
        refine (HTD.out _ HB4.out).mono ?_
        rintro e w5 ⟨rfl, hb⟩
        have HB5 := Lib.hid (HB4.out.trans (hb.mono HB4.out.size))
        clear hb cc0 cc1 cc2
        go_wp2_with fail
        go_ret
        have hbwf := HB5.out
        exact ⟨by rw [HE.out]; simp only [str_append]; simp, by first | exact hbwf | (rw [hba] at hbwf; exact hbwf)⟩
end Go.Proofs.YtancflpioigjbaaGreatDoor
