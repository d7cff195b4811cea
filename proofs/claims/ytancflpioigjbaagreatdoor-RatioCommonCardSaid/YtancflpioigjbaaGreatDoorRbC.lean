/- Reference of ratio: value, Make, Sign, Neg. Each theorem names its conditions. -/
import Derived.Test.YtancflpioigjbaaGreatDoorRbB
namespace Go.Proofs.YtancflpioigjbaaGreatDoor
open Go.RowKit Go.Shelf
open Dgt
set_option linter.unusedVariables false

set_option maxHeartbeats 1000000 in
set_option maxRecDepth 100000 in
theorem rvalue_r {va : Value} {ra : Rt} {k : Nat} (ha : IsR va ra k) (hk : k ≤ 1000000) (wq : World) :
    Calls Tryz.prog 57 #[va] wq fun e w' => e = .returned (.agg #[.bool ra.neg, .string (encS ra.num), .string (encS ra.den)]) ∧ Below wq.heap.size wq w' := by
  obtain ⟨neg, n, d, rfl, sn, sd, hv⟩ := ha
  have HR := Lib.hid (fun w => rRatRight_any neg n d w (by omega) (by omega))
  obtain ⟨R, hR⟩ : ∃ R, rightR neg n d = R := ⟨_, rfl⟩
  rw [hR] at HR
  have HRT := Lib.hid hR; have HV := Lib.hid hv
  have HOF := Lib.hid (fun w => rOf_any 1 w (by decide))
  simp only [show (1 : Int).toNat = 1 from rfl] at HOF
  clear hR sn sd hv hk
  obtain ⟨W3, hW3, hxa, hxz, hb3⟩ := boxes2 wq (.cells #[.bool neg, .string n, .string d] 26) (.cells #[.bool false, .string ⟨#[]⟩, .string ⟨#[]⟩] 26)
  obtain ⟨⟨ca0, ca1, ca2⟩, -⟩ := row_cells hxa
  have HXA := Lib.hid hxa; have HXZ := Lib.hid hxz; have HB3 := Lib.hid hb3
  clear hxa hxz hb3
  go_enter Tryz.func57, Tryz.ntmps57
  go_wp2_with fail
  refine (HR.out _).mono ?_
  rintro e w3 ⟨rfl, hb⟩
  have HXA := Lib.hid (heap_up hb HXA.out); have HXZ := Lib.hid (heap_up hb HXZ.out); have HB3 := Lib.hid (HB3.out.trans (hb.mono HB3.out.size))
  clear hb ca0 ca1 ca2 hW3
  obtain ⟨⟨cb0, cb1, cb2⟩, -⟩ := row_cells HXA.out
  obtain ⟨⟨cz0, cz1, cz2⟩, hfz⟩ := row_cells HXZ.out
  have fz0 := hfz 0; have fz1 := hfz 1; have fz2 := hfz 2
  clear hfz
  cases R
  · clear cb0 cb1 cb2 cz0 cz1 cz2 fz0 fz1 fz2
    go_wp2_with fail
    refine (HOF.out _).mono ?_
    rintro e w4 ⟨rfl, hb⟩
    have HXZ := Lib.hid (heap_up hb HXZ.out); have HB3 := Lib.hid (HB3.out.trans (hb.mono HB3.out.size))
    clear hb
    obtain ⟨⟨cz0, cz1, cz2⟩, hfz⟩ := row_cells HXZ.out
    have fz0 := hfz 0; have fz1 := hfz 1; have fz2 := hfz 2
    clear hfz
    go_wp2_with fail
    refine bodyPost_ret (results_cell_row rfl _ _ (wq.heap.size + 1) 26 _ (0, 0) _ rfl (row_set HXZ.out _ _ _) Tryz.underlying26 rfl (by kernel_rfl)) rfl ?_
    refine ⟨?_, below_row HB3.out (by omega) _ _ _⟩
    have hv := HV.out
    unfold valQ at hv
    rw [if_neg (by rw [HRT.out]; simp)] at hv
    rw [← hv]; simp [zeroR, encS_zero]
  · go_wp2_with fail
    refine bodyPost_ret (results_cell_row rfl _ _ (wq.heap.size + 1) 26 _ (0, 0) _ rfl (row_set HXZ.out _ _ _) Tryz.underlying26 rfl (by kernel_rfl)) rfl ?_
    refine ⟨?_, below_row HB3.out (by omega) _ _ _⟩
    have h := ratV_right HRT.out
    rw [HV.out] at h
    unfold ratV rtV at h
    rw [h]
set_option maxHeartbeats 1000000 in
set_option maxRecDepth 100000 in
theorem rRatMake_any (neg : Bool) (n d : ByteArray) (wq : World) (sn : n.size ≤ 1000000) (sd : d.size ≤ 1000000) :
    Calls Tryz.prog 12 #[.bool neg, .string n, .string d] wq fun e w' => e = .returned (makeV neg n d) ∧ Below wq.heap.size wq w' := by
  have H1 := Lib.hid (fun w => rRight_any n w (by omega)); have H2 := Lib.hid (fun w => rRight_any d w (by omega))
  have HXZ := Lib.hid (zeroR_row wq)
  have HB0 := Lib.hid (below_zrow wq (Below.refl _ _))
  obtain ⟨⟨cz0, cz1, cz2⟩, hfz⟩ := row_cells HXZ.out
  have fz0 := hfz 0; have fz1 := hfz 1; have fz2 := hfz 2
  clear hfz
  have hbad : ((rightN d && decide (0 < numS d)) && rightN n) = false → makeV neg n d = .tuple #[.agg #[.bool false, .string ⟨#[]⟩, .string ⟨#[]⟩], .bool false] := fun h => by unfold makeV; rw [h]; rfl
  by_cases r1 : rightN n = true
  · by_cases r2 : rightN d = true
    · obtain ⟨a, ha⟩ : ∃ a, numS n = a := ⟨_, rfl⟩
      obtain ⟨b, hb⟩ : ∃ b, numS d = b := ⟨_, rfl⟩
      have hn := rightN_eq r1; have hd := rightN_eq r2
      have za : Sz a 1000000 := by rw [← ha]; exact (Sz.num n).mono sn
      have zb : Sz b 1000000 := by rw [← hb]; exact (Sz.num d).mono sd
      rw [ha] at hn; rw [hb] at hd
      subst hn; subst hd
      simp only [right_enc] at H1 H2
      clear r1 r2
      by_cases b0 : b = 0
      · have q := enc_nil b0
        have qe : (encS b).toList.isEmpty = true := by rw [q]; rfl
        have HM := Lib.hid (hbad (by rw [hb, b0]; simp))
        rw [HM.out]
        clear b0 sn sd hbad ha hb za zb
        go_enter Tryz.func12, Tryz.ntmps12
        go_wp2_with fail
        refine (H1.out _).mono ?_
        rintro e w1 ⟨rfl, rfl⟩
        go_wp2_with fail
        refine (H2.out _).mono ?_
        rintro e w1 ⟨rfl, rfl⟩
        go_wp2_with fail
        refine bodyPost_ret (results_cell_row2 rfl _ _ wq.heap.size 26 _ (0, 0) _ rfl (by first | exact HXZ.out | exact row_set HXZ.out _ _ _) Tryz.underlying26 rfl (by kernel_rfl)) rfl ?_
        exact ⟨rfl, by first | exact HB0.out | exact below_row HB0.out (Nat.le_refl _) _ _ _⟩
      · have q := enc_not_nil b0
        have qe := enc_some b0
        have HL := Lib.hid (fun w => rlowest_n neg a b w (Nat.pos_of_ne_zero b0) za zb)
        have HM : Hid (makeV neg (encS a) (encS b) = .tuple #[rtV (low neg a b), .bool true]) := Lib.hid (by
          unfold makeV
          rw [right_enc, right_enc, numS_encS, numS_encS, decide_eq_true (Nat.pos_of_ne_zero b0)]; rfl)
        rw [HM.out]
        obtain ⟨L, hL⟩ : ∃ L, low neg a b = L := ⟨_, rfl⟩
        rw [hL] at HL ⊢
        clear b0 sn sd hbad ha hb za zb hL HM cz0 cz1 cz2 fz0 fz1 fz2
        go_enter Tryz.func12, Tryz.ntmps12
        go_wp2_with fail
        refine (H1.out _).mono ?_
        rintro e w1 ⟨rfl, rfl⟩
        go_wp2_with fail
        refine (H2.out _).mono ?_
        rintro e w1 ⟨rfl, rfl⟩
        go_wp2_with fail
        refine (HL.out _).mono ?_
        rintro e w3 ⟨rfl, hb⟩
        unfold rtV
        have HXZ := Lib.hid (heap_up hb HXZ.out); have HB0 := Lib.hid (HB0.out.trans (hb.mono HB0.out.size))
        clear hb
        obtain ⟨⟨cz0, cz1, cz2⟩, hfz⟩ := row_cells HXZ.out
        have fz0 := hfz 0; have fz1 := hfz 1; have fz2 := hfz 2
        clear hfz
        go_wp2_with fail
        refine bodyPost_ret (results_cell_row2 rfl _ _ wq.heap.size 26 _ (0, 0) _ rfl (row_set HXZ.out _ _ _) Tryz.underlying26 rfl (by kernel_rfl)) rfl ?_
        exact ⟨rfl, below_row HB0.out (Nat.le_refl _) _ _ _⟩
    · have hf : rightN d = false := by simpa using r2
      have HM := Lib.hid (hbad (by rw [hf]; simp))
      rw [HM.out]
      rw [hf] at H2; rw [r1] at H1
      clear hf r1 r2 hbad
      go_enter Tryz.func12, Tryz.ntmps12
      go_wp2_with fail
      refine (H1.out _).mono ?_
      rintro e w1 ⟨rfl, rfl⟩
      go_wp2_with fail
      refine (H2.out _).mono ?_
      rintro e w1 ⟨rfl, rfl⟩
      go_wp2_with fail
      refine bodyPost_ret (results_cell_row2 rfl _ _ wq.heap.size 26 _ (0, 0) _ rfl (by first | exact HXZ.out | exact row_set HXZ.out _ _ _) Tryz.underlying26 rfl (by kernel_rfl)) rfl ?_
      exact ⟨rfl, by first | exact HB0.out | exact below_row HB0.out (Nat.le_refl _) _ _ _⟩
  · have hf : rightN n = false := by simpa using r1
    have HM := Lib.hid (hbad (by rw [hf]; simp))
    rw [HM.out]
    rw [hf] at H1
    clear hf r1 hbad
    go_enter Tryz.func12, Tryz.ntmps12
    go_wp2_with fail
    refine (H1.out _).mono ?_
    rintro e w1 ⟨rfl, rfl⟩
    go_wp2_with fail
    refine (H2.out _).mono ?_
    rintro e w1 ⟨rfl, rfl⟩
    go_wp2_with fail
    refine bodyPost_ret (results_cell_row2 rfl _ _ wq.heap.size 26 _ (0, 0) _ rfl (by first | exact HXZ.out | exact row_set HXZ.out _ _ _) Tryz.underlying26 rfl (by kernel_rfl)) rfl ?_
    exact ⟨rfl, by first | exact HB0.out | exact below_row HB0.out (Nat.le_refl _) _ _ _⟩
set_option maxHeartbeats 1000000 in
set_option maxRecDepth 100000 in
theorem rRatSign_r {va : Value} {ra : Rt} {k : Nat} (ha : IsR va ra k) (hk : k ≤ 1000000) (wq : World) :
    Calls Tryz.prog 40 #[va] wq fun e w' => e = .returned (.int .i64 (sgnR ra)) ∧ Below wq.heap.size wq w' := by
  have HVA := Lib.hid (fun w => rvalue_r ha (by omega) w)
  obtain ⟨na, sa, da, rfl, -⟩ := ha
  clear hk
  have hxa := heap_alloc_new wq (.cells #[.bool na, .string sa, .string da] 26)
  have hb0 := (Below.refl wq.heap.size wq).alloc (Nat.le_refl _) (.cells #[.bool na, .string sa, .string da] 26)
  obtain ⟨W1, hW1⟩ : ∃ W1, wq.alloc (.cells #[.bool na, .string sa, .string da] 26) = W1 := ⟨_, rfl⟩
  rw [hW1] at hxa hb0
  obtain ⟨⟨ca0, ca1, ca2⟩, -⟩ := row_cells hxa
  have HXA := Lib.hid hxa; have HB0 := Lib.hid hb0
  clear hxa hb0
  go_enter Tryz.func40, Tryz.ntmps40
  go_wp2_with fail
  refine (HVA.out _).mono ?_
  rintro e w1 ⟨rfl, hb⟩
  have HXA := Lib.hid (heap_up hb HXA.out); have HB0 := Lib.hid (HB0.out.trans (hb.mono HB0.out.size))
  clear hb ca0 ca1 ca2 hW1
  obtain ⟨⟨cb0, cb1, cb2⟩, hfb⟩ := row_cells HXA.out
  have fb0 := hfb 0; have fb1 := hfb 1; have fb2 := hfb 2
  obtain ⟨W2, hW2⟩ : ∃ W2, ((w1.setCell ⟨wq.heap.size, 0, none⟩ (.bool ra.neg)).setCell ⟨wq.heap.size, 1, none⟩ (.string (encS ra.num))).setCell ⟨wq.heap.size, 2, none⟩ (.string (encS ra.den)) = W2 := ⟨_, rfl⟩
  have hx2 := row_set HXA.out (.bool ra.neg) (.string (encS ra.num)) (.string (encS ra.den))
  have HB2 := Lib.hid (below_row HB0.out (b := wq.heap.size) (Nat.le_refl _) (.bool ra.neg) (.string (encS ra.num)) (.string (encS ra.den)))
  rw [hW2] at hx2 HB2
  obtain ⟨⟨cc0, cc1, cc2⟩, -⟩ := row_cells hx2
  clear hfb hx2
  obtain ⟨nn, hnn⟩ : ∃ b, ra.neg = b := ⟨_, rfl⟩
  obtain ⟨m, hm⟩ : ∃ m, ra.num = m := ⟨_, rfl⟩
  have HS : Hid (sgnR ra = if m = 0 then 0 else if nn then -1 else 1) := Lib.hid (by unfold sgnR; rw [hnn, hm])
  simp only [hnn, hm] at hW2 cc0 cc1 ⊢
  by_cases m0 : m = 0
  · have q := enc_nil m0
    have qe : (encS m).toList.isEmpty = true := by rw [q]; rfl
    have HS2 : Hid (sgnR ra = 0) := Lib.hid (by rw [HS.out, if_pos m0])
    clear HS m0 hnn hm
    go_wp2_with fail
    go_ret
    exact ⟨by rw [HS2.out]; rfl, HB2.out⟩
  · have q := enc_not_nil m0
    have qe := enc_some m0
    have HS2 : Hid (sgnR ra = if nn then -1 else 1) := Lib.hid (by rw [HS.out, if_neg m0])
    clear HS m0 hnn hm
    cases nn
    all_goals
      go_wp2_with fail
      go_ret
      exact ⟨by rw [HS2.out]; rfl, HB2.out⟩
set_option maxHeartbeats 1000000 in
set_option maxRecDepth 100000 in
theorem rRatNeg_r {va : Value} {ra : Rt} {k : Nat} (ha : IsR va ra k) (hk : k ≤ 1000000) (wq : World) :
    Calls Tryz.prog 41 #[va] wq fun e w' => e = .returned (rtV (negR ra)) ∧ Below wq.heap.size wq w' := by
  have HVA := Lib.hid (fun w => rvalue_r ha (by omega) w)
  have hok := ha.ok
  obtain ⟨na, sa, da, rfl, -⟩ := ha
  clear hk
  obtain ⟨W3, hW3, hxa, hxz, hb3⟩ := boxes2 wq (.cells #[.bool na, .string sa, .string da] 26) (.cells #[.bool false, .string ⟨#[]⟩, .string ⟨#[]⟩] 26)
  obtain ⟨⟨ca0, ca1, ca2⟩, -⟩ := row_cells hxa
  go_enter Tryz.func41, Tryz.ntmps41
  go_wp2_with fail
  obtain ⟨ba, hba⟩ : ∃ b, wq.heap.size = b := ⟨_, rfl⟩
  obtain ⟨bz, hbz⟩ : ∃ b, ba + 1 = b := ⟨_, rfl⟩
  refine (HVA.out _).mono ?_
  rintro e w1 ⟨rfl, hb⟩
  have hxa1 := heap_up hb hxa
  have hxz1 := heap_up hb hxz
  rw [hba] at hxa1 hxz1 ⊢
  rw [hbz] at hxz1 ⊢
  obtain ⟨⟨cb0, cb1, cb2⟩, hfb⟩ := row_cells hxa1
  have fb0 := hfb 0; have fb1 := hfb 1; have fb2 := hfb 2
  obtain ⟨nn, hnn⟩ : ∃ b, ra.neg = b := ⟨_, rfl⟩
  obtain ⟨m, hm⟩ : ∃ m, ra.num = m := ⟨_, rfl⟩
  rw [hnn, hm]
  have hxa2 := row_set hxa1 (.bool nn) (.string (encS m)) (.string (encS ra.den))
  obtain ⟨W2, hW2⟩ : ∃ W2, ((w1.setCell ⟨ba, 0, none⟩ (.bool nn)).setCell ⟨ba, 1, none⟩ (.string (encS m))).setCell ⟨ba, 2, none⟩ (.string (encS ra.den)) = W2 := ⟨_, rfl⟩
  have hne : ba ≠ bz := by omega
  have hxz2 : W2.heap[bz]? = some (.cells #[.bool false, .string ⟨#[]⟩, .string ⟨#[]⟩] 26 (0, 0)) := by rw [← hW2]; simpa [World.setCell, Array.getElem?_modify, hne] using hxz1
  rw [hW2] at hxa2
  have HB2 : Hid (Below wq.heap.size wq W2) := Lib.hid (by rw [← hW2]; exact below_row (hb3.trans (hb.mono hb3.size)) (by omega) _ _ _)
  obtain ⟨⟨cc0, cc1, cc2⟩, hfc⟩ := row_cells hxa2
  have fc0 := hfc 0
  by_cases m0 : m = 0
  · have q := enc_nil m0
    have qe : (encS m).toList.isEmpty = true := by rw [q]; rfl
    have HN : Hid (negR ra = ⟨nn, m, ra.den⟩) := Lib.hid (by
      unfold negR; rw [hnn, hm]
      have hz : nn = false := by
        cases hq : nn
        · rfl
        · have := hok.nz (by rw [hnn, hq]); omega
      rw [hz]; simp [m0])
    obtain ⟨⟨cz0, cz1, cz2⟩, hfz⟩ := row_cells hxz2
    have fz0 := hfz 0; have fz1 := hfz 1; have fz2 := hfz 2
    have HROW := Lib.hid (row_set hxz2 (.bool nn) (.string (encS m)) (.string (encS ra.den)))
    have HBW := Lib.hid (below_row HB2.out (b := bz) (by omega) (.bool nn) (.string (encS m)) (.string (encS ra.den)))
    clear hxa hxz hxa1 hxz1 hxa2 hxz2 hb hb3 hfb hfc hfz hne hW3 m0 hnn hm hok
    go_wp2_with fail
    refine bodyPost_ret (results_cell_row rfl _ _ bz 26 _ (0, 0) _ rfl HROW.out Tryz.underlying26 rfl (by kernel_rfl)) rfl ?_
    have hbwf := HBW.out
    refine ⟨?_, by first | exact hbwf | (rw [hba] at hbwf; exact hbwf)⟩
    rw [HN.out]; rfl
  · have q := enc_not_nil m0
    have qe := enc_some m0
    obtain ⟨n2, hn2⟩ : ∃ b, (!nn) = b := ⟨_, rfl⟩
    have HN : Hid (negR ra = ⟨n2, m, ra.den⟩) := Lib.hid (by
      unfold negR; rw [hnn, hm, ← hn2, decide_eq_true (Nat.pos_of_ne_zero m0), Bool.and_true])
    obtain ⟨W4, hW4⟩ : ∃ W4, W2.setCell ⟨ba, 0, none⟩ (.bool n2) = W4 := ⟨_, rfl⟩
    have hxa4 : W4.heap[ba]? = some (.cells #[.bool n2, .string (encS m), .string (encS ra.den)] 26 (0, 0)) := by rw [← hW4]; simp [World.setCell, Array.getElem?_modify, hxa2]
    have hxz4 : W4.heap[bz]? = some (.cells #[.bool false, .string ⟨#[]⟩, .string ⟨#[]⟩] 26 (0, 0)) := by rw [← hW4]; simpa [World.setCell, Array.getElem?_modify, hne] using hxz2
    have HB4 : Hid (Below wq.heap.size wq W4) := Lib.hid (by rw [← hW4]; exact HB2.out.setCell (p := ⟨ba, 0, none⟩) (by show wq.heap.size ≤ ba; omega) _)
    obtain ⟨⟨cd0, cd1, cd2⟩, -⟩ := row_cells hxa4
    obtain ⟨⟨cz0, cz1, cz2⟩, hfz⟩ := row_cells hxz4
    have fz0 := hfz 0; have fz1 := hfz 1; have fz2 := hfz 2
    have HROW := Lib.hid (row_set hxz4 (.bool n2) (.string (encS m)) (.string (encS ra.den)))
    have HBW := Lib.hid (below_row HB4.out (b := bz) (by omega) (.bool n2) (.string (encS m)) (.string (encS ra.den)))
    clear hxa hxz hxa1 hxz1 hxa2 hxz2 hxa4 hxz4 hb hb3 hfb hfc hfz hne hW3 m0 hnn hm hok
    go_wp2_with fail
    refine bodyPost_ret (results_cell_row rfl _ _ bz 26 _ (0, 0) _ rfl HROW.out Tryz.underlying26 rfl (by kernel_rfl)) rfl ?_
    have hbwf := HBW.out
    refine ⟨?_, by first | exact hbwf | (rw [hba] at hbwf; exact hbwf)⟩
    rw [HN.out]; rfl
end Go.Proofs.YtancflpioigjbaaGreatDoor
