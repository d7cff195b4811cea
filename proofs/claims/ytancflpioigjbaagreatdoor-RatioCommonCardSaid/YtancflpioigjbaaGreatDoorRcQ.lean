/- Package ratio: Parse. Each theorem names its conditions. -/
import Derived.Test.YtancflpioigjbaaGreatDoorRcP
namespace Go.Proofs.YtancflpioigjbaaGreatDoor
open Go.RowKit Go.Shelf
open Dgt
set_option linter.unusedVariables false

set_option maxHeartbeats 2000000 in
set_option maxRecDepth 100000 in
theorem RatParse_any (l : List UInt8) (wq : World) (hl : l.length ≤ 1000) (htab : Lib.TabIs Tryz.prog wq "internal/strconv.uint64pow10" .u64 Lib.pow10Tab) (m0 : Int) (hm : wq.cell? ⟨0, 0, none⟩ = some (.int .i64 m0)) :
    Calls Tryz.prog 21 #[.string ⟨l.toArray⟩] wq fun e w' => e = .returned (parseV l) ∧ Below wq.heap.size wq w' := by
  have h0 : 0 < wq.heap.size := by
    rcases Nat.eq_zero_or_pos wq.heap.size with h | h
    · have he : wq.heap[0]? = none := by rw [Array.getElem?_eq_none_iff]; omega
      simp [World.cell?, he] at hm
    · exact h
  have HMX : Hid (∀ W', Below wq.heap.size wq W' → W'.cell? ⟨0, 0, none⟩ = some (.int .i64 m0)) := Lib.hid fun W' h => by rw [cell_up h h0]; exact hm
  have HTB := Lib.hid (Lib.tabBelow_of_tabIs htab)
  have hr := parR_len l; have hA := parA_len l; have hD := parD_len l
  have hdt : (⟨l.toArray⟩ : ByteArray).data.toList = l := by simp
  have hd45 : (⟨#[45]⟩ : ByteArray).data.toList = [45] := rfl
  have HCP : Hid (∀ w, Calls Tryz.prog 60 #[.string ⟨l.toArray⟩, .string ⟨#[45]⟩] w fun e w' => e = .returned (.tuple #[.string ⟨(parR l).toArray⟩, .bool (parN l)]) ∧ w' = w) := Lib.hid fun w => by
    have h := Tryz.strings_CutPrefix ⟨l.toArray⟩ ⟨#[45]⟩ w
    rw [hdt, hd45] at h; exact h
  obtain ⟨neg, hneg⟩ : ∃ b, parN l = b := ⟨_, rfl⟩
  obtain ⟨R, hR⟩ : ∃ r, parR l = r := ⟨_, rfl⟩
  obtain ⟨A, hAe⟩ : ∃ r, parA l = r := ⟨_, rfl⟩
  obtain ⟨D, hDe⟩ : ∃ r, parD l = r := ⟨_, rfl⟩
  obtain ⟨X, hX⟩ : ∃ X, (Lib.cut R [47]).2.1 = X := ⟨_, rfl⟩
  obtain ⟨fd, hfd⟩ : ∃ b, (Lib.cut R [47]).2.2 = b := ⟨_, rfl⟩
  have HDX : Hid (D = if fd then X else [49]) := Lib.hid (by rw [← hDe, ← hfd, ← hX, ← hR]; rfl)
  have HC : Hid (∀ w, Below wq.heap.size wq w → Calls Tryz.prog 61 #[.string ⟨R.toArray⟩, .string ⟨#[47]⟩] w fun e w' => e = .returned (.tuple #[.string ⟨A.toArray⟩, .string ⟨X.toArray⟩, .bool fd]) ∧ Below w.heap.size w w') := Lib.hid fun w hw => by
    have hsz : (⟨R.toArray⟩ : ByteArray).size < 4294967281 := by
      show R.toArray.size < _
      rw [List.size_toArray, ← hR]; omega
    refine (Tryz.strings_Cut ⟨R.toArray⟩ ⟨#[47]⟩ m0 w hsz (HMX.out w hw)).mono ?_
    rintro e w' ⟨rfl, n, rfl⟩
    have hdt2 : (⟨R.toArray⟩ : ByteArray).data.toList = R := by simp
    have hd47 : (⟨#[47]⟩ : ByteArray).data.toList = [47] := rfl
    rw [hdt2, hd47, hX, hfd]
    refine ⟨?_, below_drewN (Below.refl _ _) n⟩
    rw [← hAe]; unfold parA; rw [hR]
  have sA : (⟨A.toArray⟩ : ByteArray).size ≤ 1000 := by show A.toArray.size ≤ _; rw [List.size_toArray, ← hAe]; omega
  have sD : (⟨D.toArray⟩ : ByteArray).size ≤ 1001 := by show D.toArray.size ≤ _; rw [List.size_toArray, ← hDe]; omega
  have HPA := Lib.hid (fun w => Parse_any ⟨A.toArray⟩ w (by omega)); have HPD := Lib.hid (fun w => Parse_any ⟨D.toArray⟩ w (by omega))
  have zA := (parV_sz ⟨A.toArray⟩).mono (show _ ≤ 1001 by omega); have zD := (parV_sz ⟨D.toArray⟩).mono (show _ ≤ 1001 by omega)
  obtain ⟨n, hn⟩ : ∃ n, parV ⟨A.toArray⟩ = n := ⟨_, rfl⟩
  obtain ⟨d, hd⟩ : ∃ d, parV ⟨D.toArray⟩ = d := ⟨_, rfl⟩
  obtain ⟨o1, ho1⟩ : ∃ b, parB ⟨A.toArray⟩ = b := ⟨_, rfl⟩
  obtain ⟨o2, ho2⟩ : ∃ b, parB ⟨D.toArray⟩ = b := ⟨_, rfl⟩
  simp only [hn, ho1] at HPA; simp only [hd, ho2] at HPD
  rw [hn] at zA; rw [hd] at zD
  have HMK := Lib.hid (fun w => RatMake_any neg (encS n) (encS d) w (Nat.le_trans (encS_size_lt zA) (by decide)) (Nat.le_trans (encS_size_lt zD) (by decide)))
  obtain ⟨L, hL⟩ : ∃ L, low neg n d = L := ⟨_, rfl⟩
  have HMV : Hid (makeV neg (encS n) (encS d) = if 0 < d then .tuple #[rtV L, .bool true] else .tuple #[.agg #[.bool false, .string ⟨#[]⟩, .string ⟨#[]⟩], .bool false]) := Lib.hid (by
    unfold makeV; rw [right_enc, right_enc, numS_encS, numS_encS, hL]
    by_cases h : 0 < d <;> simp [h])
  have HPL : Hid (parL l = L) := Lib.hid (by unfold parL; rw [hneg, hAe, hDe, hn, hd, hL])
  have HPO : Hid (parO l = (o1 && o2 && decide (0 < d) && decide (textS L = ⟨l.toArray⟩))) := Lib.hid (by unfold parO; rw [HPL.out, hAe, hDe, ho1, ho2, hd])
  have HTX : Hid (0 < d → ∀ w, Below wq.heap.size wq w → Calls Tryz.prog 19 #[.agg #[.bool L.neg, .string (encS L.num), .string (encS L.den)]] w fun e w' => e = .returned (.string (textS L)) ∧ Below w.heap.size w w') := Lib.hid fun hd0 w hw => by
    have hok : L.Ok := by rw [← hL]; exact low_ok neg hd0
    have hrz : Rz L 1001 := by rw [← hL]; exact low_sz zA zD
    exact RatText_r (IsR.of hok hrz) (by decide) (by decide) w (HTB.out.on hw).here
  rw [hneg, hR] at HCP
  have HXZ := Lib.hid (zeroR_row wq)
  have HB0 := Lib.hid (below_zrow wq (Below.refl _ _))
  clear hr hA hD hdt hd45 hneg hR hAe hDe hX hfd sA sD zA zD hn hd ho1 ho2 hL htab hm h0 hl
  go_enter Tryz.func21, Tryz.ntmps21
  go_wp2_with fail
  refine (HCP.out _).mono ?_
  rintro e w1 ⟨rfl, rfl⟩
  go_wp2_with fail
  refine (HC.out _ HB0.out).mono ?_
  rintro e w2 ⟨rfl, hb⟩
  have HXZ := Lib.hid (heap_up hb HXZ.out); have HB0 := Lib.hid (HB0.out.trans (hb.mono HB0.out.size))
  clear hb
  have hfin : ∀ Z : List UInt8, Z = D → ∃ z, z = Z := fun Z _ => ⟨Z, rfl⟩
  cases fd
  all_goals
    have hDX := HDX.out
    simp only [if_true, if_false, Bool.false_eq_true] at hDX
    subst hDX
    go_wp2_with fail
    refine (HPA.out _).mono ?_
    rintro e w3 ⟨rfl, hb⟩
    have HXZ := Lib.hid (heap_up hb HXZ.out); have HB0 := Lib.hid (HB0.out.trans (hb.mono HB0.out.size))
    clear hb
    go_wp2_with fail
    refine (HPD.out _).mono ?_
    rintro e w4 ⟨rfl, hb⟩
    have HXZ := Lib.hid (heap_up hb HXZ.out); have HB0 := Lib.hid (HB0.out.trans (hb.mono HB0.out.size))
    clear hb
    go_wp2_with fail
    refine (HMK.out _).mono ?_
    rintro e w5 ⟨rfl, hb⟩
    have HXZ := Lib.hid (heap_up hb HXZ.out); have HB0 := Lib.hid (HB0.out.trans (hb.mono HB0.out.size))
    clear hb
    rw [HMV.out]
    have HBAD : Hid (parO l = false → parseV l = .tuple #[.agg #[.bool false, .string ⟨#[]⟩, .string ⟨#[]⟩], .bool false]) := Lib.hid fun h => by unfold parseV; rw [h]; rfl
    have HGOOD : Hid (parO l = true → parseV l = .tuple #[rtV L, .bool true]) := Lib.hid fun h => by unfold parseV; rw [h, HPL.out]; rfl
    by_cases d0 : 0 < d
    · rw [if_pos d0]
      unfold rtV
      have HT2 := Lib.hid (HTX.out d0)
      rw [decide_eq_true d0] at HPO
      clear d0
      cases o1
      · have HB9 := Lib.hid (HBAD.out (by rw [HPO.out]; simp))
        have hz6 := heap_up ((Below.refl _ w5).alloc (Nat.le_refl _) (.cells #[.bool L.neg, .string (encS L.num), .string (encS L.den)] 26)) HXZ.out
        obtain ⟨⟨cz0, cz1, cz2⟩, hfz⟩ := row_cells hz6
        have fz0 := hfz 0; have fz1 := hfz 1; have fz2 := hfz 2
        have HROW := Lib.hid (row_set hz6 (.bool false) (.string ⟨#[]⟩) (.string ⟨#[]⟩))
        have HBW := Lib.hid (below_row (HB0.out.alloc HB0.out.size (.cells #[.bool L.neg, .string (encS L.num), .string (encS L.den)] 26)) (b := wq.heap.size) (Nat.le_refl _) (.bool false) (.string ⟨#[]⟩) (.string ⟨#[]⟩))
        clear hz6 hfz
        go_wp2_with fail
        refine bodyPost_ret (results_cell_row2 rfl _ _ wq.heap.size 26 _ (0, 0) _ rfl HROW.out Tryz.underlying26 rfl (by kernel_rfl)) rfl ?_
        exact ⟨by first | (rw [HB9.out]; rfl) | (rw [HG.out]; rfl), HBW.out⟩
      · cases o2
        · have HB9 := Lib.hid (HBAD.out (by rw [HPO.out]; simp))
          have hz6 := heap_up ((Below.refl _ w5).alloc (Nat.le_refl _) (.cells #[.bool L.neg, .string (encS L.num), .string (encS L.den)] 26)) HXZ.out
          obtain ⟨⟨cz0, cz1, cz2⟩, hfz⟩ := row_cells hz6
          have fz0 := hfz 0; have fz1 := hfz 1; have fz2 := hfz 2
          have HROW := Lib.hid (row_set hz6 (.bool false) (.string ⟨#[]⟩) (.string ⟨#[]⟩))
          have HBW := Lib.hid (below_row (HB0.out.alloc HB0.out.size (.cells #[.bool L.neg, .string (encS L.num), .string (encS L.den)] 26)) (b := wq.heap.size) (Nat.le_refl _) (.bool false) (.string ⟨#[]⟩) (.string ⟨#[]⟩))
          clear hz6 hfz
          go_wp2_with fail
          refine bodyPost_ret (results_cell_row2 rfl _ _ wq.heap.size 26 _ (0, 0) _ rfl HROW.out Tryz.underlying26 rfl (by kernel_rfl)) rfl ?_
          exact ⟨by first | (rw [HB9.out]; rfl) | (rw [HG.out]; rfl), HBW.out⟩
        · have hb6 := HB0.out.alloc HB0.out.size (.cells #[.bool L.neg, .string (encS L.num), .string (encS L.den)] 26)
          have hx6 := heap_alloc_new w5 (.cells #[.bool L.neg, .string (encS L.num), .string (encS L.den)] 26)
          have hz6 := heap_up ((Below.refl _ w5).alloc (Nat.le_refl _) (.cells #[.bool L.neg, .string (encS L.num), .string (encS L.den)] 26)) HXZ.out
          obtain ⟨W6, hW6⟩ : ∃ W6, w5.alloc (.cells #[.bool L.neg, .string (encS L.num), .string (encS L.den)] 26) = W6 := ⟨_, rfl⟩
          rw [hW6] at hb6 hx6 hz6
          obtain ⟨⟨cx0, cx1, cx2⟩, -⟩ := row_cells hx6
          have HB6 := Lib.hid hb6; have HX6 := Lib.hid hx6; have HZ6 := Lib.hid hz6
          clear hb6 hx6 hz6
          go_wp2_with fail
          refine (HT2.out _ HB6.out).mono ?_
          rintro e w7 ⟨rfl, hb⟩
          have HXZ := Lib.hid (heap_up hb HZ6.out); have HX7 := Lib.hid (heap_up hb HX6.out); have HB0 := Lib.hid (HB6.out.trans (hb.mono HB6.out.size))
          clear hb cx0 cx1 cx2 hW6
          by_cases he : textS L = ⟨l.toArray⟩
          · rw [he]
            have HG := Lib.hid (HGOOD.out (by rw [HPO.out, decide_eq_true he]; rfl))
            obtain ⟨⟨cx0, cx1, cx2⟩, -⟩ := row_cells HX7.out
            clear he
            obtain ⟨⟨cz0, cz1, cz2⟩, hfz⟩ := row_cells HXZ.out
            have fz0 := hfz 0; have fz1 := hfz 1; have fz2 := hfz 2
            have HROW := Lib.hid (row_set HXZ.out (.bool L.neg) (.string (encS L.num)) (.string (encS L.den)))
            have HBW := Lib.hid (below_row HB0.out (b := wq.heap.size) (Nat.le_refl _) (.bool L.neg) (.string (encS L.num)) (.string (encS L.den)))
            clear hfz
            go_wp2_with fail
            refine bodyPost_ret (results_cell_row2 rfl _ _ wq.heap.size 26 _ (0, 0) _ rfl HROW.out Tryz.underlying26 rfl (by kernel_rfl)) rfl ?_
            exact ⟨by first | (rw [HB9.out]; rfl) | (rw [HG.out]; rfl), HBW.out⟩
          · have HG := Lib.hid (HBAD.out (by rw [HPO.out, decide_eq_false he]; simp))
            obtain ⟨T, hT⟩ : ∃ T, textS L = T := ⟨_, rfl⟩
            rw [hT] at he ⊢
            have hne : ¬ T.toList = (⟨l.toArray⟩ : ByteArray).toList := fun h => he (bytes_ext.1 h)
            have hne2 : ¬ T.toList = l := fun h => hne (h.trans (by rw [ByteArray.toList_eq]))
            have hne3 : (T.toList == l) = false := by simpa using hne2
            clear he hT
            obtain ⟨⟨cz0, cz1, cz2⟩, hfz⟩ := row_cells HXZ.out
            have fz0 := hfz 0; have fz1 := hfz 1; have fz2 := hfz 2
            have HROW := Lib.hid (row_set HXZ.out (.bool false) (.string ⟨#[]⟩) (.string ⟨#[]⟩))
            have HBW := Lib.hid (below_row HB0.out (b := wq.heap.size) (Nat.le_refl _) (.bool false) (.string ⟨#[]⟩) (.string ⟨#[]⟩))
            clear hfz
            go_wp2_with fail
            refine bodyPost_ret (results_cell_row2 rfl _ _ wq.heap.size 26 _ (0, 0) _ rfl HROW.out Tryz.underlying26 rfl (by kernel_rfl)) rfl ?_
            exact ⟨by first | (rw [HB9.out]; rfl) | (rw [HG.out]; rfl), HBW.out⟩
    · rw [if_neg d0]
      rw [decide_eq_false d0] at HPO
      have HB9 := Lib.hid (HBAD.out (by rw [HPO.out]; simp))
      clear d0
      have hz6 := heap_up ((Below.refl _ w5).alloc (Nat.le_refl _) (.cells #[.bool false, .string ⟨#[]⟩, .string ⟨#[]⟩] 26)) HXZ.out
      obtain ⟨⟨cz0, cz1, cz2⟩, hfz⟩ := row_cells hz6
      have fz0 := hfz 0; have fz1 := hfz 1; have fz2 := hfz 2
      have HROW := Lib.hid (row_set hz6 (.bool false) (.string ⟨#[]⟩) (.string ⟨#[]⟩))
      have HBW := Lib.hid (below_row (HB0.out.alloc HB0.out.size (.cells #[.bool false, .string ⟨#[]⟩, .string ⟨#[]⟩] 26)) (b := wq.heap.size) (Nat.le_refl _) (.bool false) (.string ⟨#[]⟩) (.string ⟨#[]⟩))
      clear hz6 hfz
      cases o1 <;> cases o2
      all_goals
        go_wp2_with fail
        refine bodyPost_ret (results_cell_row2 rfl _ _ wq.heap.size 26 _ (0, 0) _ rfl HROW.out Tryz.underlying26 rfl (by kernel_rfl)) rfl ?_
        exact ⟨by first | (rw [HB9.out]; rfl) | (rw [HG.out]; rfl), HBW.out⟩
end Go.Proofs.YtancflpioigjbaaGreatDoor
