/- Reference of ratio: Parse. Each theorem names its conditions. -/
import Derived.Test.YtancflpioigjbaaGreatDoorRcP
namespace Go.Proofs.YtancflpioigjbaaGreatDoor
open Go.RowKit Go.Shelf
open Dgt
set_option linter.unusedVariables false

theorem par_facts (l A D : List UInt8) (hA : parA l = A) (hD : parD l = D) (hl : l.length ≤ 1000) : ∃ (n d : Nat) (o1 o2 : Bool) (L : Rt),
    (∀ w, Calls Tryz.prog 63 #[.string ⟨A.toArray⟩] w fun e w' => e = .returned (.tuple #[.string (encS n), .bool o1]) ∧ Below w.heap.size w w') ∧
    (∀ w, Calls Tryz.prog 63 #[.string ⟨D.toArray⟩] w fun e w' => e = .returned (.tuple #[.string (encS d), .bool o2]) ∧ Below w.heap.size w w') ∧
    (∀ w, Calls Tryz.prog 12 #[.bool (parN l), .string (encS n), .string (encS d)] w fun e w' => e = .returned (if 0 < d then .tuple #[rtV L, .bool true] else .tuple #[.agg #[.bool false, .string ⟨#[]⟩, .string ⟨#[]⟩], .bool false]) ∧ Below w.heap.size w w') ∧
    (0 < d → ∀ w, Calls Tryz.prog 20 #[.agg #[.bool L.neg, .string (encS L.num), .string (encS L.den)]] w fun e w' => e = .returned (.string (textS L)) ∧ Below w.heap.size w w') ∧
    parO l = (o1 && o2 && decide (0 < d) && decide (textS L = ⟨l.toArray⟩)) ∧ parL l = L := by
  have hAl := parA_len l; have hDl := parD_len l
  have sA : (⟨A.toArray⟩ : ByteArray).size ≤ 1000 := by show A.toArray.size ≤ _; rw [List.size_toArray, ← hA]; omega
  have sD : (⟨D.toArray⟩ : ByteArray).size ≤ 1001 := by show D.toArray.size ≤ _; rw [List.size_toArray, ← hD]; omega
  have zA := (parV_sz ⟨A.toArray⟩).mono (show _ ≤ 1001 by omega); have zD := (parV_sz ⟨D.toArray⟩).mono (show _ ≤ 1001 by omega)
  refine ⟨parV ⟨A.toArray⟩, parV ⟨D.toArray⟩, parB ⟨A.toArray⟩, parB ⟨D.toArray⟩, low (parN l) (parV ⟨A.toArray⟩) (parV ⟨D.toArray⟩), fun w => rParse_any _ w (by omega), fun w => rParse_any _ w (by omega), fun w => ?_, fun hd0 w => ?_, ?_, ?_⟩
  · have h := rRatMake_any (parN l) (encS (parV ⟨A.toArray⟩)) (encS (parV ⟨D.toArray⟩)) w (Nat.le_trans (encS_size_lt zA) (by decide)) (Nat.le_trans (encS_size_lt zD) (by decide))
    have hm : makeV (parN l) (encS (parV ⟨A.toArray⟩)) (encS (parV ⟨D.toArray⟩)) = if 0 < parV ⟨D.toArray⟩ then .tuple #[rtV (low (parN l) (parV ⟨A.toArray⟩) (parV ⟨D.toArray⟩)), .bool true] else .tuple #[.agg #[.bool false, .string ⟨#[]⟩, .string ⟨#[]⟩], .bool false] := by
      unfold makeV; rw [right_enc, right_enc, numS_encS, numS_encS]
      by_cases h : 0 < parV ⟨D.toArray⟩ <;> simp [h]
    rw [hm] at h; exact h
  · exact rRatText_r (IsR.of (low_ok _ hd0) (low_sz zA zD)) (by decide) (by decide) w
  · unfold parO parL; rw [hA, hD]
  · unfold parL; rw [hA, hD]
theorem ext1 (l : List UInt8) (k : Nat) : (⟨l.toArray⟩ : ByteArray).extract k (⟨l.toArray⟩ : ByteArray).size = ⟨(l.drop k).toArray⟩ := by
  apply ByteArray.ext
  apply Array.ext'
  show ((⟨l.toArray⟩ : ByteArray).extract k l.toArray.size).data.toList = _
  rw [ByteArray.data_extract]; simp
  rw [List.take_of_length_le (by simp)]
theorem ext0 (l : List UInt8) (k : Nat) : (⟨l.toArray⟩ : ByteArray).extract 0 k = ⟨(l.take k).toArray⟩ := by
  apply ByteArray.ext
  apply Array.ext'
  rw [ByteArray.data_extract]; simp
set_option maxHeartbeats 1500000 in
set_option maxRecDepth 100000 in
theorem rRatParse_any (l : List UInt8) (wq : World) (hl : l.length ≤ 1000) :
    Calls Tryz.prog 22 #[.string ⟨l.toArray⟩] wq fun e w' => e = .returned (parseV l) ∧ Below wq.heap.size wq w' := by
  have HXZ := Lib.hid (zeroR_row wq)
  have HB0 := Lib.hid (below_zrow wq (Below.refl _ _))
  have HL := Lib.hid hl
  obtain ⟨s, hs⟩ : ∃ s, (⟨l.toArray⟩ : ByteArray) = s := ⟨_, rfl⟩
  have HS := Lib.hid hs
  have hsz : s.size = l.length := by rw [← hs]; show l.toArray.size = _; rw [List.size_toArray]
  have hsi : (s.size : Int) ≤ 1000 := by omega
  rw [hs]
  rcases hlc : l with _ | ⟨c, l'⟩
  · rw [← hlc]
    have hs0 : s.size = 0 := by rw [hsz, hlc]; rfl
    have hs1 : ¬ (0 : Int) < (s.size : Int) := by omega
    have hs2 : ¬ 0 < s.size := by omega
    obtain ⟨r, hr⟩ : ∃ r, s = r := ⟨_, rfl⟩
    obtain ⟨R, hRe⟩ : ∃ R, l = R := ⟨_, rfl⟩
    have HR : Hid ((⟨R.toArray⟩ : ByteArray) = r) := Lib.hid (by rw [← hRe, hs, hr])
    have HRS : Hid (r.size = R.length) := Lib.hid (by rw [← hr, hsz, hRe])
    have HRI : Hid ((r.size : Int) ≤ 1000) := Lib.hid (by rw [← hr]; exact hsi)
    have HSR := Lib.hid hr
    have HPN : Hid (parN l = false) := Lib.hid (by rw [hlc]; rfl)
    have HPR : Hid (parR l = R) := Lib.hid (by rw [← hRe, hlc]; rfl)
    clear hs0 hsz hsi hRe hlc hs hr hl
    go_enter Tryz.func22, Tryz.ntmps22
    go_wp2_with fail
    have hsr := HSR.out
    rw [hsr]
    clear hsr
    have hri := HRI.out
    clear hs1 hs2
    obtain ⟨W0, hW0⟩ : ∃ W0, wq.alloc (.cells #[.bool false, .string ⟨#[]⟩, .string ⟨#[]⟩] 26) = W0 := ⟨_, rfl⟩
    rw [hW0] at HXZ HB0 ⊢
    clear hW0
    go_loopw [8, 6, 7] (fun i nv dv wr => ∃ k : Nat, k ≤ r.size ∧ i = .int .i64 (k : Int) ∧ nv = .string r ∧ dv = .string ⟨#[49]⟩ ∧ Hid (∀ j (h : j < k) (h2 : j < R.length), R[j] ≠ 47) ∧ Hid (wr = W0)) (fun i _ _ _ => r.size - (intOf i).toNat)
    case atStart => exact ⟨0, by omega, rfl, rfl, rfl, Lib.hid (fun j h => by omega), Lib.hid rfl⟩
    case round =>
      obtain ⟨k, hk, rfl, rfl, rfl, HN, HWR⟩ := hrel
      obtain rfl := HWR.out
      by_cases hlt : k < r.size
      · have hlt' : (k : Int) < (r.size : Int) := by omega
        have hkR : k < R.length := by have := HRS.out; omega
        obtain ⟨x, hx⟩ : ∃ x, r[k].toNat = x := ⟨_, rfl⟩
        have hxR : R[k].toNat = x := by rw [← hx]; simp only [← HR.out]; rfl
        by_cases h47 : x = 47
        · subst h47
          have hc : R[k] = 47 := UInt8.toNat_inj.1 hxR
          have hix := cut_at hkR hc (fun j hj => HN.out j hj (by omega))
          have hcut : Lib.cut R [47] = (R.take k, R.drop (k + 1), true) := by unfold Lib.cut; rw [hix, if_pos (by omega)]; rfl
          have hA2 : r.extract 0 k = ⟨(R.take k).toArray⟩ := by rw [← HR.out, ext0]
          have hD2 : r.extract (k + 1) r.size = ⟨(R.drop (k + 1)).toArray⟩ := by rw [← HR.out, ext1]
          obtain ⟨n, d, o1, o2, L, hPA, hPD, hMK, hTX, hPO, hPL⟩ := par_facts l (R.take k) (R.drop (k + 1)) (by unfold parA; rw [HPR.out, hcut]) (by unfold parD; rw [HPR.out, hcut]; rfl) HL.out
          rw [HPN.out] at hMK
          have HPA := Lib.hid hPA; have HPD := Lib.hid hPD; have HMK := Lib.hid hMK; have HTX := Lib.hid hTX; have HPO := Lib.hid hPO; have HPL := Lib.hid hPL
          clear hPA hPD hMK hTX hPO hPL
          obtain ⟨A, hAe⟩ : ∃ A, R.take k = A := ⟨_, rfl⟩
          obtain ⟨D, hDe⟩ : ∃ D, R.drop (k + 1) = D := ⟨_, rfl⟩
          rw [hAe] at hA2 HPA; rw [hDe] at hD2 HPD
          have hkk : (k : Int) + 1 ≤ (r.size : Int) := by omega
          have hkk2 : k + 1 ≤ r.size := by omega
          clear hc hix hcut hxR hAe hDe
          go_wp2_with fail
          have HBAD : Hid (parO l = false → parseV l = .tuple #[.agg #[.bool false, .string ⟨#[]⟩, .string ⟨#[]⟩], .bool false]) := Lib.hid fun h => by unfold parseV; rw [h]; rfl
          have HGOOD : Hid (parO l = true → parseV l = .tuple #[rtV L, .bool true]) := Lib.hid fun h => by unfold parseV; rw [h, HPL.out]; rfl
          refine (HPA.out _).mono ?_
          rintro e w3 ⟨rfl, hb⟩
          have HXZ := Lib.hid (heap_up hb HXZ.out); have HB0 := Lib.hid (HB0.out.trans (hb.mono HB0.out.size))
          clear hb
          go_wp2_with fail
          refine (HPD.out _).mono ?_
          rintro e w4 ⟨rfl, hb⟩
          have HXZ := Lib.hid (heap_up hb HXZ.out); have HB0 := Lib.hid (HB0.out.trans (hb.mono HB0.out.size))
          clear hb
          cases o1
          · have HB9 := Lib.hid (HBAD.out (by rw [HPO.out]; simp))
            obtain ⟨⟨cz0, cz1, cz2⟩, hfz⟩ := row_cells HXZ.out
            have fz0 := hfz 0; have fz1 := hfz 1; have fz2 := hfz 2
            have HROW := Lib.hid (row_set HXZ.out (.bool false) (.string ⟨#[]⟩) (.string ⟨#[]⟩))
            have HBW := Lib.hid (below_row HB0.out (b := wq.heap.size) (Nat.le_refl _) (.bool false) (.string ⟨#[]⟩) (.string ⟨#[]⟩))
            clear hfz
            go_wp2_with fail
            refine bodyPost_ret (results_cell_row2 rfl _ _ wq.heap.size 26 _ (0, 0) _ rfl HROW.out Tryz.underlying26 rfl (by kernel_rfl)) rfl ?_
            exact ⟨by rw [HB9.out]; rfl, HBW.out⟩
          · cases o2
            · have HB9 := Lib.hid (HBAD.out (by rw [HPO.out]; simp))
              obtain ⟨⟨cz0, cz1, cz2⟩, hfz⟩ := row_cells HXZ.out
              have fz0 := hfz 0; have fz1 := hfz 1; have fz2 := hfz 2
              have HROW := Lib.hid (row_set HXZ.out (.bool false) (.string ⟨#[]⟩) (.string ⟨#[]⟩))
              have HBW := Lib.hid (below_row HB0.out (b := wq.heap.size) (Nat.le_refl _) (.bool false) (.string ⟨#[]⟩) (.string ⟨#[]⟩))
              clear hfz
              go_wp2_with fail
              refine bodyPost_ret (results_cell_row2 rfl _ _ wq.heap.size 26 _ (0, 0) _ rfl HROW.out Tryz.underlying26 rfl (by kernel_rfl)) rfl ?_
              exact ⟨by rw [HB9.out]; rfl, HBW.out⟩
            · go_wp2_with fail
              refine (HMK.out _).mono ?_
              rintro e w5 ⟨rfl, hb⟩
              have HXZ := Lib.hid (heap_up hb HXZ.out); have HB0 := Lib.hid (HB0.out.trans (hb.mono HB0.out.size))
              clear hb
              by_cases d0 : 0 < d
              · rw [if_pos d0]
                unfold rtV
                have HT2 := Lib.hid (HTX.out d0)
                rw [decide_eq_true d0] at HPO
                clear d0
                have hb6 := HB0.out.alloc HB0.out.size (.cells #[.bool L.neg, .string (encS L.num), .string (encS L.den)] 26)
                have hx6 := heap_alloc_new w5 (.cells #[.bool L.neg, .string (encS L.num), .string (encS L.den)] 26)
                have hz6 := heap_up ((Below.refl _ w5).alloc (Nat.le_refl _) (.cells #[.bool L.neg, .string (encS L.num), .string (encS L.den)] 26)) HXZ.out
                obtain ⟨W6, hW6⟩ : ∃ W6, w5.alloc (.cells #[.bool L.neg, .string (encS L.num), .string (encS L.den)] 26) = W6 := ⟨_, rfl⟩
                rw [hW6] at hb6 hx6 hz6
                obtain ⟨⟨cx0, cx1, cx2⟩, -⟩ := row_cells hx6
                have HB6 := Lib.hid hb6; have HX6 := Lib.hid hx6; have HZ6 := Lib.hid hz6
                clear hb6 hx6 hz6
                go_wp2_with fail
                refine (HT2.out _).mono ?_
                rintro e w7 ⟨rfl, hb⟩
                have HXZ := Lib.hid (heap_up hb HZ6.out); have HX7 := Lib.hid (heap_up hb HX6.out); have HB0 := Lib.hid (HB6.out.trans (hb.mono HB6.out.size))
                clear hb cx0 cx1 cx2 hW6
                by_cases he : textS L = s
                · have HG := Lib.hid (HGOOD.out (by rw [HPO.out, HS.out, decide_eq_true he]; rfl))
                  rw [he, HSR.out]
                  obtain ⟨⟨cx0, cx1, cx2⟩, -⟩ := row_cells HX7.out
                  clear he
                  obtain ⟨⟨cz0, cz1, cz2⟩, hfz⟩ := row_cells HXZ.out
                  have fz0 := hfz 0; have fz1 := hfz 1; have fz2 := hfz 2
                  have HROW := Lib.hid (row_set HXZ.out (.bool L.neg) (.string (encS L.num)) (.string (encS L.den)))
                  have HBW := Lib.hid (below_row HB0.out (b := wq.heap.size) (Nat.le_refl _) (.bool L.neg) (.string (encS L.num)) (.string (encS L.den)))
                  clear hfz
                  go_wp2_with fail
                  refine bodyPost_ret (results_cell_row2 rfl _ _ wq.heap.size 26 _ (0, 0) _ rfl HROW.out Tryz.underlying26 rfl (by kernel_rfl)) rfl ?_
                  exact ⟨by rw [HG.out]; rfl, HBW.out⟩
                · have HG := Lib.hid (HBAD.out (by rw [HPO.out, HS.out, decide_eq_false he]; simp))
                  rw [HSR.out] at he
                  obtain ⟨T, hT⟩ : ∃ T, textS L = T := ⟨_, rfl⟩
                  rw [hT] at he ⊢
                  have hne : ¬ T.toList = r.toList := fun h => he (bytes_ext.1 h)
                  have hne3 : (T.toList == r.toList) = false := by simpa using hne
                  clear he hT
                  obtain ⟨⟨cz0, cz1, cz2⟩, hfz⟩ := row_cells HXZ.out
                  have fz0 := hfz 0; have fz1 := hfz 1; have fz2 := hfz 2
                  have HROW := Lib.hid (row_set HXZ.out (.bool false) (.string ⟨#[]⟩) (.string ⟨#[]⟩))
                  have HBW := Lib.hid (below_row HB0.out (b := wq.heap.size) (Nat.le_refl _) (.bool false) (.string ⟨#[]⟩) (.string ⟨#[]⟩))
                  clear hfz
                  go_wp2_with fail
                  refine bodyPost_ret (results_cell_row2 rfl _ _ wq.heap.size 26 _ (0, 0) _ rfl HROW.out Tryz.underlying26 rfl (by kernel_rfl)) rfl ?_
                  exact ⟨by rw [HG.out]; rfl, HBW.out⟩
              · rw [if_neg d0]
                rw [decide_eq_false d0] at HPO
                have HB9 := Lib.hid (HBAD.out (by rw [HPO.out]; simp))
                clear d0
                have hz6 := heap_up ((Below.refl _ w5).alloc (Nat.le_refl _) (.cells #[.bool false, .string ⟨#[]⟩, .string ⟨#[]⟩] 26)) HXZ.out
                obtain ⟨⟨cz0, cz1, cz2⟩, hfz⟩ := row_cells hz6
                have fz0 := hfz 0; have fz1 := hfz 1; have fz2 := hfz 2
                have HROW := Lib.hid (row_set hz6 (.bool false) (.string ⟨#[]⟩) (.string ⟨#[]⟩))
                have HBW := Lib.hid (below_row (HB0.out.alloc HB0.out.size (.cells #[.bool false, .string ⟨#[]⟩, .string ⟨#[]⟩] 26)) (b := wq.heap.size) (Nat.le_refl _) (.bool false) (.string ⟨#[]⟩) (.string ⟨#[]⟩))
                clear hz6 hfz
                go_wp2_with fail
                refine bodyPost_ret (results_cell_row2 rfl _ _ wq.heap.size 26 _ (0, 0) _ rfl HROW.out Tryz.underlying26 rfl (by kernel_rfl)) rfl ?_
                exact ⟨by rw [HB9.out]; rfl, HBW.out⟩
        · have hxk : ¬ (x : Int) = 47 := by omega
          have HN2 : Hid (∀ j (h : j < k + 1) (h2 : j < R.length), R[j] ≠ 47) := Lib.hid fun j h h2 => by
            by_cases hj : j = k
            · subst hj; intro e; rw [e] at hxR; exact h47 hxR.symm
            · exact HN.out j (by omega) h2
          clear hxR h47
          go_wp2_with fail
          go_roundw
          case rel => exact ⟨k + 1, by omega, by go_num, rfl, rfl, HN2, Lib.hid (by first | trivial | rfl)⟩
          case measure => simp [intOf]; omega
      · have hge : (r.size : Int) ≤ (k : Int) := by omega
        have hix := cut_never (l := R) (fun j hj => HN.out j (by have := HRS.out; omega) hj)
        have hcut : Lib.cut R [47] = (R, [], false) := by unfold Lib.cut; rw [hix, if_neg (by decide)]
        obtain ⟨n, d, o1, o2, L, hPA, hPD, hMK, hTX, hPO, hPL⟩ := par_facts l R [49] (by unfold parA; rw [HPR.out, hcut]) (by unfold parD; rw [HPR.out, hcut]; rfl) HL.out
        rw [HPN.out] at hMK
        have HPA := Lib.hid hPA; have HPD := Lib.hid hPD; have HMK := Lib.hid hMK; have HTX := Lib.hid hTX; have HPO := Lib.hid hPO; have HPL := Lib.hid hPL
        clear hPA hPD hMK hTX hPO hPL
        rw [HR.out] at HPA
        clear hix hcut
        go_wp2_with fail
        have HBAD : Hid (parO l = false → parseV l = .tuple #[.agg #[.bool false, .string ⟨#[]⟩, .string ⟨#[]⟩], .bool false]) := Lib.hid fun h => by unfold parseV; rw [h]; rfl
        have HGOOD : Hid (parO l = true → parseV l = .tuple #[rtV L, .bool true]) := Lib.hid fun h => by unfold parseV; rw [h, HPL.out]; rfl
        refine (HPA.out _).mono ?_
        rintro e w3 ⟨rfl, hb⟩
        have HXZ := Lib.hid (heap_up hb HXZ.out); have HB0 := Lib.hid (HB0.out.trans (hb.mono HB0.out.size))
        clear hb
        go_wp2_with fail
        refine (HPD.out _).mono ?_
        rintro e w4 ⟨rfl, hb⟩
        have HXZ := Lib.hid (heap_up hb HXZ.out); have HB0 := Lib.hid (HB0.out.trans (hb.mono HB0.out.size))
        clear hb
        cases o1
        · have HB9 := Lib.hid (HBAD.out (by rw [HPO.out]; simp))
          obtain ⟨⟨cz0, cz1, cz2⟩, hfz⟩ := row_cells HXZ.out
          have fz0 := hfz 0; have fz1 := hfz 1; have fz2 := hfz 2
          have HROW := Lib.hid (row_set HXZ.out (.bool false) (.string ⟨#[]⟩) (.string ⟨#[]⟩))
          have HBW := Lib.hid (below_row HB0.out (b := wq.heap.size) (Nat.le_refl _) (.bool false) (.string ⟨#[]⟩) (.string ⟨#[]⟩))
          clear hfz
          go_wp2_with fail
          refine bodyPost_ret (results_cell_row2 rfl _ _ wq.heap.size 26 _ (0, 0) _ rfl HROW.out Tryz.underlying26 rfl (by kernel_rfl)) rfl ?_
          exact ⟨by rw [HB9.out]; rfl, HBW.out⟩
        · cases o2
          · have HB9 := Lib.hid (HBAD.out (by rw [HPO.out]; simp))
            obtain ⟨⟨cz0, cz1, cz2⟩, hfz⟩ := row_cells HXZ.out
            have fz0 := hfz 0; have fz1 := hfz 1; have fz2 := hfz 2
            have HROW := Lib.hid (row_set HXZ.out (.bool false) (.string ⟨#[]⟩) (.string ⟨#[]⟩))
            have HBW := Lib.hid (below_row HB0.out (b := wq.heap.size) (Nat.le_refl _) (.bool false) (.string ⟨#[]⟩) (.string ⟨#[]⟩))
            clear hfz
            go_wp2_with fail
            refine bodyPost_ret (results_cell_row2 rfl _ _ wq.heap.size 26 _ (0, 0) _ rfl HROW.out Tryz.underlying26 rfl (by kernel_rfl)) rfl ?_
            exact ⟨by rw [HB9.out]; rfl, HBW.out⟩
          · go_wp2_with fail
            refine (HMK.out _).mono ?_
            rintro e w5 ⟨rfl, hb⟩
            have HXZ := Lib.hid (heap_up hb HXZ.out); have HB0 := Lib.hid (HB0.out.trans (hb.mono HB0.out.size))
            clear hb
            by_cases d0 : 0 < d
            · rw [if_pos d0]
              unfold rtV
              have HT2 := Lib.hid (HTX.out d0)
              rw [decide_eq_true d0] at HPO
              clear d0
              have hb6 := HB0.out.alloc HB0.out.size (.cells #[.bool L.neg, .string (encS L.num), .string (encS L.den)] 26)
              have hx6 := heap_alloc_new w5 (.cells #[.bool L.neg, .string (encS L.num), .string (encS L.den)] 26)
              have hz6 := heap_up ((Below.refl _ w5).alloc (Nat.le_refl _) (.cells #[.bool L.neg, .string (encS L.num), .string (encS L.den)] 26)) HXZ.out
              obtain ⟨W6, hW6⟩ : ∃ W6, w5.alloc (.cells #[.bool L.neg, .string (encS L.num), .string (encS L.den)] 26) = W6 := ⟨_, rfl⟩
              rw [hW6] at hb6 hx6 hz6
              obtain ⟨⟨cx0, cx1, cx2⟩, -⟩ := row_cells hx6
              have HB6 := Lib.hid hb6; have HX6 := Lib.hid hx6; have HZ6 := Lib.hid hz6
              clear hb6 hx6 hz6
              go_wp2_with fail
              refine (HT2.out _).mono ?_
              rintro e w7 ⟨rfl, hb⟩
              have HXZ := Lib.hid (heap_up hb HZ6.out); have HX7 := Lib.hid (heap_up hb HX6.out); have HB0 := Lib.hid (HB6.out.trans (hb.mono HB6.out.size))
              clear hb cx0 cx1 cx2 hW6
              by_cases he : textS L = s
              · have HG := Lib.hid (HGOOD.out (by rw [HPO.out, HS.out, decide_eq_true he]; rfl))
                rw [he, HSR.out]
                obtain ⟨⟨cx0, cx1, cx2⟩, -⟩ := row_cells HX7.out
                clear he
                obtain ⟨⟨cz0, cz1, cz2⟩, hfz⟩ := row_cells HXZ.out
                have fz0 := hfz 0; have fz1 := hfz 1; have fz2 := hfz 2
                have HROW := Lib.hid (row_set HXZ.out (.bool L.neg) (.string (encS L.num)) (.string (encS L.den)))
                have HBW := Lib.hid (below_row HB0.out (b := wq.heap.size) (Nat.le_refl _) (.bool L.neg) (.string (encS L.num)) (.string (encS L.den)))
                clear hfz
                go_wp2_with fail
                refine bodyPost_ret (results_cell_row2 rfl _ _ wq.heap.size 26 _ (0, 0) _ rfl HROW.out Tryz.underlying26 rfl (by kernel_rfl)) rfl ?_
                exact ⟨by rw [HG.out]; rfl, HBW.out⟩
              · have HG := Lib.hid (HBAD.out (by rw [HPO.out, HS.out, decide_eq_false he]; simp))
                rw [HSR.out] at he
                obtain ⟨T, hT⟩ : ∃ T, textS L = T := ⟨_, rfl⟩
                rw [hT] at he ⊢
                have hne : ¬ T.toList = r.toList := fun h => he (bytes_ext.1 h)
                have hne3 : (T.toList == r.toList) = false := by simpa using hne
                clear he hT
                obtain ⟨⟨cz0, cz1, cz2⟩, hfz⟩ := row_cells HXZ.out
                have fz0 := hfz 0; have fz1 := hfz 1; have fz2 := hfz 2
                have HROW := Lib.hid (row_set HXZ.out (.bool false) (.string ⟨#[]⟩) (.string ⟨#[]⟩))
                have HBW := Lib.hid (below_row HB0.out (b := wq.heap.size) (Nat.le_refl _) (.bool false) (.string ⟨#[]⟩) (.string ⟨#[]⟩))
                clear hfz
                go_wp2_with fail
                refine bodyPost_ret (results_cell_row2 rfl _ _ wq.heap.size 26 _ (0, 0) _ rfl HROW.out Tryz.underlying26 rfl (by kernel_rfl)) rfl ?_
                exact ⟨by rw [HG.out]; rfl, HBW.out⟩
            · rw [if_neg d0]
              rw [decide_eq_false d0] at HPO
              have HB9 := Lib.hid (HBAD.out (by rw [HPO.out]; simp))
              clear d0
              have hz6 := heap_up ((Below.refl _ w5).alloc (Nat.le_refl _) (.cells #[.bool false, .string ⟨#[]⟩, .string ⟨#[]⟩] 26)) HXZ.out
              obtain ⟨⟨cz0, cz1, cz2⟩, hfz⟩ := row_cells hz6
              have fz0 := hfz 0; have fz1 := hfz 1; have fz2 := hfz 2
              have HROW := Lib.hid (row_set hz6 (.bool false) (.string ⟨#[]⟩) (.string ⟨#[]⟩))
              have HBW := Lib.hid (below_row (HB0.out.alloc HB0.out.size (.cells #[.bool false, .string ⟨#[]⟩, .string ⟨#[]⟩] 26)) (b := wq.heap.size) (Nat.le_refl _) (.bool false) (.string ⟨#[]⟩) (.string ⟨#[]⟩))
              clear hz6 hfz
              go_wp2_with fail
              refine bodyPost_ret (results_cell_row2 rfl _ _ wq.heap.size 26 _ (0, 0) _ rfl HROW.out Tryz.underlying26 rfl (by kernel_rfl)) rfl ?_
              exact ⟨by rw [HB9.out]; rfl, HBW.out⟩
  · rw [← hlc]
    by_cases h45 : c = 45
    · subst h45
      have hs0 : 0 < s.size := by rw [hsz, hlc]; simp
      have hs1 : (0 : Int) < (s.size : Int) := by omega
      obtain ⟨x, hx⟩ : ∃ x, (s[0]'hs0).toNat = x := ⟨_, rfl⟩
      have hxc : x = (45 : UInt8).toNat := by rw [← hx]; subst hs; subst hlc; rfl
      have hx45 : x = 45 := hxc
      subst hx45
      obtain ⟨R, hRe⟩ : ∃ R, l' = R := ⟨_, rfl⟩
      obtain ⟨r, hr⟩ : ∃ r, (⟨R.toArray⟩ : ByteArray) = r := ⟨_, rfl⟩
      have HR := Lib.hid hr
      have HRS : Hid (r.size = R.length) := Lib.hid (by rw [← hr]; show R.toArray.size = _; rw [List.size_toArray])
      have HSR : Hid (s.extract 1 s.size = r) := Lib.hid (by rw [← hs, ext1, hlc, ← hr, ← hRe]; rfl)
      have hs1' : (1 : Int) ≤ (s.size : Int) := by omega
      have HRI : Hid ((r.size : Int) ≤ 1000) := Lib.hid (by have := HRS.out; rw [hsz, hlc] at hsi; simp at hsi; rw [hRe] at hsi; omega)
      have HPN : Hid (parN l = true) := Lib.hid (by rw [hlc]; rfl)
      have HPR : Hid (parR l = R) := Lib.hid (by rw [hlc, ← hRe]; rfl)
      clear hxc hsz hRe hlc hs hr hl
      go_enter Tryz.func22, Tryz.ntmps22
      go_wp2_with fail
      have hsr := HSR.out
      rw [hsr]
      clear hsr
      have hri := HRI.out
      clear hs0 hs1 hs1' hx
      obtain ⟨W0, hW0⟩ : ∃ W0, wq.alloc (.cells #[.bool false, .string ⟨#[]⟩, .string ⟨#[]⟩] 26) = W0 := ⟨_, rfl⟩
      rw [hW0] at HXZ HB0 ⊢
      clear hW0
      go_loopw [8, 6, 7] (fun i nv dv wr => ∃ k : Nat, k ≤ r.size ∧ i = .int .i64 (k : Int) ∧ nv = .string r ∧ dv = .string ⟨#[49]⟩ ∧ Hid (∀ j (h : j < k) (h2 : j < R.length), R[j] ≠ 47) ∧ Hid (wr = W0)) (fun i _ _ _ => r.size - (intOf i).toNat)
      case atStart => exact ⟨0, by omega, rfl, rfl, rfl, Lib.hid (fun j h => by omega), Lib.hid rfl⟩
      case round =>
        obtain ⟨k, hk, rfl, rfl, rfl, HN, HWR⟩ := hrel
        obtain rfl := HWR.out
        by_cases hlt : k < r.size
        · have hlt' : (k : Int) < (r.size : Int) := by omega
          have hkR : k < R.length := by have := HRS.out; omega
          obtain ⟨x, hx⟩ : ∃ x, r[k].toNat = x := ⟨_, rfl⟩
          have hxR : R[k].toNat = x := by rw [← hx]; simp only [← HR.out]; rfl
          by_cases h47 : x = 47
          · subst h47
            have hc : R[k] = 47 := UInt8.toNat_inj.1 hxR
            have hix := cut_at hkR hc (fun j hj => HN.out j hj (by omega))
            have hcut : Lib.cut R [47] = (R.take k, R.drop (k + 1), true) := by unfold Lib.cut; rw [hix, if_pos (by omega)]; rfl
            have hA2 : r.extract 0 k = ⟨(R.take k).toArray⟩ := by rw [← HR.out, ext0]
            have hD2 : r.extract (k + 1) r.size = ⟨(R.drop (k + 1)).toArray⟩ := by rw [← HR.out, ext1]
            obtain ⟨n, d, o1, o2, L, hPA, hPD, hMK, hTX, hPO, hPL⟩ := par_facts l (R.take k) (R.drop (k + 1)) (by unfold parA; rw [HPR.out, hcut]) (by unfold parD; rw [HPR.out, hcut]; rfl) HL.out
            rw [HPN.out] at hMK
            have HPA := Lib.hid hPA; have HPD := Lib.hid hPD; have HMK := Lib.hid hMK; have HTX := Lib.hid hTX; have HPO := Lib.hid hPO; have HPL := Lib.hid hPL
            clear hPA hPD hMK hTX hPO hPL
            obtain ⟨A, hAe⟩ : ∃ A, R.take k = A := ⟨_, rfl⟩
            obtain ⟨D, hDe⟩ : ∃ D, R.drop (k + 1) = D := ⟨_, rfl⟩
            rw [hAe] at hA2 HPA; rw [hDe] at hD2 HPD
            have hkk : (k : Int) + 1 ≤ (r.size : Int) := by omega
            have hkk2 : k + 1 ≤ r.size := by omega
            clear hc hix hcut hxR hAe hDe
            go_wp2_with fail
            have HBAD : Hid (parO l = false → parseV l = .tuple #[.agg #[.bool false, .string ⟨#[]⟩, .string ⟨#[]⟩], .bool false]) := Lib.hid fun h => by unfold parseV; rw [h]; rfl
            have HGOOD : Hid (parO l = true → parseV l = .tuple #[rtV L, .bool true]) := Lib.hid fun h => by unfold parseV; rw [h, HPL.out]; rfl
            refine (HPA.out _).mono ?_
            rintro e w3 ⟨rfl, hb⟩
            have HXZ := Lib.hid (heap_up hb HXZ.out); have HB0 := Lib.hid (HB0.out.trans (hb.mono HB0.out.size))
            clear hb
            go_wp2_with fail
            refine (HPD.out _).mono ?_
            rintro e w4 ⟨rfl, hb⟩
            have HXZ := Lib.hid (heap_up hb HXZ.out); have HB0 := Lib.hid (HB0.out.trans (hb.mono HB0.out.size))
            clear hb
            cases o1
            · have HB9 := Lib.hid (HBAD.out (by rw [HPO.out]; simp))
              obtain ⟨⟨cz0, cz1, cz2⟩, hfz⟩ := row_cells HXZ.out
              have fz0 := hfz 0; have fz1 := hfz 1; have fz2 := hfz 2
              have HROW := Lib.hid (row_set HXZ.out (.bool false) (.string ⟨#[]⟩) (.string ⟨#[]⟩))
              have HBW := Lib.hid (below_row HB0.out (b := wq.heap.size) (Nat.le_refl _) (.bool false) (.string ⟨#[]⟩) (.string ⟨#[]⟩))
              clear hfz
              go_wp2_with fail
              refine bodyPost_ret (results_cell_row2 rfl _ _ wq.heap.size 26 _ (0, 0) _ rfl HROW.out Tryz.underlying26 rfl (by kernel_rfl)) rfl ?_
              exact ⟨by rw [HB9.out]; rfl, HBW.out⟩
            · cases o2
              · have HB9 := Lib.hid (HBAD.out (by rw [HPO.out]; simp))
                obtain ⟨⟨cz0, cz1, cz2⟩, hfz⟩ := row_cells HXZ.out
                have fz0 := hfz 0; have fz1 := hfz 1; have fz2 := hfz 2
                have HROW := Lib.hid (row_set HXZ.out (.bool false) (.string ⟨#[]⟩) (.string ⟨#[]⟩))
                have HBW := Lib.hid (below_row HB0.out (b := wq.heap.size) (Nat.le_refl _) (.bool false) (.string ⟨#[]⟩) (.string ⟨#[]⟩))
                clear hfz
                go_wp2_with fail
                refine bodyPost_ret (results_cell_row2 rfl _ _ wq.heap.size 26 _ (0, 0) _ rfl HROW.out Tryz.underlying26 rfl (by kernel_rfl)) rfl ?_
                exact ⟨by rw [HB9.out]; rfl, HBW.out⟩
              · go_wp2_with fail
                refine (HMK.out _).mono ?_
                rintro e w5 ⟨rfl, hb⟩
                have HXZ := Lib.hid (heap_up hb HXZ.out); have HB0 := Lib.hid (HB0.out.trans (hb.mono HB0.out.size))
                clear hb
                by_cases d0 : 0 < d
                · rw [if_pos d0]
                  unfold rtV
                  have HT2 := Lib.hid (HTX.out d0)
                  rw [decide_eq_true d0] at HPO
                  clear d0
                  have hb6 := HB0.out.alloc HB0.out.size (.cells #[.bool L.neg, .string (encS L.num), .string (encS L.den)] 26)
                  have hx6 := heap_alloc_new w5 (.cells #[.bool L.neg, .string (encS L.num), .string (encS L.den)] 26)
                  have hz6 := heap_up ((Below.refl _ w5).alloc (Nat.le_refl _) (.cells #[.bool L.neg, .string (encS L.num), .string (encS L.den)] 26)) HXZ.out
                  obtain ⟨W6, hW6⟩ : ∃ W6, w5.alloc (.cells #[.bool L.neg, .string (encS L.num), .string (encS L.den)] 26) = W6 := ⟨_, rfl⟩
                  rw [hW6] at hb6 hx6 hz6
                  obtain ⟨⟨cx0, cx1, cx2⟩, -⟩ := row_cells hx6
                  have HB6 := Lib.hid hb6; have HX6 := Lib.hid hx6; have HZ6 := Lib.hid hz6
                  clear hb6 hx6 hz6
                  go_wp2_with fail
                  refine (HT2.out _).mono ?_
                  rintro e w7 ⟨rfl, hb⟩
                  have HXZ := Lib.hid (heap_up hb HZ6.out); have HX7 := Lib.hid (heap_up hb HX6.out); have HB0 := Lib.hid (HB6.out.trans (hb.mono HB6.out.size))
                  clear hb cx0 cx1 cx2 hW6
                  by_cases he : textS L = s
                  · have HG := Lib.hid (HGOOD.out (by rw [HPO.out, HS.out, decide_eq_true he]; rfl))
                    rw [he]
                    obtain ⟨⟨cx0, cx1, cx2⟩, -⟩ := row_cells HX7.out
                    clear he
                    obtain ⟨⟨cz0, cz1, cz2⟩, hfz⟩ := row_cells HXZ.out
                    have fz0 := hfz 0; have fz1 := hfz 1; have fz2 := hfz 2
                    have HROW := Lib.hid (row_set HXZ.out (.bool L.neg) (.string (encS L.num)) (.string (encS L.den)))
                    have HBW := Lib.hid (below_row HB0.out (b := wq.heap.size) (Nat.le_refl _) (.bool L.neg) (.string (encS L.num)) (.string (encS L.den)))
                    clear hfz
                    go_wp2_with fail
                    refine bodyPost_ret (results_cell_row2 rfl _ _ wq.heap.size 26 _ (0, 0) _ rfl HROW.out Tryz.underlying26 rfl (by kernel_rfl)) rfl ?_
                    exact ⟨by rw [HG.out]; rfl, HBW.out⟩
                  · have HG := Lib.hid (HBAD.out (by rw [HPO.out, HS.out, decide_eq_false he]; simp))
                    obtain ⟨T, hT⟩ : ∃ T, textS L = T := ⟨_, rfl⟩
                    rw [hT] at he ⊢
                    have hne : ¬ T.toList = s.toList := fun h => he (bytes_ext.1 h)
                    have hne3 : (T.toList == s.toList) = false := by simpa using hne
                    clear he hT
                    obtain ⟨⟨cz0, cz1, cz2⟩, hfz⟩ := row_cells HXZ.out
                    have fz0 := hfz 0; have fz1 := hfz 1; have fz2 := hfz 2
                    have HROW := Lib.hid (row_set HXZ.out (.bool false) (.string ⟨#[]⟩) (.string ⟨#[]⟩))
                    have HBW := Lib.hid (below_row HB0.out (b := wq.heap.size) (Nat.le_refl _) (.bool false) (.string ⟨#[]⟩) (.string ⟨#[]⟩))
                    clear hfz
                    go_wp2_with fail
                    refine bodyPost_ret (results_cell_row2 rfl _ _ wq.heap.size 26 _ (0, 0) _ rfl HROW.out Tryz.underlying26 rfl (by kernel_rfl)) rfl ?_
                    exact ⟨by rw [HG.out]; rfl, HBW.out⟩
                · rw [if_neg d0]
                  rw [decide_eq_false d0] at HPO
                  have HB9 := Lib.hid (HBAD.out (by rw [HPO.out]; simp))
                  clear d0
                  have hz6 := heap_up ((Below.refl _ w5).alloc (Nat.le_refl _) (.cells #[.bool false, .string ⟨#[]⟩, .string ⟨#[]⟩] 26)) HXZ.out
                  obtain ⟨⟨cz0, cz1, cz2⟩, hfz⟩ := row_cells hz6
                  have fz0 := hfz 0; have fz1 := hfz 1; have fz2 := hfz 2
                  have HROW := Lib.hid (row_set hz6 (.bool false) (.string ⟨#[]⟩) (.string ⟨#[]⟩))
                  have HBW := Lib.hid (below_row (HB0.out.alloc HB0.out.size (.cells #[.bool false, .string ⟨#[]⟩, .string ⟨#[]⟩] 26)) (b := wq.heap.size) (Nat.le_refl _) (.bool false) (.string ⟨#[]⟩) (.string ⟨#[]⟩))
                  clear hz6 hfz
                  go_wp2_with fail
                  refine bodyPost_ret (results_cell_row2 rfl _ _ wq.heap.size 26 _ (0, 0) _ rfl HROW.out Tryz.underlying26 rfl (by kernel_rfl)) rfl ?_
                  exact ⟨by rw [HB9.out]; rfl, HBW.out⟩
          · have hxk : ¬ (x : Int) = 47 := by omega
            have HN2 : Hid (∀ j (h : j < k + 1) (h2 : j < R.length), R[j] ≠ 47) := Lib.hid fun j h h2 => by
              by_cases hj : j = k
              · subst hj; intro e; rw [e] at hxR; exact h47 hxR.symm
              · exact HN.out j (by omega) h2
            clear hxR h47
            go_wp2_with fail
            go_roundw
            case rel => exact ⟨k + 1, by omega, by go_num, rfl, rfl, HN2, Lib.hid (by first | trivial | rfl)⟩
            case measure => simp [intOf]; omega
        · have hge : (r.size : Int) ≤ (k : Int) := by omega
          have hix := cut_never (l := R) (fun j hj => HN.out j (by have := HRS.out; omega) hj)
          have hcut : Lib.cut R [47] = (R, [], false) := by unfold Lib.cut; rw [hix, if_neg (by decide)]
          obtain ⟨n, d, o1, o2, L, hPA, hPD, hMK, hTX, hPO, hPL⟩ := par_facts l R [49] (by unfold parA; rw [HPR.out, hcut]) (by unfold parD; rw [HPR.out, hcut]; rfl) HL.out
          rw [HPN.out] at hMK
          have HPA := Lib.hid hPA; have HPD := Lib.hid hPD; have HMK := Lib.hid hMK; have HTX := Lib.hid hTX; have HPO := Lib.hid hPO; have HPL := Lib.hid hPL
          clear hPA hPD hMK hTX hPO hPL
          rw [HR.out] at HPA
          clear hix hcut
          go_wp2_with fail
          have HBAD : Hid (parO l = false → parseV l = .tuple #[.agg #[.bool false, .string ⟨#[]⟩, .string ⟨#[]⟩], .bool false]) := Lib.hid fun h => by unfold parseV; rw [h]; rfl
          have HGOOD : Hid (parO l = true → parseV l = .tuple #[rtV L, .bool true]) := Lib.hid fun h => by unfold parseV; rw [h, HPL.out]; rfl
          refine (HPA.out _).mono ?_
          rintro e w3 ⟨rfl, hb⟩
          have HXZ := Lib.hid (heap_up hb HXZ.out); have HB0 := Lib.hid (HB0.out.trans (hb.mono HB0.out.size))
          clear hb
          go_wp2_with fail
          refine (HPD.out _).mono ?_
          rintro e w4 ⟨rfl, hb⟩
          have HXZ := Lib.hid (heap_up hb HXZ.out); have HB0 := Lib.hid (HB0.out.trans (hb.mono HB0.out.size))
          clear hb
          cases o1
          · have HB9 := Lib.hid (HBAD.out (by rw [HPO.out]; simp))
            obtain ⟨⟨cz0, cz1, cz2⟩, hfz⟩ := row_cells HXZ.out
            have fz0 := hfz 0; have fz1 := hfz 1; have fz2 := hfz 2
            have HROW := Lib.hid (row_set HXZ.out (.bool false) (.string ⟨#[]⟩) (.string ⟨#[]⟩))
            have HBW := Lib.hid (below_row HB0.out (b := wq.heap.size) (Nat.le_refl _) (.bool false) (.string ⟨#[]⟩) (.string ⟨#[]⟩))
            clear hfz
            go_wp2_with fail
            refine bodyPost_ret (results_cell_row2 rfl _ _ wq.heap.size 26 _ (0, 0) _ rfl HROW.out Tryz.underlying26 rfl (by kernel_rfl)) rfl ?_
            exact ⟨by rw [HB9.out]; rfl, HBW.out⟩
          · cases o2
            · have HB9 := Lib.hid (HBAD.out (by rw [HPO.out]; simp))
              obtain ⟨⟨cz0, cz1, cz2⟩, hfz⟩ := row_cells HXZ.out
              have fz0 := hfz 0; have fz1 := hfz 1; have fz2 := hfz 2
              have HROW := Lib.hid (row_set HXZ.out (.bool false) (.string ⟨#[]⟩) (.string ⟨#[]⟩))
              have HBW := Lib.hid (below_row HB0.out (b := wq.heap.size) (Nat.le_refl _) (.bool false) (.string ⟨#[]⟩) (.string ⟨#[]⟩))
              clear hfz
              go_wp2_with fail
              refine bodyPost_ret (results_cell_row2 rfl _ _ wq.heap.size 26 _ (0, 0) _ rfl HROW.out Tryz.underlying26 rfl (by kernel_rfl)) rfl ?_
              exact ⟨by rw [HB9.out]; rfl, HBW.out⟩
            · go_wp2_with fail
              refine (HMK.out _).mono ?_
              rintro e w5 ⟨rfl, hb⟩
              have HXZ := Lib.hid (heap_up hb HXZ.out); have HB0 := Lib.hid (HB0.out.trans (hb.mono HB0.out.size))
              clear hb
              by_cases d0 : 0 < d
              · rw [if_pos d0]
                unfold rtV
                have HT2 := Lib.hid (HTX.out d0)
                rw [decide_eq_true d0] at HPO
                clear d0
                have hb6 := HB0.out.alloc HB0.out.size (.cells #[.bool L.neg, .string (encS L.num), .string (encS L.den)] 26)
                have hx6 := heap_alloc_new w5 (.cells #[.bool L.neg, .string (encS L.num), .string (encS L.den)] 26)
                have hz6 := heap_up ((Below.refl _ w5).alloc (Nat.le_refl _) (.cells #[.bool L.neg, .string (encS L.num), .string (encS L.den)] 26)) HXZ.out
                obtain ⟨W6, hW6⟩ : ∃ W6, w5.alloc (.cells #[.bool L.neg, .string (encS L.num), .string (encS L.den)] 26) = W6 := ⟨_, rfl⟩
                rw [hW6] at hb6 hx6 hz6
                obtain ⟨⟨cx0, cx1, cx2⟩, -⟩ := row_cells hx6
                have HB6 := Lib.hid hb6; have HX6 := Lib.hid hx6; have HZ6 := Lib.hid hz6
                clear hb6 hx6 hz6
                go_wp2_with fail
                refine (HT2.out _).mono ?_
                rintro e w7 ⟨rfl, hb⟩
                have HXZ := Lib.hid (heap_up hb HZ6.out); have HX7 := Lib.hid (heap_up hb HX6.out); have HB0 := Lib.hid (HB6.out.trans (hb.mono HB6.out.size))
                clear hb cx0 cx1 cx2 hW6
                by_cases he : textS L = s
                · have HG := Lib.hid (HGOOD.out (by rw [HPO.out, HS.out, decide_eq_true he]; rfl))
                  rw [he]
                  obtain ⟨⟨cx0, cx1, cx2⟩, -⟩ := row_cells HX7.out
                  clear he
                  obtain ⟨⟨cz0, cz1, cz2⟩, hfz⟩ := row_cells HXZ.out
                  have fz0 := hfz 0; have fz1 := hfz 1; have fz2 := hfz 2
                  have HROW := Lib.hid (row_set HXZ.out (.bool L.neg) (.string (encS L.num)) (.string (encS L.den)))
                  have HBW := Lib.hid (below_row HB0.out (b := wq.heap.size) (Nat.le_refl _) (.bool L.neg) (.string (encS L.num)) (.string (encS L.den)))
                  clear hfz
                  go_wp2_with fail
                  refine bodyPost_ret (results_cell_row2 rfl _ _ wq.heap.size 26 _ (0, 0) _ rfl HROW.out Tryz.underlying26 rfl (by kernel_rfl)) rfl ?_
                  exact ⟨by rw [HG.out]; rfl, HBW.out⟩
                · have HG := Lib.hid (HBAD.out (by rw [HPO.out, HS.out, decide_eq_false he]; simp))
                  obtain ⟨T, hT⟩ : ∃ T, textS L = T := ⟨_, rfl⟩
                  rw [hT] at he ⊢
                  have hne : ¬ T.toList = s.toList := fun h => he (bytes_ext.1 h)
                  have hne3 : (T.toList == s.toList) = false := by simpa using hne
                  clear he hT
                  obtain ⟨⟨cz0, cz1, cz2⟩, hfz⟩ := row_cells HXZ.out
                  have fz0 := hfz 0; have fz1 := hfz 1; have fz2 := hfz 2
                  have HROW := Lib.hid (row_set HXZ.out (.bool false) (.string ⟨#[]⟩) (.string ⟨#[]⟩))
                  have HBW := Lib.hid (below_row HB0.out (b := wq.heap.size) (Nat.le_refl _) (.bool false) (.string ⟨#[]⟩) (.string ⟨#[]⟩))
                  clear hfz
                  go_wp2_with fail
                  refine bodyPost_ret (results_cell_row2 rfl _ _ wq.heap.size 26 _ (0, 0) _ rfl HROW.out Tryz.underlying26 rfl (by kernel_rfl)) rfl ?_
                  exact ⟨by rw [HG.out]; rfl, HBW.out⟩
              · rw [if_neg d0]
                rw [decide_eq_false d0] at HPO
                have HB9 := Lib.hid (HBAD.out (by rw [HPO.out]; simp))
                clear d0
                have hz6 := heap_up ((Below.refl _ w5).alloc (Nat.le_refl _) (.cells #[.bool false, .string ⟨#[]⟩, .string ⟨#[]⟩] 26)) HXZ.out
                obtain ⟨⟨cz0, cz1, cz2⟩, hfz⟩ := row_cells hz6
                have fz0 := hfz 0; have fz1 := hfz 1; have fz2 := hfz 2
                have HROW := Lib.hid (row_set hz6 (.bool false) (.string ⟨#[]⟩) (.string ⟨#[]⟩))
                have HBW := Lib.hid (below_row (HB0.out.alloc HB0.out.size (.cells #[.bool false, .string ⟨#[]⟩, .string ⟨#[]⟩] 26)) (b := wq.heap.size) (Nat.le_refl _) (.bool false) (.string ⟨#[]⟩) (.string ⟨#[]⟩))
                clear hz6 hfz
                go_wp2_with fail
                refine bodyPost_ret (results_cell_row2 rfl _ _ wq.heap.size 26 _ (0, 0) _ rfl HROW.out Tryz.underlying26 rfl (by kernel_rfl)) rfl ?_
                exact ⟨by rw [HB9.out]; rfl, HBW.out⟩
    · have hs0 : 0 < s.size := by rw [hsz, hlc]; simp
      have hs1 : (0 : Int) < (s.size : Int) := by omega
      obtain ⟨x, hx⟩ : ∃ x, (s[0]'hs0).toNat = x := ⟨_, rfl⟩
      have hxc : x = c.toNat := by rw [← hx]; subst hs; subst hlc; rfl
      have hx45 : ¬ (x : Int) = 45 := fun h => h45 (UInt8.toNat_inj.1 (by rw [← hxc]; show x = 45; omega))
      obtain ⟨r, hr⟩ : ∃ r, s = r := ⟨_, rfl⟩
      obtain ⟨R, hRe⟩ : ∃ R, l = R := ⟨_, rfl⟩
      have HR : Hid ((⟨R.toArray⟩ : ByteArray) = r) := Lib.hid (by rw [← hRe, hs, hr])
      have HRS : Hid (r.size = R.length) := Lib.hid (by rw [← hr, hsz, hRe])
      have HRI : Hid ((r.size : Int) ≤ 1000) := Lib.hid (by rw [← hr]; exact hsi)
      have HSR := Lib.hid hr
      have HPN : Hid (parN l = false) := Lib.hid (by rw [hlc]; show ([45] : List UInt8).isPrefixOf (c :: l') = false; simp [List.isPrefixOf, Ne.symm h45])
      have HPR : Hid (parR l = R) := Lib.hid (by rw [← hRe, hlc]; unfold parR Lib.trimPrefix; rw [if_neg (by show ¬ ([45] : List UInt8).isPrefixOf (c :: l') = true; simp [List.isPrefixOf, Ne.symm h45])])
      clear hxc hsz hRe hlc hs hr h45 hl
      go_enter Tryz.func22, Tryz.ntmps22
      go_wp2_with fail
      have hsr := HSR.out
      rw [hsr]
      clear hsr
      have hri := HRI.out
      clear hs0 hs1 hx hx45
      obtain ⟨W0, hW0⟩ : ∃ W0, wq.alloc (.cells #[.bool false, .string ⟨#[]⟩, .string ⟨#[]⟩] 26) = W0 := ⟨_, rfl⟩
      rw [hW0] at HXZ HB0 ⊢
      clear hW0
      go_loopw [8, 6, 7] (fun i nv dv wr => ∃ k : Nat, k ≤ r.size ∧ i = .int .i64 (k : Int) ∧ nv = .string r ∧ dv = .string ⟨#[49]⟩ ∧ Hid (∀ j (h : j < k) (h2 : j < R.length), R[j] ≠ 47) ∧ Hid (wr = W0)) (fun i _ _ _ => r.size - (intOf i).toNat)
      case atStart => exact ⟨0, by omega, rfl, rfl, rfl, Lib.hid (fun j h => by omega), Lib.hid rfl⟩
      case round =>
        obtain ⟨k, hk, rfl, rfl, rfl, HN, HWR⟩ := hrel
        obtain rfl := HWR.out
        by_cases hlt : k < r.size
        · have hlt' : (k : Int) < (r.size : Int) := by omega
          have hkR : k < R.length := by have := HRS.out; omega
          obtain ⟨x, hx⟩ : ∃ x, r[k].toNat = x := ⟨_, rfl⟩
          have hxR : R[k].toNat = x := by rw [← hx]; simp only [← HR.out]; rfl
          by_cases h47 : x = 47
          · subst h47
            have hc : R[k] = 47 := UInt8.toNat_inj.1 hxR
            have hix := cut_at hkR hc (fun j hj => HN.out j hj (by omega))
            have hcut : Lib.cut R [47] = (R.take k, R.drop (k + 1), true) := by unfold Lib.cut; rw [hix, if_pos (by omega)]; rfl
            have hA2 : r.extract 0 k = ⟨(R.take k).toArray⟩ := by rw [← HR.out, ext0]
            have hD2 : r.extract (k + 1) r.size = ⟨(R.drop (k + 1)).toArray⟩ := by rw [← HR.out, ext1]
            obtain ⟨n, d, o1, o2, L, hPA, hPD, hMK, hTX, hPO, hPL⟩ := par_facts l (R.take k) (R.drop (k + 1)) (by unfold parA; rw [HPR.out, hcut]) (by unfold parD; rw [HPR.out, hcut]; rfl) HL.out
            rw [HPN.out] at hMK
            have HPA := Lib.hid hPA; have HPD := Lib.hid hPD; have HMK := Lib.hid hMK; have HTX := Lib.hid hTX; have HPO := Lib.hid hPO; have HPL := Lib.hid hPL
            clear hPA hPD hMK hTX hPO hPL
            obtain ⟨A, hAe⟩ : ∃ A, R.take k = A := ⟨_, rfl⟩
            obtain ⟨D, hDe⟩ : ∃ D, R.drop (k + 1) = D := ⟨_, rfl⟩
            rw [hAe] at hA2 HPA; rw [hDe] at hD2 HPD
            have hkk : (k : Int) + 1 ≤ (r.size : Int) := by omega
            have hkk2 : k + 1 ≤ r.size := by omega
            clear hc hix hcut hxR hAe hDe
            go_wp2_with fail
            have HBAD : Hid (parO l = false → parseV l = .tuple #[.agg #[.bool false, .string ⟨#[]⟩, .string ⟨#[]⟩], .bool false]) := Lib.hid fun h => by unfold parseV; rw [h]; rfl
            have HGOOD : Hid (parO l = true → parseV l = .tuple #[rtV L, .bool true]) := Lib.hid fun h => by unfold parseV; rw [h, HPL.out]; rfl
            refine (HPA.out _).mono ?_
            rintro e w3 ⟨rfl, hb⟩
            have HXZ := Lib.hid (heap_up hb HXZ.out); have HB0 := Lib.hid (HB0.out.trans (hb.mono HB0.out.size))
            clear hb
            go_wp2_with fail
            refine (HPD.out _).mono ?_
            rintro e w4 ⟨rfl, hb⟩
            have HXZ := Lib.hid (heap_up hb HXZ.out); have HB0 := Lib.hid (HB0.out.trans (hb.mono HB0.out.size))
            clear hb
            cases o1
            · have HB9 := Lib.hid (HBAD.out (by rw [HPO.out]; simp))
              obtain ⟨⟨cz0, cz1, cz2⟩, hfz⟩ := row_cells HXZ.out
              have fz0 := hfz 0; have fz1 := hfz 1; have fz2 := hfz 2
              have HROW := Lib.hid (row_set HXZ.out (.bool false) (.string ⟨#[]⟩) (.string ⟨#[]⟩))
              have HBW := Lib.hid (below_row HB0.out (b := wq.heap.size) (Nat.le_refl _) (.bool false) (.string ⟨#[]⟩) (.string ⟨#[]⟩))
              clear hfz
              go_wp2_with fail
              refine bodyPost_ret (results_cell_row2 rfl _ _ wq.heap.size 26 _ (0, 0) _ rfl HROW.out Tryz.underlying26 rfl (by kernel_rfl)) rfl ?_
              exact ⟨by rw [HB9.out]; rfl, HBW.out⟩
            · cases o2
              · have HB9 := Lib.hid (HBAD.out (by rw [HPO.out]; simp))
                obtain ⟨⟨cz0, cz1, cz2⟩, hfz⟩ := row_cells HXZ.out
                have fz0 := hfz 0; have fz1 := hfz 1; have fz2 := hfz 2
                have HROW := Lib.hid (row_set HXZ.out (.bool false) (.string ⟨#[]⟩) (.string ⟨#[]⟩))
                have HBW := Lib.hid (below_row HB0.out (b := wq.heap.size) (Nat.le_refl _) (.bool false) (.string ⟨#[]⟩) (.string ⟨#[]⟩))
                clear hfz
                go_wp2_with fail
                refine bodyPost_ret (results_cell_row2 rfl _ _ wq.heap.size 26 _ (0, 0) _ rfl HROW.out Tryz.underlying26 rfl (by kernel_rfl)) rfl ?_
                exact ⟨by rw [HB9.out]; rfl, HBW.out⟩
              · go_wp2_with fail
                refine (HMK.out _).mono ?_
                rintro e w5 ⟨rfl, hb⟩
                have HXZ := Lib.hid (heap_up hb HXZ.out); have HB0 := Lib.hid (HB0.out.trans (hb.mono HB0.out.size))
                clear hb
                by_cases d0 : 0 < d
                · rw [if_pos d0]
                  unfold rtV
                  have HT2 := Lib.hid (HTX.out d0)
                  rw [decide_eq_true d0] at HPO
                  clear d0
                  have hb6 := HB0.out.alloc HB0.out.size (.cells #[.bool L.neg, .string (encS L.num), .string (encS L.den)] 26)
                  have hx6 := heap_alloc_new w5 (.cells #[.bool L.neg, .string (encS L.num), .string (encS L.den)] 26)
                  have hz6 := heap_up ((Below.refl _ w5).alloc (Nat.le_refl _) (.cells #[.bool L.neg, .string (encS L.num), .string (encS L.den)] 26)) HXZ.out
                  obtain ⟨W6, hW6⟩ : ∃ W6, w5.alloc (.cells #[.bool L.neg, .string (encS L.num), .string (encS L.den)] 26) = W6 := ⟨_, rfl⟩
                  rw [hW6] at hb6 hx6 hz6
                  obtain ⟨⟨cx0, cx1, cx2⟩, -⟩ := row_cells hx6
                  have HB6 := Lib.hid hb6; have HX6 := Lib.hid hx6; have HZ6 := Lib.hid hz6
                  clear hb6 hx6 hz6
                  go_wp2_with fail
                  refine (HT2.out _).mono ?_
                  rintro e w7 ⟨rfl, hb⟩
                  have HXZ := Lib.hid (heap_up hb HZ6.out); have HX7 := Lib.hid (heap_up hb HX6.out); have HB0 := Lib.hid (HB6.out.trans (hb.mono HB6.out.size))
                  clear hb cx0 cx1 cx2 hW6
                  by_cases he : textS L = s
                  · have HG := Lib.hid (HGOOD.out (by rw [HPO.out, HS.out, decide_eq_true he]; rfl))
                    rw [he, HSR.out]
                    obtain ⟨⟨cx0, cx1, cx2⟩, -⟩ := row_cells HX7.out
                    clear he
                    obtain ⟨⟨cz0, cz1, cz2⟩, hfz⟩ := row_cells HXZ.out
                    have fz0 := hfz 0; have fz1 := hfz 1; have fz2 := hfz 2
                    have HROW := Lib.hid (row_set HXZ.out (.bool L.neg) (.string (encS L.num)) (.string (encS L.den)))
                    have HBW := Lib.hid (below_row HB0.out (b := wq.heap.size) (Nat.le_refl _) (.bool L.neg) (.string (encS L.num)) (.string (encS L.den)))
                    clear hfz
                    go_wp2_with fail
                    refine bodyPost_ret (results_cell_row2 rfl _ _ wq.heap.size 26 _ (0, 0) _ rfl HROW.out Tryz.underlying26 rfl (by kernel_rfl)) rfl ?_
                    exact ⟨by rw [HG.out]; rfl, HBW.out⟩
                  · have HG := Lib.hid (HBAD.out (by rw [HPO.out, HS.out, decide_eq_false he]; simp))
                    rw [HSR.out] at he
                    obtain ⟨T, hT⟩ : ∃ T, textS L = T := ⟨_, rfl⟩
                    rw [hT] at he ⊢
                    have hne : ¬ T.toList = r.toList := fun h => he (bytes_ext.1 h)
                    have hne3 : (T.toList == r.toList) = false := by simpa using hne
                    clear he hT
                    obtain ⟨⟨cz0, cz1, cz2⟩, hfz⟩ := row_cells HXZ.out
                    have fz0 := hfz 0; have fz1 := hfz 1; have fz2 := hfz 2
                    have HROW := Lib.hid (row_set HXZ.out (.bool false) (.string ⟨#[]⟩) (.string ⟨#[]⟩))
                    have HBW := Lib.hid (below_row HB0.out (b := wq.heap.size) (Nat.le_refl _) (.bool false) (.string ⟨#[]⟩) (.string ⟨#[]⟩))
                    clear hfz
                    go_wp2_with fail
                    refine bodyPost_ret (results_cell_row2 rfl _ _ wq.heap.size 26 _ (0, 0) _ rfl HROW.out Tryz.underlying26 rfl (by kernel_rfl)) rfl ?_
                    exact ⟨by rw [HG.out]; rfl, HBW.out⟩
                · rw [if_neg d0]
                  rw [decide_eq_false d0] at HPO
                  have HB9 := Lib.hid (HBAD.out (by rw [HPO.out]; simp))
                  clear d0
                  have hz6 := heap_up ((Below.refl _ w5).alloc (Nat.le_refl _) (.cells #[.bool false, .string ⟨#[]⟩, .string ⟨#[]⟩] 26)) HXZ.out
                  obtain ⟨⟨cz0, cz1, cz2⟩, hfz⟩ := row_cells hz6
                  have fz0 := hfz 0; have fz1 := hfz 1; have fz2 := hfz 2
                  have HROW := Lib.hid (row_set hz6 (.bool false) (.string ⟨#[]⟩) (.string ⟨#[]⟩))
                  have HBW := Lib.hid (below_row (HB0.out.alloc HB0.out.size (.cells #[.bool false, .string ⟨#[]⟩, .string ⟨#[]⟩] 26)) (b := wq.heap.size) (Nat.le_refl _) (.bool false) (.string ⟨#[]⟩) (.string ⟨#[]⟩))
                  clear hz6 hfz
                  go_wp2_with fail
                  refine bodyPost_ret (results_cell_row2 rfl _ _ wq.heap.size 26 _ (0, 0) _ rfl HROW.out Tryz.underlying26 rfl (by kernel_rfl)) rfl ?_
                  exact ⟨by rw [HB9.out]; rfl, HBW.out⟩
          · have hxk : ¬ (x : Int) = 47 := by omega
            have HN2 : Hid (∀ j (h : j < k + 1) (h2 : j < R.length), R[j] ≠ 47) := Lib.hid fun j h h2 => by
              by_cases hj : j = k
              · subst hj; intro e; rw [e] at hxR; exact h47 hxR.symm
              · exact HN.out j (by omega) h2
            clear hxR h47
            go_wp2_with fail
            go_roundw
            case rel => exact ⟨k + 1, by omega, by go_num, rfl, rfl, HN2, Lib.hid (by first | trivial | rfl)⟩
            case measure => simp [intOf]; omega
        · have hge : (r.size : Int) ≤ (k : Int) := by omega
          have hix := cut_never (l := R) (fun j hj => HN.out j (by have := HRS.out; omega) hj)
          have hcut : Lib.cut R [47] = (R, [], false) := by unfold Lib.cut; rw [hix, if_neg (by decide)]
          obtain ⟨n, d, o1, o2, L, hPA, hPD, hMK, hTX, hPO, hPL⟩ := par_facts l R [49] (by unfold parA; rw [HPR.out, hcut]) (by unfold parD; rw [HPR.out, hcut]; rfl) HL.out
          rw [HPN.out] at hMK
          have HPA := Lib.hid hPA; have HPD := Lib.hid hPD; have HMK := Lib.hid hMK; have HTX := Lib.hid hTX; have HPO := Lib.hid hPO; have HPL := Lib.hid hPL
          clear hPA hPD hMK hTX hPO hPL
          rw [HR.out] at HPA
          clear hix hcut
          go_wp2_with fail
          have HBAD : Hid (parO l = false → parseV l = .tuple #[.agg #[.bool false, .string ⟨#[]⟩, .string ⟨#[]⟩], .bool false]) := Lib.hid fun h => by unfold parseV; rw [h]; rfl
          have HGOOD : Hid (parO l = true → parseV l = .tuple #[rtV L, .bool true]) := Lib.hid fun h => by unfold parseV; rw [h, HPL.out]; rfl
          refine (HPA.out _).mono ?_
          rintro e w3 ⟨rfl, hb⟩
          have HXZ := Lib.hid (heap_up hb HXZ.out); have HB0 := Lib.hid (HB0.out.trans (hb.mono HB0.out.size))
          clear hb
          go_wp2_with fail
          refine (HPD.out _).mono ?_
          rintro e w4 ⟨rfl, hb⟩
          have HXZ := Lib.hid (heap_up hb HXZ.out); have HB0 := Lib.hid (HB0.out.trans (hb.mono HB0.out.size))
          clear hb
          cases o1
          · have HB9 := Lib.hid (HBAD.out (by rw [HPO.out]; simp))
            obtain ⟨⟨cz0, cz1, cz2⟩, hfz⟩ := row_cells HXZ.out
            have fz0 := hfz 0; have fz1 := hfz 1; have fz2 := hfz 2
            have HROW := Lib.hid (row_set HXZ.out (.bool false) (.string ⟨#[]⟩) (.string ⟨#[]⟩))
            have HBW := Lib.hid (below_row HB0.out (b := wq.heap.size) (Nat.le_refl _) (.bool false) (.string ⟨#[]⟩) (.string ⟨#[]⟩))
            clear hfz
            go_wp2_with fail
            refine bodyPost_ret (results_cell_row2 rfl _ _ wq.heap.size 26 _ (0, 0) _ rfl HROW.out Tryz.underlying26 rfl (by kernel_rfl)) rfl ?_
            exact ⟨by rw [HB9.out]; rfl, HBW.out⟩
          · cases o2
            · have HB9 := Lib.hid (HBAD.out (by rw [HPO.out]; simp))
              obtain ⟨⟨cz0, cz1, cz2⟩, hfz⟩ := row_cells HXZ.out
              have fz0 := hfz 0; have fz1 := hfz 1; have fz2 := hfz 2
              have HROW := Lib.hid (row_set HXZ.out (.bool false) (.string ⟨#[]⟩) (.string ⟨#[]⟩))
              have HBW := Lib.hid (below_row HB0.out (b := wq.heap.size) (Nat.le_refl _) (.bool false) (.string ⟨#[]⟩) (.string ⟨#[]⟩))
              clear hfz
              go_wp2_with fail
              refine bodyPost_ret (results_cell_row2 rfl _ _ wq.heap.size 26 _ (0, 0) _ rfl HROW.out Tryz.underlying26 rfl (by kernel_rfl)) rfl ?_
              exact ⟨by rw [HB9.out]; rfl, HBW.out⟩
            · go_wp2_with fail
              refine (HMK.out _).mono ?_
              rintro e w5 ⟨rfl, hb⟩
              have HXZ := Lib.hid (heap_up hb HXZ.out); have HB0 := Lib.hid (HB0.out.trans (hb.mono HB0.out.size))
              clear hb
              by_cases d0 : 0 < d
              · rw [if_pos d0]
                unfold rtV
                have HT2 := Lib.hid (HTX.out d0)
                rw [decide_eq_true d0] at HPO
                clear d0
                have hb6 := HB0.out.alloc HB0.out.size (.cells #[.bool L.neg, .string (encS L.num), .string (encS L.den)] 26)
                have hx6 := heap_alloc_new w5 (.cells #[.bool L.neg, .string (encS L.num), .string (encS L.den)] 26)
                have hz6 := heap_up ((Below.refl _ w5).alloc (Nat.le_refl _) (.cells #[.bool L.neg, .string (encS L.num), .string (encS L.den)] 26)) HXZ.out
                obtain ⟨W6, hW6⟩ : ∃ W6, w5.alloc (.cells #[.bool L.neg, .string (encS L.num), .string (encS L.den)] 26) = W6 := ⟨_, rfl⟩
                rw [hW6] at hb6 hx6 hz6
                obtain ⟨⟨cx0, cx1, cx2⟩, -⟩ := row_cells hx6
                have HB6 := Lib.hid hb6; have HX6 := Lib.hid hx6; have HZ6 := Lib.hid hz6
                clear hb6 hx6 hz6
                go_wp2_with fail
                refine (HT2.out _).mono ?_
                rintro e w7 ⟨rfl, hb⟩
                have HXZ := Lib.hid (heap_up hb HZ6.out); have HX7 := Lib.hid (heap_up hb HX6.out); have HB0 := Lib.hid (HB6.out.trans (hb.mono HB6.out.size))
                clear hb cx0 cx1 cx2 hW6
                by_cases he : textS L = s
                · have HG := Lib.hid (HGOOD.out (by rw [HPO.out, HS.out, decide_eq_true he]; rfl))
                  rw [he, HSR.out]
                  obtain ⟨⟨cx0, cx1, cx2⟩, -⟩ := row_cells HX7.out
                  clear he
                  obtain ⟨⟨cz0, cz1, cz2⟩, hfz⟩ := row_cells HXZ.out
                  have fz0 := hfz 0; have fz1 := hfz 1; have fz2 := hfz 2
                  have HROW := Lib.hid (row_set HXZ.out (.bool L.neg) (.string (encS L.num)) (.string (encS L.den)))
                  have HBW := Lib.hid (below_row HB0.out (b := wq.heap.size) (Nat.le_refl _) (.bool L.neg) (.string (encS L.num)) (.string (encS L.den)))
                  clear hfz
                  go_wp2_with fail
                  refine bodyPost_ret (results_cell_row2 rfl _ _ wq.heap.size 26 _ (0, 0) _ rfl HROW.out Tryz.underlying26 rfl (by kernel_rfl)) rfl ?_
                  exact ⟨by rw [HG.out]; rfl, HBW.out⟩
                · have HG := Lib.hid (HBAD.out (by rw [HPO.out, HS.out, decide_eq_false he]; simp))
                  rw [HSR.out] at he
                  obtain ⟨T, hT⟩ : ∃ T, textS L = T := ⟨_, rfl⟩
                  rw [hT] at he ⊢
                  have hne : ¬ T.toList = r.toList := fun h => he (bytes_ext.1 h)
                  have hne3 : (T.toList == r.toList) = false := by simpa using hne
                  clear he hT
                  obtain ⟨⟨cz0, cz1, cz2⟩, hfz⟩ := row_cells HXZ.out
                  have fz0 := hfz 0; have fz1 := hfz 1; have fz2 := hfz 2
                  have HROW := Lib.hid (row_set HXZ.out (.bool false) (.string ⟨#[]⟩) (.string ⟨#[]⟩))
                  have HBW := Lib.hid (below_row HB0.out (b := wq.heap.size) (Nat.le_refl _) (.bool false) (.string ⟨#[]⟩) (.string ⟨#[]⟩))
                  clear hfz
                  go_wp2_with fail
                  refine bodyPost_ret (results_cell_row2 rfl _ _ wq.heap.size 26 _ (0, 0) _ rfl HROW.out Tryz.underlying26 rfl (by kernel_rfl)) rfl ?_
                  exact ⟨by rw [HG.out]; rfl, HBW.out⟩
              · rw [if_neg d0]
                rw [decide_eq_false d0] at HPO
                have HB9 := Lib.hid (HBAD.out (by rw [HPO.out]; simp))
                clear d0
                have hz6 := heap_up ((Below.refl _ w5).alloc (Nat.le_refl _) (.cells #[.bool false, .string ⟨#[]⟩, .string ⟨#[]⟩] 26)) HXZ.out
                obtain ⟨⟨cz0, cz1, cz2⟩, hfz⟩ := row_cells hz6
                have fz0 := hfz 0; have fz1 := hfz 1; have fz2 := hfz 2
                have HROW := Lib.hid (row_set hz6 (.bool false) (.string ⟨#[]⟩) (.string ⟨#[]⟩))
                have HBW := Lib.hid (below_row (HB0.out.alloc HB0.out.size (.cells #[.bool false, .string ⟨#[]⟩, .string ⟨#[]⟩] 26)) (b := wq.heap.size) (Nat.le_refl _) (.bool false) (.string ⟨#[]⟩) (.string ⟨#[]⟩))
                clear hz6 hfz
                go_wp2_with fail
                refine bodyPost_ret (results_cell_row2 rfl _ _ wq.heap.size 26 _ (0, 0) _ rfl HROW.out Tryz.underlying26 rfl (by kernel_rfl)) rfl ?_
                exact ⟨by rw [HB9.out]; rfl, HBW.out⟩
end Go.Proofs.YtancflpioigjbaaGreatDoor
