/- 'tithinglaw05.SpanCounts' returns true at every input: the walk, the row. -/
import Derived.Test.YtodkppeikpaclaaSpnS
import Derived.Test.YtodkppeikpaclaaSpnR
import Derived.Test.YtodkppeikpaclaaSpnM
namespace Go.Proofs.Ytodkppeikpaclaa.spanCounts
open Go.ChangeShapes Go.Shelf Go.WideShapes Go.ChangeAt Go.RowKit
open Spn Go.Sort
set_option linter.unusedVariables false

set_option maxHeartbeats 1000000 in
set_option maxRecDepth 100000 in
theorem walk (x : Value) (f n : Int) (w : World) (ha : ArgP w x) (hf : inI f) (hn0 : inI n) : Calls Try.prog 9 #[x, .int .i64 f, .int .i64 n] w fun e w' => e = .returned (.bool true) ∧ Below w.heap.size w w' := by
  have HA := Lib.hid ha
  have HB := Lib.hid (Below.refl w.heap.size w)
  have l0 := hf.1; have l1 := hf.2; have l2 := hn0.1; have l3 := hn0.2
  have n0 : -1 ≤ n % 60 - 1 := by omega
  have n1 : n % 60 - 1 ≤ 58 := by omega
  have nm0 : 0 ≤ n % 60 := by omega
  have nm1 : n % 60 < 60 := by omega
  obtain ⟨M, hM⟩ : ∃ M, n % 60 = M := ⟨_, rfl⟩
  rw [hM] at n0 n1 nm0 nm1
  have HM := Lib.hid hM
  clear ha hf hn0 hM
  go_enter Try.func9, Try.ntmps9
  go_wp2_with fail
  refine (sanity_any _).mono ?_
  rintro e w1 ⟨rfl, hb⟩
  have HB := Lib.hid (HB.out.trans (hb.mono HB.out.size))
  have HA := Lib.hid (HA.out.up hb)
  clear hb
  go_wp2_with fail
  refine (Made_any _ _ HA.out).mono ?_
  rintro e w2 ⟨va, la, rfl, hl, hna8, hm, hb⟩
  have HB := Lib.hid (HB.out.trans (hb.mono HB.out.size))
  have HA := Lib.hid (HA.out.up hb)
  have HX := Lib.hid hl; have HMA := Lib.hid hm
  have hna : la.length ≤ 10000 := by omega
  clear hl hm HA
  clear hb
  by_cases hneg : 0 ≤ f
  · have hF0 : 0 ≤ f % 100 := by omega
    have hF1 : f % 100 < 100 := by omega
    have ht : f.tmod 100 = f % 100 := Int.tmod_eq_emod_of_nonneg hneg
    obtain ⟨F, hFF⟩ : ∃ F, f % 100 = F := ⟨_, rfl⟩
    rw [hFF] at hF0 hF1 ht
    clear hFF
    go_wp2_with fail
    have hF : (0 ≤ F ∧ F < 100) ∨ (3652019 ≤ F ∧ F ≤ 3652058) := .inl ⟨hF0, hF1⟩
    clear ht
    refine (rMod_any n 60 (by decide) (by decide) l2 l3 _).mono ?_
    rintro e w1 ⟨rfl, rfl⟩
    rw [HM.out]
    go_wp2_with fail
    refine (Count_any _ la F (M - 1) _ hna HX.out).mono ?_
    rintro e w21 ⟨rfl, hb⟩
    have HB := Lib.hid (HB.out.trans (hb.mono HB.out.size))
    have HX := Lib.hid (HX.out.up hb)
    clear hb
    obtain ⟨OK, hOK⟩ : ∃ b, cntOk la F (M - 1) = b := ⟨_, rfl⟩
    obtain ⟨D, hD⟩ : ∃ d, cntN la F (M - 1) = d := ⟨_, rfl⟩
    rw [hOK, hD]
    have HOK := Lib.hid hOK; have HD := Lib.hid hD
    clear hOK hD
    go_wp2_with fail
    refine (rCount_any _ la F (M - 1) _ hna HX.out).mono ?_
    rintro e w22 ⟨rfl, hb⟩
    have HB := Lib.hid (HB.out.trans (hb.mono HB.out.size))
    have HX := Lib.hid (HX.out.up hb)
    rw [HOK.out, HD.out]
    clear hb
    cases OK
    · go_wp2_with fail
      go_ret
      exact ⟨rfl, HB.out⟩
    · have hc := cnt_of HOK.out
      rw [HD.out] at hc
      obtain ⟨ht, hd1, hn9, hf9⟩ := hc
      have hle := ht.le
      have h200 : D ≤ F + 200 := by
        rcases hF with hF | hF
        · have := end_near HMA.out ht (by omega) (by omega) hn9 (by omega); omega
        · omega
      have HT := Lib.hid ht
      clear ht
      go_wp2_with fail
      go_loopw [13, 14] (fun q i wr => ∃ (j : Nat) (m y : Int), m = F + (j : Int) ∧ m ≤ D ∧ i = .int .i64 m ∧ q = .int .i64 y ∧ Hid (cntD (freeB la) F j = y) ∧ Hid (Below w22.heap.size w22 wr)) (fun _ i _ => (D - intOf i).toNat)
      case atStart => exact ⟨0, F, 0, by simp, hle, rfl, rfl, Lib.hid rfl, Lib.hid (Below.refl _ _)⟩
      case round =>
        obtain ⟨j, m, y, hm, hmD, rfl, rfl, HY, HBW⟩ := hrel
        have hy0 : 0 ≤ y := by rw [← HY.out]; exact (cntD_bd _ _ _).1
        have hy1 : y ≤ (j : Int) := by rw [← HY.out]; exact (cntD_bd _ _ _).2
        by_cases hlt : m < D
        · have hm2 : m < F + 200 := by omega
          have HX := Lib.hid (HX.out.up HBW.out)
          have HN := Lib.hid (free_next (l := la) (d := F) j)
          rw [HY.out, ← hm] at HN
          have HMJ := Lib.hid hm
          have hm0 : 0 ≤ m := by omega
          have hy2 : y ≤ 4000000 := by omega
          clear hm
          obtain ⟨p, hp⟩ : ∃ p, hasB la m = p := ⟨_, rfl⟩
          rw [hp] at HN
          have HP := Lib.hid hp
          clear hp
          go_wp2_with fail
          refine (Has_any m _ la _ HX.out).mono ?_
          rintro e w8 ⟨rfl, hb⟩
          have HBW := Lib.hid (HBW.out.trans (hb.mono HBW.out.size))
          rw [HP.out]
          clear hb
          cases p
          · go_wp2_with fail
            go_roundw
            case rel => exact ⟨j + 1, m + 1, y + 1, by have := HMJ.out; omega, by omega, by go_num, by go_num, Lib.hid (by rw [HN.out]; simp), HBW⟩
            case measure => simp [intOf]; omega
          · go_wp2_with fail
            go_roundw
            case rel => exact ⟨j + 1, m + 1, y, by have := HMJ.out; omega, by omega, by go_num, by go_num, Lib.hid (by rw [HN.out]; simp), HBW⟩
            case measure => simp [intOf]; omega
        · have hge : D ≤ m := by omega
          have hj : (D - F).toNat = j := by omega
          have hyN : y = M - 1 := by rw [← HY.out, ← hj]; exact HT.out.cnt
          obtain rfl : m = D := by omega
          subst hyN
          have hb := HBW.out
          have HB := Lib.hid (HB.out.trans (hb.mono HB.out.size))
          have HX := Lib.hid (HX.out.up hb)
          clear hb
          by_cases hDF : m = F
          · subst hDF
            clear hm hmD hle hge h200 hj
            go_wp2_with fail
            go_ret
            exact ⟨by simp, HB.out⟩
          · clear hm hj
            have HL := Lib.hid (HT.out.last.resolve_left hDF)
            have hDF' : F < m := by omega
            go_wp2_with fail
            refine (Has_any (m - 1) _ la _ HX.out).mono ?_
            rintro e w23 ⟨rfl, hb⟩
            have HB := Lib.hid (HB.out.trans (hb.mono HB.out.size))
            have HX := Lib.hid (HX.out.up hb)
            rw [HL.out]
            clear hb
            go_wp2_with fail
            go_ret
            exact ⟨by simp, HB.out⟩
  · have hneg' : f < 0 := by omega
    have hF0 : 0 ≤ f % 40 := by omega
    have hF1 : f % 40 < 40 := by omega
    go_wp2_with fail
    refine (rMod_any f 40 (by decide) (by decide) l0 l1 _).mono ?_
    rintro e w1 ⟨rfl, rfl⟩
    obtain ⟨F, hFF⟩ : ∃ F, 3652058 - f % 40 = F := ⟨_, rfl⟩
    have hf40 : f % 40 = 3652058 - F := by omega
    rw [hf40]
    rw [hf40] at hF0 hF1
    have hF2 : 3652058 - (3652058 - F) = F := by omega
    clear hFF hf40
    go_wp2_with fail
    have hF : (0 ≤ F ∧ F < 100) ∨ (3652019 ≤ F ∧ F ≤ 3652058) := .inr ⟨by omega, by omega⟩
    clear hF2
    refine (rMod_any n 60 (by decide) (by decide) l2 l3 _).mono ?_
    rintro e w1 ⟨rfl, rfl⟩
    rw [HM.out]
    go_wp2_with fail
    refine (Count_any _ la F (M - 1) _ hna HX.out).mono ?_
    rintro e w21 ⟨rfl, hb⟩
    have HB := Lib.hid (HB.out.trans (hb.mono HB.out.size))
    have HX := Lib.hid (HX.out.up hb)
    clear hb
    obtain ⟨OK, hOK⟩ : ∃ b, cntOk la F (M - 1) = b := ⟨_, rfl⟩
    obtain ⟨D, hD⟩ : ∃ d, cntN la F (M - 1) = d := ⟨_, rfl⟩
    rw [hOK, hD]
    have HOK := Lib.hid hOK; have HD := Lib.hid hD
    clear hOK hD
    go_wp2_with fail
    refine (rCount_any _ la F (M - 1) _ hna HX.out).mono ?_
    rintro e w22 ⟨rfl, hb⟩
    have HB := Lib.hid (HB.out.trans (hb.mono HB.out.size))
    have HX := Lib.hid (HX.out.up hb)
    rw [HOK.out, HD.out]
    clear hb
    cases OK
    · go_wp2_with fail
      go_ret
      exact ⟨rfl, HB.out⟩
    · have hc := cnt_of HOK.out
      rw [HD.out] at hc
      obtain ⟨ht, hd1, hn9, hf9⟩ := hc
      have hle := ht.le
      have h200 : D ≤ F + 200 := by
        rcases hF with hF | hF
        · have := end_near HMA.out ht (by omega) (by omega) hn9 (by omega); omega
        · omega
      have HT := Lib.hid ht
      clear ht
      go_wp2_with fail
      go_loopw [13, 14] (fun q i wr => ∃ (j : Nat) (m y : Int), m = F + (j : Int) ∧ m ≤ D ∧ i = .int .i64 m ∧ q = .int .i64 y ∧ Hid (cntD (freeB la) F j = y) ∧ Hid (Below w22.heap.size w22 wr)) (fun _ i _ => (D - intOf i).toNat)
      case atStart => exact ⟨0, F, 0, by simp, hle, rfl, rfl, Lib.hid rfl, Lib.hid (Below.refl _ _)⟩
      case round =>
        obtain ⟨j, m, y, hm, hmD, rfl, rfl, HY, HBW⟩ := hrel
        have hy0 : 0 ≤ y := by rw [← HY.out]; exact (cntD_bd _ _ _).1
        have hy1 : y ≤ (j : Int) := by rw [← HY.out]; exact (cntD_bd _ _ _).2
        by_cases hlt : m < D
        · have hm2 : m < F + 200 := by omega
          have HX := Lib.hid (HX.out.up HBW.out)
          have HN := Lib.hid (free_next (l := la) (d := F) j)
          rw [HY.out, ← hm] at HN
          have HMJ := Lib.hid hm
          have hm0 : 0 ≤ m := by omega
          have hy2 : y ≤ 4000000 := by omega
          clear hm
          obtain ⟨p, hp⟩ : ∃ p, hasB la m = p := ⟨_, rfl⟩
          rw [hp] at HN
          have HP := Lib.hid hp
          clear hp
          go_wp2_with fail
          refine (Has_any m _ la _ HX.out).mono ?_
          rintro e w8 ⟨rfl, hb⟩
          have HBW := Lib.hid (HBW.out.trans (hb.mono HBW.out.size))
          rw [HP.out]
          clear hb
          cases p
          · go_wp2_with fail
            go_roundw
            case rel => exact ⟨j + 1, m + 1, y + 1, by have := HMJ.out; omega, by omega, by go_num, by go_num, Lib.hid (by rw [HN.out]; simp), HBW⟩
            case measure => simp [intOf]; omega
          · go_wp2_with fail
            go_roundw
            case rel => exact ⟨j + 1, m + 1, y, by have := HMJ.out; omega, by omega, by go_num, by go_num, Lib.hid (by rw [HN.out]; simp), HBW⟩
            case measure => simp [intOf]; omega
        · have hge : D ≤ m := by omega
          have hj : (D - F).toNat = j := by omega
          have hyN : y = M - 1 := by rw [← HY.out, ← hj]; exact HT.out.cnt
          obtain rfl : m = D := by omega
          subst hyN
          have hb := HBW.out
          have HB := Lib.hid (HB.out.trans (hb.mono HB.out.size))
          have HX := Lib.hid (HX.out.up hb)
          clear hb
          by_cases hDF : m = F
          · subst hDF
            clear hm hmD hle hge h200 hj
            go_wp2_with fail
            go_ret
            exact ⟨by simp, HB.out⟩
          · clear hm hj
            have HL := Lib.hid (HT.out.last.resolve_left hDF)
            have hDF' : F < m := by omega
            go_wp2_with fail
            refine (Has_any (m - 1) _ la _ HX.out).mono ?_
            rintro e w23 ⟨rfl, hb⟩
            have HB := Lib.hid (HB.out.trans (hb.mono HB.out.size))
            have HX := Lib.hid (HX.out.up hb)
            rw [HL.out]
            clear hb
            go_wp2_with fail
            go_ret
            exact ⟨by simp, HB.out⟩

/-! ### THE ROW's STEP -/
set_option maxRecDepth 100000 in
theorem lifted (os : Os) (started : os.Started) (H : Type) (enc : TypeId × Value → H) :
    ReturnsInHanded {} Try.checked os 9 .any (Rows.spanCountsSpec.pre6 enc Try.prog Try.f9 Rows.spanCountsRow.domain false) (Rows.spanCountsSpec.post enc Try.prog Try.f9 false true false false) := by
  refine returnsInHanded_of_change (C := Try.checked) own started (by kernel_rfl) Try.func9
    (ChangeSpec.witness6 (enc := enc) (C := Try.checked) false ⟨#[], #[.slice none 0 0, .int .i64 0, .int .i64 0], []⟩ 8 (by kernel_rfl) (by kernel_rfl) (by kernel_rfl) (by kernel_rfl)) ?_
  intro W base args ds gs before hval0 hW hcnd _
  have hval : ∀ (j : Nat) t v, Try.f9.params[j]? = some t → args[j]? = some v → Value.okWide Try.prog W .any base t v := hval0
  have hW' := hW
  obtain ⟨p, q, hA0, hV, rfl, hfz, hnd⟩ := hW
  have hA : DataW.TrodAll enc Try.prog W 0 (fun _ => true) true Try.f9.params.toList args.toList ds p := hA0
  rw [Try.params9] at hA hval
  obtain ⟨v0, vs0, d0, ds0, p0, q0, hargs, rfl, rfl, h0, r0⟩ := trodAll_cons hA
  obtain ⟨v1, vs1, d1, ds1, p1, q1, rfl, rfl, rfl, h1, r1⟩ := trodAll_cons r0
  obtain ⟨v2, vs2, d2, ds2, p2, q2, rfl, rfl, rfl, h2, r2⟩ := trodAll_cons r1
  obtain ⟨rfl, rfl, rfl⟩ := trodAll_nil r2
  obtain rfl : args = #[v0, v1, v2] := by cases args; simp_all
  obtain ⟨rfl, rfl⟩ := trodVars_none hV
  have a0 : ArgP W v0 := arg_arrays Try.underlying22 Try.underlying30 Try.underlying3 (by kernel_rfl) (by kernel_rfl) (hval 0 22 v0 rfl rfl) h0
  have lt0 : ∀ x ∈ p0, x.block < W.heap.size := fun x hx => hW'.lt x (by simp [hx])
  obtain ⟨n1, rfl, rfl, rfl, w1⟩ := open_int Try.underlying3 (hval 1 3 v1 rfl rfl) h1
  obtain ⟨n2, rfl, rfl, rfl, w2⟩ := open_int Try.underlying3 (hval 2 3 v2 rfl rfl) h2
  clear hA0 hval0
  simp only [List.append_nil] at hW'
  refine (walk v0 n1 n2 W a0 (wf_in w1) (wf_in w2)).mono fun e W' ⟨he, hb⟩ => ?_
  subst he
  exact ⟨_, rfl, post_of_below (pv := []) hW' (fun _ _ _ => (trodAll_cons_mk (shut_bool Try.underlying4 _) trodAll_mk0)) (fun sp hsp => (trodAll_cons_mk (WideElems.Trod_stays (by kernel_rfl) (by kernel_rfl) (of_decide_eq_true (by kernel_rfl)) h0 (fun x hx => hb.same (lt0 x hx)) (fun x hx => hsp x (by simp [hx]))) (trodAll_cons_mk (shut_int Try.underlying3 w1) (trodAll_cons_mk (shut_int Try.underlying3 w2) trodAll_mk0)))) (fun _ _ => rfl) (by simp)
    hb (ok_one (by kernel_rfl) rfl (okWide_bool_mk Try.underlying4 _))⟩

theorem over : Rows.spanCountsRow.holds Try.pinned (OpenSpec.ofChange Rows.spanCountsSpec) :=
  OpenClaim.holds_of_wide 9 Try.f9 rfl rfl rfl rfl rfl rfl rfl ⟨rfl, rfl, rfl, rfl, rfl⟩ rfl rfl rfl rfl rfl (by kernel_rfl) Try.func9 (by kernel_rfl)
    (of_decide_eq_true (by kernel_rfl)) (by unfold Func.isWrapper; first | (rw [if_pos (by decide +kernel)]; kernel_rfl) | (rw [if_neg (by decide +kernel)]; exact ⟨rfl, rfl⟩))
    (fun os started H enc _ => lifted os started H enc)

theorem proved : Rows.SpanCountsSaid :=
  over
#print axioms proved
end Go.Proofs.Ytodkppeikpaclaa.spanCounts
