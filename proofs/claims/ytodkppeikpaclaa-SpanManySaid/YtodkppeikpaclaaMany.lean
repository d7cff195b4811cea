/- 'tithinglaw05.SpanMany' returns true at every input: the walk, the row. -/
import Derived.Test.YtodkppeikpaclaaSpnS
import Derived.Test.YtodkppeikpaclaaSpnR
import Derived.Test.YtodkppeikpaclaaSpnN
namespace Go.Proofs.Ytodkppeikpaclaa.spanMany
open Go.ChangeShapes Go.Shelf Go.WideShapes Go.ChangeAt Go.RowKit
open Spn Go.Sort
set_option linter.unusedVariables false

/-- the days of a list among the first k and the last k ones -/
def cntW (l : List Sp) (k : Nat) : Int := cntD (hasB l) 0 k + cntD (hasB l) (3652059 - k) k
theorem cntW_bd (l : List Sp) (k : Nat) : 0 ≤ cntW l k ∧ cntW l k ≤ 2 * k := by
  have h1 := cntD_bd (hasB l) 0 k
  have h2 := cntD_bd (hasB l) (3652059 - k) k
  unfold cntW; omega
theorem cntW_next (l : List Sp) (k : Nat) : cntW l (k + 1) = cntW l k + (if hasB l (k : Int) = true then 1 else 0) + (if hasB l (3652058 - (k : Int)) = true then 1 else 0) := by
  have e : cntD (hasB l) (3652059 - ((k + 1 : Nat) : Int)) (k + 1) = (if hasB l (3652058 - (k : Int)) = true then 1 else 0) + cntD (hasB l) (3652059 - k) k := by
    rw [Nat.add_comm k 1, cntD_add, show (3652059 : Int) - ((1 + k : Nat) : Int) + ((1 : Nat) : Int) = 3652059 - k by omega]
    congr 1
    show 0 + _ = _
    rw [Int.zero_add, show (3652059 : Int) - ((1 + k : Nat) : Int) + ((0 : Nat) : Int) = 3652058 - k by omega]
  unfold cntW
  rw [e, cntD, Int.zero_add]
  omega
theorem made_has {l : List Sp} (h : ∀ s ∈ l, madeP s) {d : Int} (h1 : 70 ≤ d) (h2 : d < 3652039) : hasB l d = false := by
  cases hh : hasB l d
  · rfl
  · obtain ⟨s, hs, hr, a, b⟩ := (hasB_iff l d).1 hh
    obtain ⟨c1, c2, c3⟩ := h s hs
    omega
theorem cntW_all {l : List Sp} (h : ∀ s ∈ l, madeP s) : daysL (norm l) = cntW l 75 := by
  rw [days_norm, show 3652059 = 75 + (3651909 + 75) from rfl, cntD_add, cntD_add]
  rw [cntD_false (n := 3651909) fun d h1 h2 => made_has h (by omega) (by omega)]
  unfold cntW
  rw [Int.zero_add]
  rfl
set_option maxHeartbeats 4000000 in
set_option maxRecDepth 100000 in
theorem walk (x y : Value) (w : World) (ha : ArgP w x) (hb0 : ArgP w y) : Calls Try.prog 8 #[x, y] w fun e w' => e = .returned (.bool true) ∧ Below w.heap.size w w' := by
  have HA := Lib.hid ha; have HC := Lib.hid hb0
  clear ha hb0
  have HB := Lib.hid (Below.refl w.heap.size w)
  go_enter Try.func8, Try.ntmps8
  go_wp2_with fail
  refine (sanity_any _).mono ?_
  rintro e w1 ⟨rfl, hb⟩
  have HB := Lib.hid (HB.out.trans (hb.mono HB.out.size))
  have HA := Lib.hid (HA.out.up hb)
  have HC := Lib.hid (HC.out.up hb)
  clear hb
  go_wp2_with fail
  refine (Made_any _ _ HA.out).mono ?_
  rintro e w2 ⟨va, la, rfl, hl, hna8, hm, hb⟩
  have HB := Lib.hid (HB.out.trans (hb.mono HB.out.size))
  have HA := Lib.hid (HA.out.up hb)
  have HC := Lib.hid (HC.out.up hb)
  have HX := Lib.hid hl; have HMA := Lib.hid hm
  have hna : la.length ≤ 10000 := by omega
  clear hl hm
  clear hb
  go_wp2_with fail
  refine (Made_any _ _ HC.out).mono ?_
  rintro e w3 ⟨vb, lb, rfl, hl, hnb8, hm, hb⟩
  have HB := Lib.hid (HB.out.trans (hb.mono HB.out.size))
  have HC := Lib.hid (HC.out.up hb)
  have HX := Lib.hid (HX.out.up hb)
  have HY := Lib.hid hl; have HMB := Lib.hid hm
  have hnb : lb.length ≤ 10000 := by omega
  clear hl hm
  clear hb
  go_wp2_with fail
  clear HA HC
  go_loopw [8, 9] (fun n i wr => ∃ k : Nat, k ≤ 75 ∧ i = .int .i64 (k : Int) ∧ n = .int .i64 (cntW la k) ∧ Hid (Below w3.heap.size w3 wr)) (fun _ i _ => 75 - (intOf i).toNat)
  case atStart => exact ⟨0, by omega, rfl, rfl, Lib.hid (Below.refl _ _)⟩
  case round =>
    obtain ⟨k, hk, rfl, rfl, HBW⟩ := hrel
    have hq := cntW_bd la k
    have HS := Lib.hid (cntW_next la k)
    obtain ⟨q, hqq⟩ : ∃ q, cntW la k = q := ⟨_, rfl⟩
    rw [hqq] at hq HS ⊢
    obtain ⟨p1, hp1⟩ : ∃ p, hasB la (k : Int) = p := ⟨_, rfl⟩
    obtain ⟨p2, hp2⟩ : ∃ p, hasB la (3652058 - (k : Int)) = p := ⟨_, rfl⟩
    rw [hp1, hp2] at HS
    have HP1 := Lib.hid hp1; have HP2 := Lib.hid hp2
    have HQ := Lib.hid hqq
    have HX := Lib.hid (HX.out.up HBW.out)
    clear hp1 hp2 hqq
    by_cases hlt : k < 75
    · have hlt' : (k : Int) < 75 := by omega
      go_wp2_with fail
      refine (Has_any (k : Int) _ la _ HX.out).mono ?_
      rintro e w4 ⟨rfl, hb⟩
      have HX := Lib.hid (HX.out.up hb)
      have HBW := Lib.hid (HBW.out.trans (hb.mono HBW.out.size))
      rw [HP1.out]
      clear hb
      cases p1
      · go_wp2_with fail
        refine (Has_any (3652058 - (k : Int)) _ la _ HX.out).mono ?_
        rintro e w5 ⟨rfl, hb⟩
        have HBW := Lib.hid (HBW.out.trans (hb.mono HBW.out.size))
        rw [HP2.out]
        clear hb
        cases p2
        · go_wp2_with fail
          go_roundw
          case rel => exact ⟨k + 1, by omega, by go_num, (by rw [HS.out]; first | done | (go_num; done) | simp), HBW⟩
          case measure => simp [intOf]; omega
        · go_wp2_with fail
          go_roundw
          case rel => exact ⟨k + 1, by omega, by go_num, (by rw [HS.out]; first | done | (go_num; done) | simp), HBW⟩
          case measure => simp [intOf]; omega
      · go_wp2_with fail
        refine (Has_any (3652058 - (k : Int)) _ la _ HX.out).mono ?_
        rintro e w5 ⟨rfl, hb⟩
        have HBW := Lib.hid (HBW.out.trans (hb.mono HBW.out.size))
        rw [HP2.out]
        clear hb
        cases p2
        · go_wp2_with fail
          go_roundw
          case rel => exact ⟨k + 1, by omega, by go_num, (by rw [HS.out]; first | done | (go_num; done) | simp), HBW⟩
          case measure => simp [intOf]; omega
        · go_wp2_with fail
          go_roundw
          case rel => exact ⟨k + 1, by omega, by go_num, (by rw [HS.out]; first | done | (go_num; done) | simp), HBW⟩
          case measure => simp [intOf]; omega
    · have hge : (75 : Int) ≤ (k : Int) := by omega
      obtain rfl : k = 75 := by omega
      have HE := Lib.hid ((cntW_all HMA.out).trans HQ.out)
      have HT := Lib.hid (days_two la lb)
      have bd1 := daysL_bd (norm la) (norm_bd la); have bd2 := daysL_bd (norm lb) (norm_bd lb)
      have bd3 := daysL_bd (norm (comb orF la lb)) (norm_bd _); have bd4 := daysL_bd (norm (comb andF la lb)) (norm_bd _)
      have l1 := norm_len la; have l2 := norm_len lb; have l3 := norm_len (comb orF la lb); have l4 := norm_len (comb andF la lb); have l5 := comb_len orF la lb; have l6 := comb_len andF la lb
      obtain ⟨D1, hD1⟩ : ∃ D, daysL (norm la) = D := ⟨_, rfl⟩
      obtain ⟨D2, hD2⟩ : ∃ D, daysL (norm lb) = D := ⟨_, rfl⟩
      obtain ⟨D3, hD3⟩ : ∃ D, daysL (norm (comb orF la lb)) = D := ⟨_, rfl⟩
      obtain ⟨D4, hD4⟩ : ∃ D, daysL (norm (comb andF la lb)) = D := ⟨_, rfl⟩
      rw [hD1] at HE bd1 HT; rw [hD2] at bd2 HT; rw [hD3] at bd3 HT; rw [hD4] at bd4 HT
      have HD1 := Lib.hid hD1
      have HD2 := Lib.hid hD2
      have HD3 := Lib.hid hD3
      have HD4 := Lib.hid hD4
      clear hD1 hD2 hD3 hD4
      obtain rfl := HE.out
      replace bd1 : -1000000000000 ≤ D1 ∧ D1 ≤ 1000000000000 := by omega
      replace bd2 : -1000000000000 ≤ D2 ∧ D2 ≤ 1000000000000 := by omega
      replace bd3 : -1000000000000 ≤ D3 ∧ D3 ≤ 1000000000000 := by omega
      replace bd4 : -1000000000000 ≤ D4 ∧ D4 ≤ 1000000000000 := by omega
      clear l1 l2 l3 l4
      have hb := HBW.out
      have HB := Lib.hid (HB.out.trans (hb.mono HB.out.size))
      have HY := Lib.hid (HY.out.up hb)
      clear hb
      go_wp2_with fail
      refine (Days_any _ la _ hna HX.out).mono ?_
      rintro e w11 ⟨rfl, hb⟩
      have HB := Lib.hid (HB.out.trans (hb.mono HB.out.size))
      have HX := Lib.hid (HX.out.up hb)
      have HY := Lib.hid (HY.out.up hb)
      rw [HD1.out]
      clear hb
      go_wp2_with fail
      refine (Union_any _ _ la lb _ hna hnb HX.out HY.out).mono ?_
      rintro e w12 ⟨v1, rfl, hl, hb⟩
      have HB := Lib.hid (HB.out.trans (hb.mono HB.out.size))
      have HX := Lib.hid (HX.out.up hb)
      have HY := Lib.hid (HY.out.up hb)
      have H1 := Lib.hid hl
      clear hl
      clear hb
      go_wp2_with fail
      refine (Days_any _ (comb orF la lb) _ (by omega) H1.out).mono ?_
      rintro e w13 ⟨rfl, hb⟩
      have HB := Lib.hid (HB.out.trans (hb.mono HB.out.size))
      have HX := Lib.hid (HX.out.up hb)
      have HY := Lib.hid (HY.out.up hb)
      have H1 := Lib.hid (H1.out.up hb)
      rw [HD3.out]
      clear hb
      go_wp2_with fail
      refine (Meet_any _ _ la lb _ hna hnb HX.out HY.out).mono ?_
      rintro e w14 ⟨v2, rfl, hl, hb⟩
      have HB := Lib.hid (HB.out.trans (hb.mono HB.out.size))
      have HX := Lib.hid (HX.out.up hb)
      have HY := Lib.hid (HY.out.up hb)
      have H1 := Lib.hid hl
      clear hl
      clear hb
      go_wp2_with fail
      refine (Days_any _ (comb andF la lb) _ (by omega) H1.out).mono ?_
      rintro e w15 ⟨rfl, hb⟩
      have HB := Lib.hid (HB.out.trans (hb.mono HB.out.size))
      have HX := Lib.hid (HX.out.up hb)
      have HY := Lib.hid (HY.out.up hb)
      have H1 := Lib.hid (H1.out.up hb)
      rw [HD4.out]
      clear hb
      go_wp2_with fail
      refine (Days_any _ la _ hna HX.out).mono ?_
      rintro e w16 ⟨rfl, hb⟩
      have HB := Lib.hid (HB.out.trans (hb.mono HB.out.size))
      have HX := Lib.hid (HX.out.up hb)
      have HY := Lib.hid (HY.out.up hb)
      rw [HD1.out]
      clear hb
      go_wp2_with fail
      refine (Days_any _ lb _ hnb HY.out).mono ?_
      rintro e w17 ⟨rfl, hb⟩
      have HB := Lib.hid (HB.out.trans (hb.mono HB.out.size))
      have HX := Lib.hid (HX.out.up hb)
      have HY := Lib.hid (HY.out.up hb)
      rw [HD2.out]
      clear hb
      go_wp2_with fail
      go_ret
      exact ⟨by simp [HT.out], HB.out⟩

/-! ### THE ROW's STEP -/
set_option maxRecDepth 100000 in
theorem lifted (os : Os) (started : os.Started) (H : Type) (enc : TypeId × Value → H) :
    ReturnsInHanded {} Try.checked os 8 .any (Rows.spanManySpec.pre6 enc Try.prog Try.f8 Rows.spanManyRow.domain false) (Rows.spanManySpec.post enc Try.prog Try.f8 false true false false) := by
  refine returnsInHanded_of_change (C := Try.checked) own started (by kernel_rfl) Try.func8
    (ChangeSpec.witness6 (enc := enc) (C := Try.checked) false ⟨#[], #[.slice none 0 0, .slice none 0 0], []⟩ 8 (by kernel_rfl) (by kernel_rfl) (by kernel_rfl) (by kernel_rfl)) ?_
  intro W base args ds gs before hval0 hW hcnd _
  have hval : ∀ (j : Nat) t v, Try.f8.params[j]? = some t → args[j]? = some v → Value.okWide Try.prog W .any base t v := hval0
  have hW' := hW
  obtain ⟨p, q, hA0, hV, rfl, hfz, hnd⟩ := hW
  have hA : DataW.TrodAll enc Try.prog W 0 (fun _ => true) true Try.f8.params.toList args.toList ds p := hA0
  rw [Try.params8] at hA hval
  obtain ⟨v0, vs0, d0, ds0, p0, q0, hargs, rfl, rfl, h0, r0⟩ := trodAll_cons hA
  obtain ⟨v1, vs1, d1, ds1, p1, q1, rfl, rfl, rfl, h1, r1⟩ := trodAll_cons r0
  obtain ⟨rfl, rfl, rfl⟩ := trodAll_nil r1
  obtain rfl : args = #[v0, v1] := by cases args; simp_all
  obtain ⟨rfl, rfl⟩ := trodVars_none hV
  have a0 : ArgP W v0 := arg_arrays Try.underlying22 Try.underlying30 Try.underlying3 (by kernel_rfl) (by kernel_rfl) (hval 0 22 v0 rfl rfl) h0
  have lt0 : ∀ x ∈ p0, x.block < W.heap.size := fun x hx => hW'.lt x (by simp [hx])
  have a1 : ArgP W v1 := arg_arrays Try.underlying22 Try.underlying30 Try.underlying3 (by kernel_rfl) (by kernel_rfl) (hval 1 22 v1 rfl rfl) h1
  have lt1 : ∀ x ∈ p1, x.block < W.heap.size := fun x hx => hW'.lt x (by simp [hx])
  clear hA0 hval0
  simp only [List.append_nil] at hW'
  refine (walk v0 v1 W a0 a1).mono fun e W' ⟨he, hb⟩ => ?_
  subst he
  exact ⟨_, rfl, post_of_below (pv := []) hW' (fun _ _ _ => (trodAll_cons_mk (shut_bool Try.underlying4 _) trodAll_mk0)) (fun sp hsp => (trodAll_cons_mk (WideElems.Trod_stays (by kernel_rfl) (by kernel_rfl) (of_decide_eq_true (by kernel_rfl)) h0 (fun x hx => hb.same (lt0 x hx)) (fun x hx => hsp x (by simp [hx]))) (trodAll_cons_mk (WideElems.Trod_stays (by kernel_rfl) (by kernel_rfl) (of_decide_eq_true (by kernel_rfl)) h1 (fun x hx => hb.same (lt1 x hx)) (fun x hx => hsp x (by simp [hx]))) trodAll_mk0))) (fun _ _ => rfl) (by simp)
    hb (ok_one (by kernel_rfl) rfl (okWide_bool_mk Try.underlying4 _))⟩

theorem over : Rows.spanManyRow.holds Try.pinned (OpenSpec.ofChange Rows.spanManySpec) :=
  OpenClaim.holds_of_wide 8 Try.f8 rfl rfl rfl rfl rfl rfl rfl ⟨rfl, rfl, rfl, rfl, rfl⟩ rfl rfl rfl rfl rfl (by kernel_rfl) Try.func8 (by kernel_rfl)
    (of_decide_eq_true (by kernel_rfl)) (by unfold Func.isWrapper; first | (rw [if_pos (by decide +kernel)]; kernel_rfl) | (rw [if_neg (by decide +kernel)]; exact ⟨rfl, rfl⟩))
    (fun os started H enc _ => lifted os started H enc)

theorem proved : Rows.SpanManySaid :=
  over
#print axioms proved
end Go.Proofs.Ytodkppeikpaclaa.spanMany
