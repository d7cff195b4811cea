/- 'tithinglaw03.DateYears' returns true at every input: the walk, the plain facts on years, the row. -/
import Derived.Test.YtfoifnhakmfefaaLaw
import Derived.Test.YtfoifnhakmfefaaSan
namespace Go.Proofs.Ytfoifnhakmfefaa.dateYears
open Go.ChangeShapes Go.Shelf Cal Txt Go.WideShapes Go.ChangeAt Go.RowKit
set_option linter.unusedVariables false

theorem lp_400 (y : Int) : lp (y + 400) = lp y := by
  unfold lp leapB
  rw [show (y + 400) % 4 = y % 4 by omega, show (y + 400) % 100 = y % 100 by omega, show (y + 400) % 400 = y % 400 by omega]
theorem dim_400 (y m : Int) : dim (y + 400) m = dim y m := by unfold dim; rw [lp_400]
theorem valid_400 (y m d : Int) (h1 : 1 ≤ y) (h2 : y ≤ 9599) : validB (y + 400) m d = validB y m d := by
  by_cases h : validB y m d = true
  · rw [h]
    have := (valid_iff _ _ _).1 h
    exact valid_mk (by rw [dim_400]; omega)
  · have h' : validB y m d = false := by simpa using h
    rw [h']
    refine valid_not fun hc => h (valid_mk ?_)
    rw [dim_400] at hc
    omega
theorem num_400 (y m d : Int) : num (y + 400) m d - num y m d = 146097 := by
  unfold num cum dby
  rw [lp_400]
  omega
theorem valid_one (y : Int) (h1 : 1 ≤ y) (h2 : y ≤ 9999) : validB y 1 1 = true := valid_mk ⟨h1, h2, by decide, by decide, by decide, by have := dim_lo y 1; omega⟩
theorem valid_dec (y : Int) (h1 : 1 ≤ y) (h2 : y ≤ 9999) : validB y 12 31 = true := valid_mk ⟨h1, h2, by decide, by decide, by decide, by simp [dim]⟩
theorem valid_29 (y : Int) (h1 : 1 ≤ y) (h2 : y ≤ 9999) : validB y 2 29 = leapB y := by
  cases h : leapB y
  · exact valid_not (by simp [dim, lp, h])
  · exact valid_mk (by simp [dim, lp, h]; omega)
theorem valid_30 (y : Int) : validB y 2 30 = false := valid_not (by have := lp_01 y; simp only [dim, if_true]; omega)
theorem valid_28 (y : Int) (h1 : 1 ≤ y) (h2 : y ≤ 9999) : validB y 2 28 = true := valid_mk (by have := lp_01 y; simp only [dim, if_true]; omega)
theorem year_days (y : Int) : num y 12 31 - num y 1 1 = 364 + lp y := by unfold num cum; simp; omega

set_option maxHeartbeats 2000000 in
theorem walk (a0 a1 a2 : Int) (w0 : (Lit.int .u16 a0).wf = true) (w1 : (Lit.int .u8 a1).wf = true) (w2 : (Lit.int .u8 a2).wf = true) (w : World) :
    Calls Try.prog 5 #[.int .u16 a0, .int .u8 a1, .int .u8 a2] w (Gives w (.bool true)) := by
  obtain ⟨l0, l1⟩ := bounds_u16 w0
  obtain ⟨l2, l3⟩ := bounds_u8 w1
  obtain ⟨l4, l5⟩ := bounds_u8 w2
  obtain ⟨y, hy⟩ : ∃ y, y = 1 + a0 % 9599 := ⟨_, rfl⟩
  obtain ⟨m, hm⟩ : ∃ y, y = a1 % 14 := ⟨_, rfl⟩
  obtain ⟨d, hd⟩ : ∃ y, y = a2 % 33 := ⟨_, rfl⟩
  have y1 : 1 ≤ y := by omega
  have y2 : y ≤ 9599 := by omega
  have v1 := Lib.hid (valid_one y y1 (by omega))
  have v2 := Lib.hid (valid_dec y y1 (by omega))
  have v3 := Lib.hid (valid_29 y y1 (by omega))
  have v4 := Lib.hid (valid_30 y)
  have v5 := Lib.hid (valid_28 y y1 (by omega))
  have v6 := Lib.hid (valid_400 y m d y1 y2)
  obtain ⟨A, hA⟩ : ∃ A, A = num y 1 1 := ⟨_, rfl⟩
  have hA0 : 0 ≤ A ∧ A ≤ 3652058 := by rw [hA]; exact num_bd v1.out
  obtain ⟨hA1, hA2⟩ := hA0
  obtain ⟨C, hC⟩ : ∃ C, C = num y m d := ⟨_, rfl⟩
  have n1 := Lib.hid (show numV y 1 1 = A by simp [numV, v1.out, hA])
  have n2 := Lib.hid (show numV y 12 31 = A + (364 + lp y) by simp only [numV, v2.out, if_true]; have := year_days y; omega)
  have d4 := Lib.hid (show num (y + 400) m d = C + 146097 by have := num_400 y m d; omega)
  have d3 := Lib.hid (show num y m d = C from hC.symm)
  have d5 := Lib.hid (show validB y m d = true → 0 ≤ C ∧ C ≤ 3652058 by rw [hC]; exact num_bd)
  clear hA hC
  have HY := Lib.hid hy
  have HM := Lib.hid hm
  have HD := Lib.hid hd
  clear hy hm hd
  have hll : leapB y = true ∨ leapB y = false := by cases leapB y <;> simp
  have hvv : validB y m d = true ∨ validB y m d = false := by cases validB y m d <;> simp
  have hl := Lib.hid hll
  have hv := Lib.hid hvv
  clear hll hvv
  go_enter Try.func5, Try.ntmps5
  go_wp2_with fail
  refine (sanity_any _).mono ?_
  rintro e w1' ⟨rfl, hb1⟩
  have HB1 := Lib.hid hb1; clear hb1
  go_wp2_with fail
  rw [← HY.out]
  refine (Number_any _ _ _ _).mono ?_
  rintro e w2' ⟨rfl, hb2⟩
  have HB2 := Lib.hid (HB1.out.trans (hb2.mono HB1.out.size)); clear hb2
  rw [v1.out, n1.out]
  go_wp2_with fail
  refine (Number_any _ _ _ _).mono ?_
  rintro e w3' ⟨rfl, hb3⟩
  have HB3 := Lib.hid (HB2.out.trans (hb3.mono HB2.out.size)); clear hb3
  rw [v2.out, n2.out]
  rcases hl.out with hlp | hlp
  · have dl := Lib.hid (lp_true hlp)
    have hlq := Lib.hid hlp
    clear hlp
    rw [dl.out]
    go_wp2_with fail
    refine (valid_any _ _ _ _).mono ?_
    rintro e w4' ⟨rfl, hb4⟩
    have HB4 := Lib.hid (HB3.out.trans (hb4.mono HB3.out.size)); clear hb4
    rw [v3.out, hlq.out]
    go_wp2_with fail
    rw [← HM.out, ← HD.out]
    refine (Number_any _ _ _ _).mono ?_
    rintro e w5' ⟨rfl, hb5⟩
    have HB5 := Lib.hid (HB4.out.trans (hb5.mono HB4.out.size)); clear hb5
    rcases hv.out with hvp | hvp
    · have n3 := Lib.hid (show numV y m d = C by simp [numV, hvp, d3.out])
      have n4 := Lib.hid (show numV (y + 400) m d = C + 146097 by simp [numV, v6.out, hvp, d4.out])
      have n5 := Lib.hid (v6.out.trans hvp)
      obtain ⟨C0, C1⟩ := d5.out hvp
      rw [n3.out, hvp]
      clear hvp
      go_wp2_with fail
      rw [← HM.out, ← HD.out]
      refine (Number_any _ _ _ _).mono ?_
      rintro e w6' ⟨rfl, hb6⟩
      have HB6 := Lib.hid (HB5.out.trans (hb6.mono HB5.out.size)); clear hb6
      rw [n4.out, n5.out]
      go_wp2_with fail
      refine (valid_any _ _ _ _).mono ?_
      rintro e w7' ⟨rfl, hb7⟩
      have HB7 := Lib.hid (HB6.out.trans (hb7.mono HB6.out.size)); clear hb7
      rw [v4.out]
      go_wp2_with fail
      refine (valid_any _ _ _ _).mono ?_
      rintro e w8' ⟨rfl, hb8⟩
      have HB8 := Lib.hid (HB7.out.trans (hb8.mono HB7.out.size)); clear hb8
      rw [v5.out]
      go_wp2_with fail
      go_ret
      exact ⟨rfl, HB8.out⟩
    · have n3 := Lib.hid (show numV y m d = 0 by simp [numV, hvp])
      have n4 := Lib.hid (show numV (y + 400) m d = 0 by simp [numV, v6.out, hvp])
      have n5 := Lib.hid (v6.out.trans hvp)
      rw [n3.out, hvp]
      clear hvp
      go_wp2_with fail
      rw [← HM.out, ← HD.out]
      refine (Number_any _ _ _ _).mono ?_
      rintro e w6' ⟨rfl, hb6⟩
      have HB6 := Lib.hid (HB5.out.trans (hb6.mono HB5.out.size)); clear hb6
      rw [n4.out, n5.out]
      go_wp2_with fail
      refine (valid_any _ _ _ _).mono ?_
      rintro e w7' ⟨rfl, hb7⟩
      have HB7 := Lib.hid (HB6.out.trans (hb7.mono HB6.out.size)); clear hb7
      rw [v4.out]
      go_wp2_with fail
      refine (valid_any _ _ _ _).mono ?_
      rintro e w8' ⟨rfl, hb8⟩
      have HB8 := Lib.hid (HB7.out.trans (hb8.mono HB7.out.size)); clear hb8
      rw [v5.out]
      go_wp2_with fail
      go_ret
      exact ⟨rfl, HB8.out⟩
  · have dl := Lib.hid (lp_false hlp)
    have hlq := Lib.hid hlp
    clear hlp
    rw [dl.out]
    go_wp2_with fail
    refine (valid_any _ _ _ _).mono ?_
    rintro e w4' ⟨rfl, hb4⟩
    have HB4 := Lib.hid (HB3.out.trans (hb4.mono HB3.out.size)); clear hb4
    rw [v3.out, hlq.out]
    go_wp2_with fail
    rw [← HM.out, ← HD.out]
    refine (Number_any _ _ _ _).mono ?_
    rintro e w5' ⟨rfl, hb5⟩
    have HB5 := Lib.hid (HB4.out.trans (hb5.mono HB4.out.size)); clear hb5
    rcases hv.out with hvp | hvp
    · have n3 := Lib.hid (show numV y m d = C by simp [numV, hvp, d3.out])
      have n4 := Lib.hid (show numV (y + 400) m d = C + 146097 by simp [numV, v6.out, hvp, d4.out])
      have n5 := Lib.hid (v6.out.trans hvp)
      obtain ⟨C0, C1⟩ := d5.out hvp
      rw [n3.out, hvp]
      clear hvp
      go_wp2_with fail
      rw [← HM.out, ← HD.out]
      refine (Number_any _ _ _ _).mono ?_
      rintro e w6' ⟨rfl, hb6⟩
      have HB6 := Lib.hid (HB5.out.trans (hb6.mono HB5.out.size)); clear hb6
      rw [n4.out, n5.out]
      go_wp2_with fail
      refine (valid_any _ _ _ _).mono ?_
      rintro e w7' ⟨rfl, hb7⟩
      have HB7 := Lib.hid (HB6.out.trans (hb7.mono HB6.out.size)); clear hb7
      rw [v4.out]
      go_wp2_with fail
      refine (valid_any _ _ _ _).mono ?_
      rintro e w8' ⟨rfl, hb8⟩
      have HB8 := Lib.hid (HB7.out.trans (hb8.mono HB7.out.size)); clear hb8
      rw [v5.out]
      go_wp2_with fail
      go_ret
      exact ⟨rfl, HB8.out⟩
    · have n3 := Lib.hid (show numV y m d = 0 by simp [numV, hvp])
      have n4 := Lib.hid (show numV (y + 400) m d = 0 by simp [numV, v6.out, hvp])
      have n5 := Lib.hid (v6.out.trans hvp)
      rw [n3.out, hvp]
      clear hvp
      go_wp2_with fail
      rw [← HM.out, ← HD.out]
      refine (Number_any _ _ _ _).mono ?_
      rintro e w6' ⟨rfl, hb6⟩
      have HB6 := Lib.hid (HB5.out.trans (hb6.mono HB5.out.size)); clear hb6
      rw [n4.out, n5.out]
      go_wp2_with fail
      refine (valid_any _ _ _ _).mono ?_
      rintro e w7' ⟨rfl, hb7⟩
      have HB7 := Lib.hid (HB6.out.trans (hb7.mono HB6.out.size)); clear hb7
      rw [v4.out]
      go_wp2_with fail
      refine (valid_any _ _ _ _).mono ?_
      rintro e w8' ⟨rfl, hb8⟩
      have HB8 := Lib.hid (HB7.out.trans (hb8.mono HB7.out.size)); clear hb8
      rw [v5.out]
      go_wp2_with fail
      go_ret
      exact ⟨rfl, HB8.out⟩

/-! ### THE ROW's STEP: WRITTEN OUT: LEAVE IT -/
set_option maxRecDepth 100000 in
theorem lifted (os : Os) (started : os.Started) (H : Type) (enc : TypeId × Value → H) :
    ReturnsInHanded {} Try.checked os 5 .any (Rows.dateYearsSpec.pre6 enc Try.prog Try.f5 Rows.dateYearsRow.domain false) (Rows.dateYearsSpec.post enc Try.prog Try.f5 false true false false) := by
  refine returnsInHanded_of_change (C := Try.checked) own started (by kernel_rfl) Try.func5
    (ChangeSpec.witness6 (enc := enc) (C := Try.checked) false ⟨#[], #[.int .u16 0, .int .u8 0, .int .u8 0], []⟩ 8 (by kernel_rfl) (by kernel_rfl) (by kernel_rfl) (by kernel_rfl)) ?_
  intro W base args ds gs before hval0 hW hcnd _
  have hval : ∀ (j : Nat) t v, Try.f5.params[j]? = some t → args[j]? = some v → Value.okWide Try.prog W .any base t v := hval0
  have hW' := hW
  obtain ⟨p, q, hA0, hV, rfl, hfz, hnd⟩ := hW
  have hA : DataW.TrodAll enc Try.prog W 0 (fun _ => true) true Try.f5.params.toList args.toList ds p := hA0
  rw [Try.params5] at hA hval
  obtain ⟨v0, vs0, d0, ds0, p0, q0, hargs, rfl, rfl, h0, r0⟩ := trodAll_cons hA
  obtain ⟨v1, vs1, d1, ds1, p1, q1, rfl, rfl, rfl, h1, r1⟩ := trodAll_cons r0
  obtain ⟨v2, vs2, d2, ds2, p2, q2, rfl, rfl, rfl, h2, r2⟩ := trodAll_cons r1
  obtain ⟨rfl, rfl, rfl⟩ := trodAll_nil r2
  obtain rfl : args = #[v0, v1, v2] := by cases args; simp_all
  obtain ⟨rfl, rfl⟩ := trodVars_none hV
  obtain ⟨a0, rfl, rfl, rfl, w0⟩ := open_int Try.underlying35 (hval 0 35 v0 rfl rfl) h0
  obtain ⟨a1, rfl, rfl, rfl, w1⟩ := open_int Try.underlying5 (hval 1 5 v1 rfl rfl) h1
  obtain ⟨a2, rfl, rfl, rfl, w2⟩ := open_int Try.underlying5 (hval 2 5 v2 rfl rfl) h2
  clear hA0 hval0
  simp only [List.append_nil] at hW'
  refine (walk a0 a1 a2 w0 w1 w2 W).mono fun e W' ⟨he, hb⟩ => ?_
  subst he
  exact ⟨_, rfl, post_of_below (pa := []) (pv := []) hW' (fun _ _ _ => (trodAll_cons_mk (shut_bool Try.underlying4 _) trodAll_mk0)) (fun sp _ => (trodAll_cons_mk (shut_int Try.underlying35 w0) (trodAll_cons_mk (shut_int Try.underlying5 w1) (trodAll_cons_mk (shut_int Try.underlying5 w2) trodAll_mk0)))) (fun _ _ => rfl) rfl
    hb (ok_one (by kernel_rfl) rfl (okWide_bool_mk Try.underlying4 _))⟩

theorem over : Rows.dateYearsRow.holds Try.pinned (OpenSpec.ofChange Rows.dateYearsSpec) :=
  OpenClaim.holds_of_wide 5 Try.f5 rfl rfl rfl rfl rfl rfl rfl ⟨rfl, rfl, rfl, rfl, rfl⟩ rfl rfl rfl rfl rfl (by kernel_rfl) Try.func5 (by kernel_rfl)
    (of_decide_eq_true (by kernel_rfl)) (by unfold Func.isWrapper; first | (rw [if_pos (by decide +kernel)]; kernel_rfl) | (rw [if_neg (by decide +kernel)]; exact ⟨rfl, rfl⟩))
    (fun os started H enc _ => lifted os started H enc)

/-- ████ THE STATEMENT ████ -/
theorem proved : Rows.DateYearsSaid :=
  over
#print axioms proved
end Go.Proofs.Ytfoifnhakmfefaa.dateYears
