/- 'tithinglaw03.DateInverse' returns true at every input: the walk, the plain facts on the next day, the row. -/
import Derived.Test.YtfoifnhakmfefaaRows
import Derived.Test.YtfoifnhakmfefaaLaw
import Derived.Test.YtfoifnhakmfefaaSan
namespace Go.Proofs.Ytfoifnhakmfefaa.dateInverse
open Go.ChangeShapes Go.Shelf Cal Txt Go.WideShapes Go.ChangeAt Go.RowKit
set_option linter.unusedVariables false      -- a walk need not use every 'w<i>' (that an integer argument fits its kind)



theorem next_day {k : Int} (h0 : 0 ≤ k) (h1 : k + 1 ≤ 3652058) :
    (civY (k + 1) = civY k ∧ civM (k + 1) = civM k ∧ civD (k + 1) = civD k + 1) ∨
    (civY (k + 1) = civY k ∧ civM (k + 1) = civM k + 1 ∧ civD (k + 1) = 1 ∧ validB (civY k) (civM k) (civD k + 1) = false) ∨
    (civY (k + 1) = civY k + 1 ∧ civM (k + 1) = 1 ∧ civD (k + 1) = 1 ∧ civM k = 12 ∧ validB (civY k) (civM k) (civD k + 1) = false) := by
  obtain ⟨hv, hn⟩ := civ_spec k h0 (by omega)
  obtain ⟨b1, b2, b3, b4, b5, b6⟩ := (valid_iff _ _ _).1 hv
  have hk := cum_succ (civY k) (civM k) b3 b4
  have hl := leap_dby (civY k)
  have h13 := cum_thirteen (civY k)
  have h1c := cum_one (civY k + 1)
  unfold num at hn
  by_cases hd : civD k + 1 ≤ dim (civY k) (civM k)
  · left
    have := civ_num (valid_mk (y := civY k) (m := civM k) (d := civD k + 1) ⟨b1, b2, b3, b4, by omega, hd⟩)
    rwa [show num (civY k) (civM k) (civD k + 1) = k + 1 by unfold num; omega] at this
  · right
    have hnv : validB (civY k) (civM k) (civD k + 1) = false := valid_not (by omega)
    by_cases hm : civM k = 12
    · right
      rw [hm] at hk hn hd
      have e12 : (12 : Int) + 1 = 13 := rfl
      rw [e12, h13] at hk
      have hy : civY k + 1 ≤ 9999 := by
        by_cases hy : civY k = 9999
        · have := dby_last
          rw [hy] at hl hn hd hk
          have e10 : (9999 : Int) + 1 = 10000 := rfl
          rw [e10, this] at hl
          rw [hm] at b6
          rw [hy] at b6
          omega
        · omega
      rw [hm] at b6
      have := civ_num (valid_mk (y := civY k + 1) (m := 1) (d := 1) ⟨by omega, hy, by omega, by omega, by omega, by have := dim_lo (civY k + 1) 1; omega⟩)
      rw [show num (civY k + 1) 1 1 = k + 1 by unfold num; omega] at this
      exact ⟨this.1, this.2.1, this.2.2, hm, hnv⟩
    · left
      have := civ_num (valid_mk (y := civY k) (m := civM k + 1) (d := 1) ⟨by omega, b2, by omega, by omega, by omega, by have := dim_lo (civY k) (civM k + 1); omega⟩)
      rw [show num (civY k) (civM k + 1) 1 = k + 1 by unfold num; omega] at this
      exact ⟨this.1, this.2.1, this.2.2, hnv⟩
theorem walk (a0 : Int) (w0 : (Lit.int .u32 a0).wf = true) (w : World) :
    Calls Try.prog 4 #[.int .u32 a0] w (Gives w (.bool true)) := by
  obtain ⟨l0, l1⟩ := bounds_u32 w0
  obtain ⟨k, hk⟩ : ∃ k, k = a0 % 3652058 := ⟨_, rfl⟩
  have hk0 : 0 ≤ k := by omega
  have hk1 : k + 1 ≤ 3652058 := by omega
  have hin : insideB k = true := (inside_iff k).2 (by omega)
  have hin2 : insideB (k + 1) = true := (inside_iff (k + 1)).2 (by omega)
  obtain ⟨hv, hn⟩ := civ_spec k hk0 (by omega)
  have hnx := next_day hk0 hk1
  have hbd := civ_bd k hk0 (by omega)
  have hc1 := Lib.hid (show CivV k = .tuple #[.int .i64 (civY k), .int .i64 (civM k), .int .i64 (civD k), .bool true] by simp [CivV, cyV, cmV, cdV, hin])
  have hc2 := Lib.hid (show CivV (k + 1) = .tuple #[.int .i64 (civY (k + 1)), .int .i64 (civM (k + 1)), .int .i64 (civD (k + 1)), .bool true] by simp [CivV, cyV, cmV, cdV, hin2])
  have hnv : Hid (numV (civY k) (civM k) (civD k) = k) := Lib.hid (by simp [numV, hv, hn])
  have HV := Lib.hid hv
  have HK := Lib.hid hk
  clear hv hk hin hin2 hn
  obtain ⟨Y, hY⟩ : ∃ Y, civY k = Y := ⟨_, rfl⟩
  obtain ⟨M, hM⟩ : ∃ Y, civM k = Y := ⟨_, rfl⟩
  obtain ⟨D, hD⟩ : ∃ Y, civD k = Y := ⟨_, rfl⟩
  rw [hY, hM, hD] at hnx hc1 hnv HV hbd
  obtain ⟨q1, q2, q3, q4, q5, q6⟩ := hbd
  clear hY hM hD
  have HN := Lib.hid hnx
  clear hnx
  go_enter Try.func4, Try.ntmps4
  go_wp2_with fail
  refine (sanity_any _).mono ?_
  rintro e w1 ⟨rfl, hb1⟩
  have HB1 := Lib.hid hb1; clear hb1
  go_wp2_with fail
  rw [← HK.out]
  refine (Civil_any _ _).mono ?_
  rintro e w2 ⟨rfl, hb2⟩
  have HB2 := Lib.hid (HB1.out.trans (hb2.mono HB1.out.size)); clear hb2
  rw [hc1.out]
  go_wp2_with fail
  refine (Civil_any _ _).mono ?_
  rintro e w3 ⟨rfl, hb3⟩
  have HB3 := Lib.hid (HB2.out.trans (hb3.mono HB2.out.size)); clear hb3
  rw [hc2.out]
  rcases HN.out with ⟨e1, e2, e3⟩ | ⟨e1, e2, e3, e4⟩ | ⟨e1, e2, e3, e4, e5⟩
  · rw [e1, e2, e3]
    clear e1 e2 e3
    have hd1 : D + 1 ≠ 1 := by omega
    go_wp2_with fail
    refine (Number_any _ _ _ _).mono ?_
    rintro e w4 ⟨rfl, hb4⟩
    have HB4 := Lib.hid (HB3.out.trans (hb4.mono HB3.out.size)); clear hb4
    rw [hnv.out, HV.out]
    go_wp2_with fail
    refine (valid_any Y M D _).mono ?_
    rintro e w6 ⟨rfl, hb6⟩
    have HB6 := Lib.hid (HB4.out.trans (hb6.mono HB4.out.size)); clear hb6
    rw [HV.out]
    go_wp2_with fail
    go_ret
    exact ⟨rfl, HB6.out⟩
  · rw [e1, e2, e3]
    have EX := Lib.hid e4
    clear e1 e2 e3 e4
    go_wp2_with fail
    refine (Number_any _ _ _ _).mono ?_
    rintro e w4 ⟨rfl, hb4⟩
    have HB4 := Lib.hid (HB3.out.trans (hb4.mono HB3.out.size)); clear hb4
    rw [hnv.out, HV.out]
    go_wp2_with fail
    refine (valid_any Y M (D + 1) _).mono ?_
    rintro e w5 ⟨rfl, hb5⟩
    have HB5 := Lib.hid (HB4.out.trans (hb5.mono HB4.out.size)); clear hb5
    rw [EX.out]
    go_wp2_with fail
    refine (valid_any Y M D _).mono ?_
    rintro e w6 ⟨rfl, hb6⟩
    have HB6 := Lib.hid (HB5.out.trans (hb6.mono HB5.out.size)); clear hb6
    rw [HV.out]
    go_wp2_with fail
    go_ret
    exact ⟨rfl, HB6.out⟩
  · rw [e1, e2, e3]
    have EX := Lib.hid e5
    clear e1 e2 e3 e5
    subst e4
    go_wp2_with fail
    refine (Number_any _ _ _ _).mono ?_
    rintro e w4 ⟨rfl, hb4⟩
    have HB4 := Lib.hid (HB3.out.trans (hb4.mono HB3.out.size)); clear hb4
    rw [hnv.out, HV.out]
    go_wp2_with fail
    refine (valid_any Y 12 (D + 1) _).mono ?_
    rintro e w5 ⟨rfl, hb5⟩
    have HB5 := Lib.hid (HB4.out.trans (hb5.mono HB4.out.size)); clear hb5
    rw [EX.out]
    go_wp2_with fail
    refine (valid_any Y 12 D _).mono ?_
    rintro e w6 ⟨rfl, hb6⟩
    have HB6 := Lib.hid (HB5.out.trans (hb6.mono HB5.out.size)); clear hb6
    rw [HV.out]
    go_wp2_with fail
    go_ret
    exact ⟨rfl, HB6.out⟩

/-! ### THE ROW's STEP: WRITTEN OUT: LEAVE IT -/
set_option maxRecDepth 100000 in
theorem lifted (os : Os) (started : os.Started) (H : Type) (enc : TypeId × Value → H) :
    ReturnsInHanded {} Try.checked os 4 .any (Rows.dateInverseSpec.pre6 enc Try.prog Try.f4 Rows.dateInverseRow.domain false) (Rows.dateInverseSpec.post enc Try.prog Try.f4 false true false false) := by
  refine returnsInHanded_of_change (C := Try.checked) own started (by kernel_rfl) Try.func4
    (ChangeSpec.witness6 (enc := enc) (C := Try.checked) false ⟨#[], #[.int .u32 0], []⟩ 8 (by kernel_rfl) (by kernel_rfl) (by kernel_rfl) (by kernel_rfl)) ?_
  intro W base args ds gs before hval0 hW hcnd _
  have hval : ∀ (j : Nat) t v, Try.f4.params[j]? = some t → args[j]? = some v → Value.okWide Try.prog W .any base t v := hval0
  have hW' := hW
  obtain ⟨p, q, hA0, hV, rfl, hfz, hnd⟩ := hW
  have hA : DataW.TrodAll enc Try.prog W 0 (fun _ => true) true Try.f4.params.toList args.toList ds p := hA0
  rw [Try.params4] at hA hval
  obtain ⟨v0, vs0, d0, ds0, p0, q0, hargs, rfl, rfl, h0, r0⟩ := trodAll_cons hA
  obtain ⟨rfl, rfl, rfl⟩ := trodAll_nil r0
  obtain rfl : args = #[v0] := by cases args; simp_all
  obtain ⟨rfl, rfl⟩ := trodVars_none hV
  obtain ⟨a0, rfl, rfl, rfl, w0⟩ := open_int Try.underlying33 (hval 0 33 v0 rfl rfl) h0
  clear hA0 hval0
  simp only [List.append_nil] at hW'
  refine (walk a0 w0 W).mono fun e W' ⟨he, hb⟩ => ?_
  subst he
  exact ⟨_, rfl, post_of_below (pa := []) (pv := []) hW' (fun _ _ _ => (trodAll_cons_mk (shut_bool Try.underlying4 _) trodAll_mk0)) (fun sp _ => (trodAll_cons_mk (shut_int Try.underlying33 w0) trodAll_mk0)) (fun _ _ => rfl) rfl
    hb (ok_one (by kernel_rfl) rfl (okWide_bool_mk Try.underlying4 _))⟩

theorem over : Rows.dateInverseRow.holds Try.pinned (OpenSpec.ofChange Rows.dateInverseSpec) :=
  OpenClaim.holds_of_wide 4 Try.f4 rfl rfl rfl rfl rfl rfl rfl ⟨rfl, rfl, rfl, rfl, rfl⟩ rfl rfl rfl rfl rfl (by kernel_rfl) Try.func4 (by kernel_rfl)
    (of_decide_eq_true (by kernel_rfl)) (by unfold Func.isWrapper; first | (rw [if_pos (by decide +kernel)]; kernel_rfl) | (rw [if_neg (by decide +kernel)]; exact ⟨rfl, rfl⟩))
    (fun os started H enc _ => lifted os started H enc)

/-- ████ THE STATEMENT ████ -/
theorem proved : Rows.DateInverseSaid :=
  over
#print axioms proved
end Go.Proofs.Ytfoifnhakmfefaa.dateInverse
