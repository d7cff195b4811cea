/- 'tithinglaw03.DateBack' returns true at every input: the walk, the plain facts on months, the row. -/
import Derived.Test.YtfoifnhakmfefaaLaw
import Derived.Test.YtfoifnhakmfefaaSan
namespace Go.Proofs.Ytfoifnhakmfefaa.dateBack
open Go.ChangeShapes Go.Shelf Cal Txt Go.WideShapes Go.ChangeAt Go.RowKit
set_option linter.unusedVariables false

theorem mV_of {n k : Int} (h : mOkB n k = true) : mV n k = num (mAt n k / 12 + 1) (mAt n k % 12 + 1) (min (civD n) (dim (mAt n k / 12 + 1) (mAt n k % 12 + 1))) := by simp [mV, h]
theorem mV_civ {n k : Int} (h : mOkB n k = true) : civY (mV n k) = mAt n k / 12 + 1 ∧ civM (mV n k) = mAt n k % 12 + 1 ∧ civD (mV n k) = min (civD n) (dim (mAt n k / 12 + 1) (mAt n k % 12 + 1)) := by
  rw [mV_of h]; exact civ_num (months_valid h)
theorem mV_in {n k : Int} (h : mOkB n k = true) : 0 ≤ mV n k ∧ mV n k ≤ 3652058 := by rw [mV_of h]; exact num_bd (months_valid h)
theorem mAt_mV {n k : Int} (h : mOkB n k = true) (j : Int) : mAt (mV n k) j = mAt n k + j := by
  obtain ⟨a, b, c⟩ := mV_civ h
  show 12 * (civY (mV n k) - 1) + civM (mV n k) - 1 + j = _
  rw [a, b]; omega
theorem civY_le {k : Int} (h0 : 0 ≤ k) (h1 : k < 3000000) : civY k ≤ 8300 := by
  obtain ⟨hv, hn⟩ := civ_spec k h0 (by omega)
  have := (valid_iff _ _ _).1 hv
  have := cum_bd (civY k) (civM k) (by omega) (by omega)
  unfold num dby at hn
  omega
theorem back_plain {k p q : Int} (h0 : 0 ≤ k) (h1 : k < 3000000) (p0 : 0 ≤ p) (p1 : p < 2000) (q0 : 0 ≤ q) (q1 : q < 2000) :
    mOkB k p = true ∧ mOkB k (p + q) = true ∧ mOkB (mV k p) q = true ∧ mOkB (mV k p) (-p) = true ∧ insideB (mV k p) = true ∧ civD (mV k p) ≤ civD k ∧
    (civM k - 1 + p) % 12 = civM (mV k p) - 1 ∧ mV (mV k p) (-p) ≤ k ∧ 0 ≤ mV (mV k p) (-p) ∧ (civD k ≤ 28 → mV (mV k p) (-p) = k ∧ mV (mV k p) q = mV k (p + q) ∧ civD (mV k p) = civD k) := by
  have hb := civ_bd k h0 (by omega)
  have hy := civY_le h0 h1
  have o1 : mOkB k p = true := (mOk_iff _ _).2 ⟨h0, by omega, by unfold mAt; omega, by unfold mAt; omega⟩
  have o2 : mOkB k (p + q) = true := (mOk_iff _ _).2 ⟨h0, by omega, by unfold mAt; omega, by unfold mAt; omega⟩
  have e1 := mAt_mV o1 q
  have e2 := mAt_mV o1 (-p)
  have f1 : mAt k p + q = mAt k (p + q) := by unfold mAt; omega
  have f2 : mAt k p + -p = mAt k 0 := by unfold mAt; omega
  rw [f1] at e1
  rw [f2] at e2
  obtain ⟨x0, x1⟩ := mV_in o1
  have o3 : mOkB (mV k p) q = true := (mOk_iff _ _).2 ⟨x0, x1, by rw [e1]; exact ((mOk_iff _ _).1 o2).2.2.1, by rw [e1]; exact ((mOk_iff _ _).1 o2).2.2.2⟩
  have o4 : mOkB (mV k p) (-p) = true := (mOk_iff _ _).2 ⟨x0, x1, by rw [e2]; unfold mAt; omega, by rw [e2]; unfold mAt; omega⟩
  obtain ⟨c1, c2, c3⟩ := mV_civ o1
  have g0 : mAt k 0 / 12 + 1 = civY k ∧ mAt k 0 % 12 + 1 = civM k := by unfold mAt; omega
  have b1 : mV (mV k p) (-p) = num (civY k) (civM k) (min (civD (mV k p)) (dim (civY k) (civM k))) := by rw [mV_of o4, e2, g0.1, g0.2]
  have hn := (civ_spec k h0 (by omega)).2
  have hd := dim_lo (civY k) (civM k)
  have hd1 := dim_lo (mAt k p / 12 + 1) (mAt k p % 12 + 1)
  refine ⟨o1, o2, o3, o4, (inside_iff _).2 ⟨x0, x1⟩, by omega, by rw [c2]; unfold mAt; omega, ?_, (mV_in o4).1, fun h28 => ?_⟩
  · rw [b1]
    unfold num at hn ⊢
    omega
  · have hD : civD (mV k p) = civD k := by omega
    refine ⟨?_, ?_, hD⟩
    · rw [b1, hD]
      unfold num at hn ⊢
      omega
    · rw [mV_of o3, mV_of o2, e1, hD]

set_option maxHeartbeats 2000000 in
theorem walk (a0 a1 a2 : Int) (w0 : (Lit.int .u32 a0).wf = true) (w1 : (Lit.int .u16 a1).wf = true) (w2 : (Lit.int .u16 a2).wf = true) (w : World) :
    Calls Try.prog 7 #[.int .u32 a0, .int .u16 a1, .int .u16 a2] w (Gives w (.bool true)) := by
  obtain ⟨l0, l1⟩ := bounds_u32 w0
  obtain ⟨l2, l3⟩ := bounds_u16 w1
  obtain ⟨l4, l5⟩ := bounds_u16 w2
  obtain ⟨k, hk⟩ : ∃ y, y = a0 % 3000000 := ⟨_, rfl⟩
  obtain ⟨p, hp⟩ : ∃ y, y = a1 % 2000 := ⟨_, rfl⟩
  obtain ⟨q, hq⟩ : ∃ y, y = a2 % 2000 := ⟨_, rfl⟩
  have k0 : 0 ≤ k := by omega
  have k1 : k < 3000000 := by omega
  have p0 : 0 ≤ p := by omega
  have p1 : p < 2000 := by omega
  have q0 : 0 ≤ q := by omega
  have q1 : q < 2000 := by omega
  obtain ⟨o1, o2, o3, o4, hin, hL, hM, hB, hB0, h28⟩ := back_plain k0 k1 p0 p1 q0 q1
  have hik : insideB k = true := (inside_iff k).2 (by omega)
  have hbd := civ_bd k k0 (by omega)
  have hbx := civ_bd (mV k p) ((inside_iff _).1 hin).1 ((inside_iff _).1 hin).2
  have cv1 := Lib.hid (show CivV k = .tuple #[.int .i64 (civY k), .int .i64 (civM k), .int .i64 (civD k), .bool true] by simp [CivV, cyV, cmV, cdV, hik])
  have cv2 := Lib.hid (show CivV (mV k p) = .tuple #[.int .i64 (civY (mV k p)), .int .i64 (civM (mV k p)), .int .i64 (civD (mV k p)), .bool true] by simp [CivV, cyV, cmV, cdV, hin])
  have O1 := Lib.hid o1; have O2 := Lib.hid o2; have O3 := Lib.hid o3; have O4 := Lib.hid o4
  have HK := Lib.hid hk; have HP := Lib.hid hp; have HQ := Lib.hid hq
  clear hk hp hq o1 o2 o3 o4 hin hik
  obtain ⟨X, hX⟩ : ∃ X, mV k p = X := ⟨_, rfl⟩
  have HX := Lib.hid hX
  rw [hX] at hL hM hB hB0 h28 hbx cv2 O3 O4
  obtain ⟨B, hBB⟩ : ∃ Z, mV X (-p) = Z := ⟨_, rfl⟩
  have HBB := Lib.hid hBB
  rw [hBB] at hB hB0 h28
  obtain ⟨D, hD⟩ : ∃ Z, civD k = Z := ⟨_, rfl⟩
  obtain ⟨L, hLL⟩ : ∃ Z, civD X = Z := ⟨_, rfl⟩
  obtain ⟨M, hMM⟩ : ∃ Z, civM k = Z := ⟨_, rfl⟩
  obtain ⟨N, hNN⟩ : ∃ Z, civM X = Z := ⟨_, rfl⟩
  rw [hD, hMM] at hbd cv1
  rw [hLL, hNN] at hbx cv2
  rw [hD, hLL] at hL h28
  rw [hMM, hNN] at hM
  obtain ⟨r1, r2, r3, r4, r5, r6⟩ := hbd
  obtain ⟨s1, s2, s3, s4, s5, s6⟩ := hbx
  have HM := Lib.hid hM
  have H28 := Lib.hid h28
  clear hX hBB hD hLL hMM hNN hM h28
  go_enter Try.func7, Try.ntmps7
  go_wp2_with fail
  refine (sanity_any _).mono ?_
  rintro e w1' ⟨rfl, hb1⟩
  have HB1 := Lib.hid hb1; clear hb1
  go_wp2_with fail
  rw [← HK.out, ← HP.out]
  refine (Months_any _ _ _).mono ?_
  rintro e w2' ⟨rfl, hb2⟩
  have HB2 := Lib.hid (HB1.out.trans (hb2.mono HB1.out.size)); clear hb2
  rw [O1.out, HX.out]
  go_wp2_with fail
  rw [← HQ.out]
  refine (Months_any _ _ _).mono ?_
  rintro e w3' ⟨rfl, hb3⟩
  have HB3 := Lib.hid (HB2.out.trans (hb3.mono HB2.out.size)); clear hb3
  rw [O2.out]
  go_wp2_with fail
  refine (Months_any _ _ _).mono ?_
  rintro e w4' ⟨rfl, hb4⟩
  have HB4 := Lib.hid (HB3.out.trans (hb4.mono HB3.out.size)); clear hb4
  rw [O3.out]
  go_wp2_with fail
  refine (Months_any _ _ _).mono ?_
  rintro e w5' ⟨rfl, hb5⟩
  have HB5 := Lib.hid (HB4.out.trans (hb5.mono HB4.out.size)); clear hb5
  rw [O4.out, HBB.out]
  go_wp2_with fail
  refine (Civil_any _ _).mono ?_
  rintro e w6' ⟨rfl, hb6⟩
  have HB6 := Lib.hid (HB5.out.trans (hb6.mono HB5.out.size)); clear hb6
  rw [cv1.out]
  go_wp2_with fail
  refine (Civil_any _ _).mono ?_
  rintro e w7' ⟨rfl, hb7⟩
  have HB7 := Lib.hid (HB6.out.trans (hb7.mono HB6.out.size)); clear hb7
  rw [cv2.out]
  go_wp2_with fail
  refine (Civil_any _ _).mono ?_
  rintro e w8' ⟨rfl, hb8⟩
  have HB8 := Lib.hid (HB7.out.trans (hb8.mono HB7.out.size)); clear hb8
  rw [cv1.out]
  have hm := HM.out
  by_cases hd : 28 < D
  · go_wp2_with fail
    go_ret
    exact ⟨rfl, HB8.out⟩
  · have hh := H28.out (by omega)
    go_wp2_with fail
    go_ret
    exact ⟨rfl, HB8.out⟩

/-! ### THE ROW's STEP: WRITTEN OUT: LEAVE IT -/
set_option maxRecDepth 100000 in
theorem lifted (os : Os) (started : os.Started) (H : Type) (enc : TypeId × Value → H) :
    ReturnsInHanded {} Try.checked os 7 .any (Rows.dateBackSpec.pre6 enc Try.prog Try.f7 Rows.dateBackRow.domain false) (Rows.dateBackSpec.post enc Try.prog Try.f7 false true false false) := by
  refine returnsInHanded_of_change (C := Try.checked) own started (by kernel_rfl) Try.func7
    (ChangeSpec.witness6 (enc := enc) (C := Try.checked) false ⟨#[], #[.int .u32 0, .int .u16 0, .int .u16 0], []⟩ 8 (by kernel_rfl) (by kernel_rfl) (by kernel_rfl) (by kernel_rfl)) ?_
  intro W base args ds gs before hval0 hW hcnd _
  have hval : ∀ (j : Nat) t v, Try.f7.params[j]? = some t → args[j]? = some v → Value.okWide Try.prog W .any base t v := hval0
  have hW' := hW
  obtain ⟨p, q, hA0, hV, rfl, hfz, hnd⟩ := hW
  have hA : DataW.TrodAll enc Try.prog W 0 (fun _ => true) true Try.f7.params.toList args.toList ds p := hA0
  rw [Try.params7] at hA hval
  obtain ⟨v0, vs0, d0, ds0, p0, q0, hargs, rfl, rfl, h0, r0⟩ := trodAll_cons hA
  obtain ⟨v1, vs1, d1, ds1, p1, q1, rfl, rfl, rfl, h1, r1⟩ := trodAll_cons r0
  obtain ⟨v2, vs2, d2, ds2, p2, q2, rfl, rfl, rfl, h2, r2⟩ := trodAll_cons r1
  obtain ⟨rfl, rfl, rfl⟩ := trodAll_nil r2
  obtain rfl : args = #[v0, v1, v2] := by cases args; simp_all
  obtain ⟨rfl, rfl⟩ := trodVars_none hV
  obtain ⟨a0, rfl, rfl, rfl, w0⟩ := open_int Try.underlying33 (hval 0 33 v0 rfl rfl) h0
  obtain ⟨a1, rfl, rfl, rfl, w1⟩ := open_int Try.underlying35 (hval 1 35 v1 rfl rfl) h1
  obtain ⟨a2, rfl, rfl, rfl, w2⟩ := open_int Try.underlying35 (hval 2 35 v2 rfl rfl) h2
  clear hA0 hval0
  simp only [List.append_nil] at hW'
  refine (walk a0 a1 a2 w0 w1 w2 W).mono fun e W' ⟨he, hb⟩ => ?_
  subst he
  exact ⟨_, rfl, post_of_below (pa := []) (pv := []) hW' (fun _ _ _ => (trodAll_cons_mk (shut_bool Try.underlying4 _) trodAll_mk0)) (fun sp _ => (trodAll_cons_mk (shut_int Try.underlying33 w0) (trodAll_cons_mk (shut_int Try.underlying35 w1) (trodAll_cons_mk (shut_int Try.underlying35 w2) trodAll_mk0)))) (fun _ _ => rfl) rfl
    hb (ok_one (by kernel_rfl) rfl (okWide_bool_mk Try.underlying4 _))⟩

theorem over : Rows.dateBackRow.holds Try.pinned (OpenSpec.ofChange Rows.dateBackSpec) :=
  OpenClaim.holds_of_wide 7 Try.f7 rfl rfl rfl rfl rfl rfl rfl ⟨rfl, rfl, rfl, rfl, rfl⟩ rfl rfl rfl rfl rfl (by kernel_rfl) Try.func7 (by kernel_rfl)
    (of_decide_eq_true (by kernel_rfl)) (by unfold Func.isWrapper; first | (rw [if_pos (by decide +kernel)]; kernel_rfl) | (rw [if_neg (by decide +kernel)]; exact ⟨rfl, rfl⟩))
    (fun os started H enc _ => lifted os started H enc)

/-- ████ THE STATEMENT ████ -/
theorem proved : Rows.DateBackSaid :=
  over
#print axioms proved
end Go.Proofs.Ytfoifnhakmfefaa.dateBack
