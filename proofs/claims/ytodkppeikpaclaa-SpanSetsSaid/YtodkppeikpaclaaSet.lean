/- 'tithinglaw05.SpanSets' returns true at every input: the walk, the row. -/
import Derived.Test.YtodkppeikpaclaaSpnS
import Derived.Test.YtodkppeikpaclaaSpnR
namespace Go.Proofs.Ytodkppeikpaclaa.spanSets
open Go.ChangeShapes Go.Shelf Go.WideShapes Go.ChangeAt Go.RowKit
open Spn
set_option linter.unusedVariables false

theorem sameB_refl (l : List Sp) : sameB l l = true := by simp [sameB]
set_option maxHeartbeats 4000000 in
set_option maxRecDepth 100000 in
theorem walk (x y : Value) (w : World) (ha : ArgP w x) (hb0 : ArgP w y) : Calls Try.prog 3 #[x, y] w fun e w' => e = .returned (.bool true) ∧ Below w.heap.size w w' := by
  have HA := Lib.hid ha; have HC := Lib.hid hb0
  clear ha hb0
  have HB := Lib.hid (Below.refl w.heap.size w)
  go_enter Try.func3, Try.ntmps3
  go_wp2_with fail
  refine (sanity_any _).mono ?_
  rintro e w1 ⟨rfl, hb⟩
  have HB := Lib.hid (HB.out.trans (hb.mono HB.out.size))
  have HA := Lib.hid (HA.out.up hb)
  have HC := Lib.hid (HC.out.up hb)
  clear hb
  go_wp2_with fail
  refine (Made_any _ _ HA.out).mono ?_
  rintro e w2 ⟨va, la, rfl, hl, hn, -, hb⟩
  have HB := Lib.hid (HB.out.trans (hb.mono HB.out.size))
  have HA := Lib.hid (HA.out.up hb)
  have HC := Lib.hid (HC.out.up hb)
  have HX := Lib.hid hl; have hna : la.length ≤ 10000 := by omega
  clear hl hn
  clear hb
  go_wp2_with fail
  refine (Made_any _ _ HC.out).mono ?_
  rintro e w3 ⟨vb, lb, rfl, hl, hn, -, hb⟩
  have HB := Lib.hid (HB.out.trans (hb.mono HB.out.size))
  have HA := Lib.hid (HA.out.up hb)
  have HC := Lib.hid (HC.out.up hb)
  have HX := Lib.hid (HX.out.up hb)
  have HY := Lib.hid hl; have hnb : lb.length ≤ 10000 := by omega
  clear hl hn
  clear hb
  go_wp2_with fail
  refine (Norm_any _ la _ hna HX.out).mono ?_
  rintro e w4 ⟨v1, rfl, hl, hb⟩
  have HB := Lib.hid (HB.out.trans (hb.mono HB.out.size))
  have HA := Lib.hid (HA.out.up hb)
  have HC := Lib.hid (HC.out.up hb)
  have HX := Lib.hid (HX.out.up hb)
  have HY := Lib.hid (HY.out.up hb)
  have H1 := Lib.hid hl
  clear hl
  clear hb
  go_wp2_with fail
  refine (rNorm_any _ la _ hna HX.out).mono ?_
  rintro e w5 ⟨v2, rfl, hl, hb⟩
  have HB := Lib.hid (HB.out.trans (hb.mono HB.out.size))
  have HA := Lib.hid (HA.out.up hb)
  have HC := Lib.hid (HC.out.up hb)
  have HX := Lib.hid (HX.out.up hb)
  have HY := Lib.hid (HY.out.up hb)
  have H1 := Lib.hid (H1.out.up hb)
  have H2 := Lib.hid hl
  clear hl
  clear hb
  go_wp2_with fail
  refine (Same_any _ _ _ _ _ H1.out H2.out).mono ?_
  rintro e w6 ⟨rfl, hb⟩
  have HB := Lib.hid (HB.out.trans (hb.mono HB.out.size))
  have HA := Lib.hid (HA.out.up hb)
  have HC := Lib.hid (HC.out.up hb)
  have HX := Lib.hid (HX.out.up hb)
  have HY := Lib.hid (HY.out.up hb)
  have H1 := Lib.hid (H1.out.up hb)
  have H2 := Lib.hid (H2.out.up hb)
  rw [sameB_refl]
  clear H1 H2
  clear hb
  go_wp2_with fail
  refine (Union_any _ _ la lb _ hna hnb HX.out HY.out).mono ?_
  rintro e w7 ⟨v1, rfl, hl, hb⟩
  have HB := Lib.hid (HB.out.trans (hb.mono HB.out.size))
  have HA := Lib.hid (HA.out.up hb)
  have HC := Lib.hid (HC.out.up hb)
  have HX := Lib.hid (HX.out.up hb)
  have HY := Lib.hid (HY.out.up hb)
  have H1 := Lib.hid hl
  clear hl
  clear hb
  go_wp2_with fail
  refine (rUnion_any _ _ la lb _ hna hnb HX.out HY.out).mono ?_
  rintro e w8 ⟨v2, rfl, hl, hb⟩
  have HB := Lib.hid (HB.out.trans (hb.mono HB.out.size))
  have HA := Lib.hid (HA.out.up hb)
  have HC := Lib.hid (HC.out.up hb)
  have HX := Lib.hid (HX.out.up hb)
  have HY := Lib.hid (HY.out.up hb)
  have H1 := Lib.hid (H1.out.up hb)
  have H2 := Lib.hid hl
  clear hl
  clear hb
  go_wp2_with fail
  refine (Same_any _ _ _ _ _ H1.out H2.out).mono ?_
  rintro e w9 ⟨rfl, hb⟩
  have HB := Lib.hid (HB.out.trans (hb.mono HB.out.size))
  have HA := Lib.hid (HA.out.up hb)
  have HC := Lib.hid (HC.out.up hb)
  have HX := Lib.hid (HX.out.up hb)
  have HY := Lib.hid (HY.out.up hb)
  have H1 := Lib.hid (H1.out.up hb)
  have H2 := Lib.hid (H2.out.up hb)
  rw [sameB_refl]
  clear H1 H2
  clear hb
  go_wp2_with fail
  refine (Meet_any _ _ la lb _ hna hnb HX.out HY.out).mono ?_
  rintro e w10 ⟨v1, rfl, hl, hb⟩
  have HB := Lib.hid (HB.out.trans (hb.mono HB.out.size))
  have HA := Lib.hid (HA.out.up hb)
  have HC := Lib.hid (HC.out.up hb)
  have HX := Lib.hid (HX.out.up hb)
  have HY := Lib.hid (HY.out.up hb)
  have H1 := Lib.hid hl
  clear hl
  clear hb
  go_wp2_with fail
  refine (rMeet_any _ _ la lb _ hna hnb HX.out HY.out).mono ?_
  rintro e w11 ⟨v2, rfl, hl, hb⟩
  have HB := Lib.hid (HB.out.trans (hb.mono HB.out.size))
  have HA := Lib.hid (HA.out.up hb)
  have HC := Lib.hid (HC.out.up hb)
  have HX := Lib.hid (HX.out.up hb)
  have HY := Lib.hid (HY.out.up hb)
  have H1 := Lib.hid (H1.out.up hb)
  have H2 := Lib.hid hl
  clear hl
  clear hb
  go_wp2_with fail
  refine (Same_any _ _ _ _ _ H1.out H2.out).mono ?_
  rintro e w12 ⟨rfl, hb⟩
  have HB := Lib.hid (HB.out.trans (hb.mono HB.out.size))
  have HA := Lib.hid (HA.out.up hb)
  have HC := Lib.hid (HC.out.up hb)
  have HX := Lib.hid (HX.out.up hb)
  have HY := Lib.hid (HY.out.up hb)
  have H1 := Lib.hid (H1.out.up hb)
  have H2 := Lib.hid (H2.out.up hb)
  rw [sameB_refl]
  clear H1 H2
  clear hb
  go_wp2_with fail
  refine (Less_any _ _ la lb _ hna hnb HX.out HY.out).mono ?_
  rintro e w13 ⟨v1, rfl, hl, hb⟩
  have HB := Lib.hid (HB.out.trans (hb.mono HB.out.size))
  have HA := Lib.hid (HA.out.up hb)
  have HC := Lib.hid (HC.out.up hb)
  have HX := Lib.hid (HX.out.up hb)
  have HY := Lib.hid (HY.out.up hb)
  have H1 := Lib.hid hl
  clear hl
  clear hb
  go_wp2_with fail
  refine (rLess_any _ _ la lb _ hna hnb HX.out HY.out).mono ?_
  rintro e w14 ⟨v2, rfl, hl, hb⟩
  have HB := Lib.hid (HB.out.trans (hb.mono HB.out.size))
  have HA := Lib.hid (HA.out.up hb)
  have HC := Lib.hid (HC.out.up hb)
  have HX := Lib.hid (HX.out.up hb)
  have HY := Lib.hid (HY.out.up hb)
  have H1 := Lib.hid (H1.out.up hb)
  have H2 := Lib.hid hl
  clear hl
  clear hb
  go_wp2_with fail
  refine (Same_any _ _ _ _ _ H1.out H2.out).mono ?_
  rintro e w15 ⟨rfl, hb⟩
  have HB := Lib.hid (HB.out.trans (hb.mono HB.out.size))
  have HA := Lib.hid (HA.out.up hb)
  have HC := Lib.hid (HC.out.up hb)
  have HX := Lib.hid (HX.out.up hb)
  have HY := Lib.hid (HY.out.up hb)
  have H1 := Lib.hid (H1.out.up hb)
  have H2 := Lib.hid (H2.out.up hb)
  rw [sameB_refl]
  clear H1 H2
  clear hb
  go_wp2_with fail
  go_ret
  exact ⟨rfl, HB.out⟩

/-! ### THE ROW's STEP -/
set_option maxRecDepth 100000 in
theorem lifted (os : Os) (started : os.Started) (H : Type) (enc : TypeId × Value → H) :
    ReturnsInHanded {} Try.checked os 3 .any (Rows.spanSetsSpec.pre6 enc Try.prog Try.f3 Rows.spanSetsRow.domain false) (Rows.spanSetsSpec.post enc Try.prog Try.f3 false true false false) := by
  refine returnsInHanded_of_change (C := Try.checked) own started (by kernel_rfl) Try.func3
    (ChangeSpec.witness6 (enc := enc) (C := Try.checked) false ⟨#[], #[.slice none 0 0, .slice none 0 0], []⟩ 8 (by kernel_rfl) (by kernel_rfl) (by kernel_rfl) (by kernel_rfl)) ?_
  intro W base args ds gs before hval0 hW hcnd _
  have hval : ∀ (j : Nat) t v, Try.f3.params[j]? = some t → args[j]? = some v → Value.okWide Try.prog W .any base t v := hval0
  have hW' := hW
  obtain ⟨p, q, hA0, hV, rfl, hfz, hnd⟩ := hW
  have hA : DataW.TrodAll enc Try.prog W 0 (fun _ => true) true Try.f3.params.toList args.toList ds p := hA0
  rw [Try.params3] at hA hval
  obtain ⟨v0, vs0, d0, ds0, p0, q0, hargs, rfl, rfl, h0, r0⟩ := trodAll_cons hA
  obtain ⟨v1, vs1, d1, ds1, p1, q1, rfl, rfl, rfl, h1, r1⟩ := trodAll_cons r0
  obtain ⟨rfl, rfl, rfl⟩ := trodAll_nil r1
  obtain rfl : args = #[v0, v1] := by cases args; simp_all
  obtain ⟨rfl, rfl⟩ := trodVars_none hV
  have a0 : ArgP W v0 := arg_arrays Try.underlying22 Try.underlying30 Try.underlying3 (by kernel_rfl) (by kernel_rfl) (hval 0 22 v0 rfl rfl) h0
  have lt0 : ∀ x ∈ p0, x.block < W.heap.size := fun x hx => hW'.lt x (by simp [hx])
  have a1 : ArgP W v1 := arg_arrays Try.underlying22 Try.underlying30 Try.underlying3 (by kernel_rfl) (by kernel_rfl) (hval 1 22 v1 rfl rfl) h1
  have lt1 : ∀ x ∈ p1, x.block < W.heap.size := fun x hx => hW'.lt x (by simp [hx])
  clear hA0 hval0
  simp only [List.append_nil] at hW'
  refine (walk v0 v1 W a0 a1).mono fun e W' ⟨he, hb⟩ => ?_
  subst he
  exact ⟨_, rfl, post_of_below (pv := []) hW' (fun _ _ _ => (trodAll_cons_mk (shut_bool Try.underlying4 _) trodAll_mk0)) (fun sp hsp => (trodAll_cons_mk (WideElems.Trod_stays (by kernel_rfl) (by kernel_rfl) (of_decide_eq_true (by kernel_rfl)) h0 (fun x hx => hb.same (lt0 x hx)) (fun x hx => hsp x (by simp [hx]))) (trodAll_cons_mk (WideElems.Trod_stays (by kernel_rfl) (by kernel_rfl) (of_decide_eq_true (by kernel_rfl)) h1 (fun x hx => hb.same (lt1 x hx)) (fun x hx => hsp x (by simp [hx]))) trodAll_mk0))) (fun _ _ => rfl) (by simp)
    hb (ok_one (by kernel_rfl) rfl (okWide_bool_mk Try.underlying4 _))⟩

theorem over : Rows.spanSetsRow.holds Try.pinned (OpenSpec.ofChange Rows.spanSetsSpec) :=
  OpenClaim.holds_of_wide 3 Try.f3 rfl rfl rfl rfl rfl rfl rfl ⟨rfl, rfl, rfl, rfl, rfl⟩ rfl rfl rfl rfl rfl (by kernel_rfl) Try.func3 (by kernel_rfl)
    (of_decide_eq_true (by kernel_rfl)) (by unfold Func.isWrapper; first | (rw [if_pos (by decide +kernel)]; kernel_rfl) | (rw [if_neg (by decide +kernel)]; exact ⟨rfl, rfl⟩))
    (fun os started H enc _ => lifted os started H enc)

theorem proved : Rows.SpanSetsSaid :=
  over
#print axioms proved
end Go.Proofs.Ytodkppeikpaclaa.spanSets
