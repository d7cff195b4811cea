/- 'tithinglaw05.SpanRaw' returns true at every input: the walk, the row. -/
import Derived.Test.YtodkppeikpaclaaSpnS
import Derived.Test.YtodkppeikpaclaaSpnR
import Derived.Test.YtodkppeikpaclaaFew
import Derived.Test.YtodkppeikpaclaaArr
namespace Go.Proofs.Ytodkppeikpaclaa.spanRaw
open Go.ChangeShapes Go.Shelf Go.WideShapes Go.ChangeAt Go.RowKit
open Spn Go.Sort
set_option linter.unusedVariables false

theorem sameB_refl (l : List Sp) : sameB l l = true := by simp [sameB]
set_option maxHeartbeats 4000000 in
set_option maxRecDepth 100000 in
theorem walk (x y : Value) (q0 q1 : Int) (w : World) (ha : ArgP w x) (hb0 : ArgP w y) (_h0 : inI q0) (_h1 : inI q1) : Calls Try.prog 4 #[x, y, .agg #[.int .i64 q0, .int .i64 q1]] w fun e w' => e = .returned (.bool true) ∧ Below w.heap.size w w' := by
  have HA := Lib.hid (ha.up ((Below.refl w.heap.size w).alloc (Nat.le_refl _) (.cells #[.int .i64 q0, .int .i64 q1] 30)))
  have HC := Lib.hid (hb0.up ((Below.refl w.heap.size w).alloc (Nat.le_refl _) (.cells #[.int .i64 q0, .int .i64 q1] 30)))
  clear ha hb0
  go_enter Try.func4, Try.ntmps4
  go_wp2_with fail
  have HB := Lib.hid ((Below.refl w.heap.size w).alloc (Nat.le_refl _) (.cells #[.int .i64 q0, .int .i64 q1] 30))
  refine (sanity_any _).mono ?_
  rintro e w1 ⟨rfl, hb⟩
  have kq := heap_up hb (heap_alloc_new w (.cells #[.int .i64 q0, .int .i64 q1] 30))
  have HB := Lib.hid (HB.out.trans (hb.mono HB.out.size))
  have HA := Lib.hid (HA.out.up hb)
  have HC := Lib.hid (HC.out.up hb)
  have c0 : w1.cell? ⟨w.heap.size, 0, none⟩ = some (.int .i64 q0) := by rw [Lib.cell_of_heap kq]; rfl
  have c1 : w1.cell? ⟨w.heap.size, 1, none⟩ = some (.int .i64 q1) := by rw [Lib.cell_of_heap kq]; rfl
  clear hb kq
  go_wp2_with fail
  clear c0 c1
  refine (few_any _ _ HA.out).mono ?_
  rintro e w2 ⟨va, la, rfl, hl, hn, hb⟩
  have HB := Lib.hid (HB.out.trans (hb.mono HB.out.size))
  have HA := Lib.hid (HA.out.up hb)
  have HC := Lib.hid (HC.out.up hb)
  obtain ⟨pa, ca, rfl, -, -⟩ := hl.open
  have HX := Lib.hid hl; have hna : la.length ≤ 8 := hn
  clear hl hn
  clear hb
  go_wp2_with fail
  refine (few_any _ _ HC.out).mono ?_
  rintro e w3 ⟨vb, lb, rfl, hl, hn, hb⟩
  have HB := Lib.hid (HB.out.trans (hb.mono HB.out.size))
  have HA := Lib.hid (HA.out.up hb)
  have HC := Lib.hid (HC.out.up hb)
  have HX := Lib.hid (HX.out.up hb)
  obtain ⟨pb, cb, rfl, -, -⟩ := hl.open
  have HY := Lib.hid hl; have hnb : lb.length ≤ 8 := hn
  clear hl hn HA HC
  clear hb
  go_wp2_with fail
  go_loopw [10] (fun i wr => ∃ k : Nat, k ≤ la.length ∧ i = .int .i64 (k : Int) ∧ Hid (Below w3.heap.size w3 wr)) (fun i _ => la.length - (intOf i).toNat)
  case atStart => exact ⟨0, by omega, rfl, Lib.hid (Below.refl _ _)⟩
  case round =>
    obtain ⟨k, hk, rfl, HBW⟩ := hrel
    by_cases hlt : k < la.length
    · have hlt' : (k : Int) < (la.length : Int) := by omega
      obtain ⟨p2, c2, hv2, -, hcell⟩ := HX.out.open
      cases hv2
      obtain ⟨g, off, rfl, hg, e1, e2⟩ := hcell k hlt
      obtain ⟨sf, hsf⟩ : ∃ sf, la[k].1 = sf := ⟨_, rfl⟩
      obtain ⟨st, hst⟩ : ∃ st, la[k].2 = st := ⟨_, rfl⟩
      rw [hsf] at e1; rw [hst] at e2
      have d1 : wr.cell? ⟨g, off + k * 2, none⟩ = some (.int .i64 sf) := by rw [cell_up HBW.out hg]; exact e1
      have d2 : wr.cell? ⟨g, off + k * 2 + 1, none⟩ = some (.int .i64 st) := by rw [cell_up HBW.out hg]; exact e2
      clear e1 e2 hsf hst hcell
      obtain ⟨wo, hwo⟩ : ∃ wo, wo = wr := ⟨_, rfl⟩
      subst hwo
      obtain ⟨rb, hrb⟩ : ∃ rb, rightS (sf, st) = rb := ⟨_, rfl⟩
      have k0 := cell_regrown d1
      have k1 := cell_regrown d2
      have cP : ∀ d os, Calls Try.prog 24 #[.agg #[.int .i64 sf, .int .i64 st]] (grow (redrawn wo d) os) fun e w'' => e = .returned (.bool rb) ∧ ∃ p : Regrown, w'' = grow (redrawn wo p.d) p.os := fun d os => by
        have h := Right_any sf st (grow (redrawn wo d) os)
        rw [hrb] at h
        exact Calls.regrown_of h
      have cR : ∀ d os, Calls Try.prog 25 #[.agg #[.int .i64 sf, .int .i64 st]] (grow (redrawn wo d) os) fun e w'' => e = .returned (.bool rb) ∧ ∃ p : Regrown, w'' = grow (redrawn wo p.d) p.os := fun d os => by
        have h := rRight_any sf st (grow (redrawn wo d) os)
        rw [hrb] at h
        exact Calls.regrown_of h
      clear hrb d1 d2
      go_wp2_with fail
      refine wp_region_quiet_below (by kernel_rfl) (by kernel_rfl) ?_
      repeat (quiet_step (first | exact cP _ _ | exact cR _ _))
      refine wpQuiet_nil ?_
      intro _ hw'
      obtain ⟨⟨dq, osq⟩, hw''⟩ := hw'
      subst hw''
      have HB2 := Lib.hid (HBW.out.trans ((below_regrown wo dq osq).mono HBW.out.size))
      go_wp2_with fail
      go_roundw
      case rel => exact ⟨k + 1, by omega, by go_num, HB2⟩
      case measure => simp [intOf]; omega
    · have hge : (la.length : Int) ≤ (k : Int) := by omega
      have hna' : la.length ≤ 10000 := by omega
      have hnb' : lb.length ≤ 10000 := by omega
      have hb := HBW.out
      have HB := Lib.hid (HB.out.trans (hb.mono HB.out.size))
      have HX := Lib.hid (HX.out.up hb)
      have HY := Lib.hid (HY.out.up hb)
      clear hb
      go_wp2_with fail
      refine (Count_any _ la q0 q1 _ hna' HX.out).mono ?_
      rintro e w14 ⟨rfl, hb⟩
      have HB := Lib.hid (HB.out.trans (hb.mono HB.out.size))
      have HX := Lib.hid (HX.out.up hb)
      have HY := Lib.hid (HY.out.up hb)
      clear hb
      go_wp2_with fail
      refine (rCount_any _ la q0 q1 _ hna' HX.out).mono ?_
      rintro e w15 ⟨rfl, hb⟩
      have HB := Lib.hid (HB.out.trans (hb.mono HB.out.size))
      have HX := Lib.hid (HX.out.up hb)
      have HY := Lib.hid (HY.out.up hb)
      clear hb
      go_wp2_with fail
      refine (Norm_any _ la _ hna' HX.out).mono ?_
      rintro e w16 ⟨v1, rfl, hl, hb⟩
      have HB := Lib.hid (HB.out.trans (hb.mono HB.out.size))
      have HX := Lib.hid (HX.out.up hb)
      have HY := Lib.hid (HY.out.up hb)
      have H1 := Lib.hid hl
      clear hl
      clear hb
      go_wp2_with fail
      refine (rNorm_any _ la _ hna' HX.out).mono ?_
      rintro e w17 ⟨v2, rfl, hl, hb⟩
      have HB := Lib.hid (HB.out.trans (hb.mono HB.out.size))
      have HX := Lib.hid (HX.out.up hb)
      have HY := Lib.hid (HY.out.up hb)
      have H1 := Lib.hid (H1.out.up hb)
      have H2 := Lib.hid hl
      clear hl
      clear hb
      go_wp2_with fail
      refine (Same_any _ _ _ _ _ H1.out H2.out).mono ?_
      rintro e w18 ⟨rfl, hb⟩
      have HB := Lib.hid (HB.out.trans (hb.mono HB.out.size))
      have HX := Lib.hid (HX.out.up hb)
      have HY := Lib.hid (HY.out.up hb)
      have H1 := Lib.hid (H1.out.up hb)
      have H2 := Lib.hid (H2.out.up hb)
      rw [sameB_refl]
      clear H1 H2
      clear hb
      go_wp2_with fail
      refine (Union_any _ _ la lb _ hna' hnb' HX.out HY.out).mono ?_
      rintro e w19 ⟨v1, rfl, hl, hb⟩
      have HB := Lib.hid (HB.out.trans (hb.mono HB.out.size))
      have HX := Lib.hid (HX.out.up hb)
      have HY := Lib.hid (HY.out.up hb)
      have H1 := Lib.hid hl
      clear hl
      clear hb
      go_wp2_with fail
      refine (rUnion_any _ _ la lb _ hna' hnb' HX.out HY.out).mono ?_
      rintro e w20 ⟨v2, rfl, hl, hb⟩
      have HB := Lib.hid (HB.out.trans (hb.mono HB.out.size))
      have HX := Lib.hid (HX.out.up hb)
      have HY := Lib.hid (HY.out.up hb)
      have H1 := Lib.hid (H1.out.up hb)
      have H2 := Lib.hid hl
      clear hl
      clear hb
      go_wp2_with fail
      refine (Same_any _ _ _ _ _ H1.out H2.out).mono ?_
      rintro e w21 ⟨rfl, hb⟩
      have HB := Lib.hid (HB.out.trans (hb.mono HB.out.size))
      have HX := Lib.hid (HX.out.up hb)
      have HY := Lib.hid (HY.out.up hb)
      have H1 := Lib.hid (H1.out.up hb)
      have H2 := Lib.hid (H2.out.up hb)
      rw [sameB_refl]
      clear H1 H2
      clear hb
      go_wp2_with fail
      refine (Meet_any _ _ la lb _ hna' hnb' HX.out HY.out).mono ?_
      rintro e w22 ⟨v1, rfl, hl, hb⟩
      have HB := Lib.hid (HB.out.trans (hb.mono HB.out.size))
      have HX := Lib.hid (HX.out.up hb)
      have HY := Lib.hid (HY.out.up hb)
      have H1 := Lib.hid hl
      clear hl
      clear hb
      go_wp2_with fail
      refine (rMeet_any _ _ la lb _ hna' hnb' HX.out HY.out).mono ?_
      rintro e w23 ⟨v2, rfl, hl, hb⟩
      have HB := Lib.hid (HB.out.trans (hb.mono HB.out.size))
      have HX := Lib.hid (HX.out.up hb)
      have HY := Lib.hid (HY.out.up hb)
      have H1 := Lib.hid (H1.out.up hb)
      have H2 := Lib.hid hl
      clear hl
      clear hb
      go_wp2_with fail
      refine (Same_any _ _ _ _ _ H1.out H2.out).mono ?_
      rintro e w24 ⟨rfl, hb⟩
      have HB := Lib.hid (HB.out.trans (hb.mono HB.out.size))
      have HX := Lib.hid (HX.out.up hb)
      have HY := Lib.hid (HY.out.up hb)
      have H1 := Lib.hid (H1.out.up hb)
      have H2 := Lib.hid (H2.out.up hb)
      rw [sameB_refl]
      clear H1 H2
      clear hb
      go_wp2_with fail
      refine (Less_any _ _ la lb _ hna' hnb' HX.out HY.out).mono ?_
      rintro e w25 ⟨v1, rfl, hl, hb⟩
      have HB := Lib.hid (HB.out.trans (hb.mono HB.out.size))
      have HX := Lib.hid (HX.out.up hb)
      have HY := Lib.hid (HY.out.up hb)
      have H1 := Lib.hid hl
      clear hl
      clear hb
      go_wp2_with fail
      refine (rLess_any _ _ la lb _ hna' hnb' HX.out HY.out).mono ?_
      rintro e w26 ⟨v2, rfl, hl, hb⟩
      have HB := Lib.hid (HB.out.trans (hb.mono HB.out.size))
      have HX := Lib.hid (HX.out.up hb)
      have HY := Lib.hid (HY.out.up hb)
      have H1 := Lib.hid (H1.out.up hb)
      have H2 := Lib.hid hl
      clear hl
      clear hb
      go_wp2_with fail
      refine (Same_any _ _ _ _ _ H1.out H2.out).mono ?_
      rintro e w27 ⟨rfl, hb⟩
      have HB := Lib.hid (HB.out.trans (hb.mono HB.out.size))
      have HX := Lib.hid (HX.out.up hb)
      have HY := Lib.hid (HY.out.up hb)
      have H1 := Lib.hid (H1.out.up hb)
      have H2 := Lib.hid (H2.out.up hb)
      rw [sameB_refl]
      clear H1 H2
      clear hb
      go_wp2_with fail
      refine (Has_any q0 _ la _ HX.out).mono ?_
      rintro e w28 ⟨rfl, hb⟩
      have HB := Lib.hid (HB.out.trans (hb.mono HB.out.size))
      have HX := Lib.hid (HX.out.up hb)
      have HY := Lib.hid (HY.out.up hb)
      clear hb
      go_wp2_with fail
      refine (rHas_any q0 _ la _ HX.out).mono ?_
      rintro e w29 ⟨rfl, hb⟩
      have HB := Lib.hid (HB.out.trans (hb.mono HB.out.size))
      have HX := Lib.hid (HX.out.up hb)
      have HY := Lib.hid (HY.out.up hb)
      clear hb
      go_wp2_with fail
      refine (Days_any _ la _ hna' HX.out).mono ?_
      rintro e w30 ⟨rfl, hb⟩
      have HB := Lib.hid (HB.out.trans (hb.mono HB.out.size))
      have HX := Lib.hid (HX.out.up hb)
      have HY := Lib.hid (HY.out.up hb)
      clear hb
      go_wp2_with fail
      refine (rDays_any _ la _ hna' HX.out).mono ?_
      rintro e w31 ⟨rfl, hb⟩
      have HB := Lib.hid (HB.out.trans (hb.mono HB.out.size))
      have HX := Lib.hid (HX.out.up hb)
      have HY := Lib.hid (HY.out.up hb)
      clear hb
      go_wp2_with fail
      go_ret
      exact ⟨by simp, HB.out⟩

/-! ### THE ROW's STEP -/
theorem cel2 : Try.prog.cellsOf 3 = 1 := by kernel_rfl
theorem arr2 : Try.prog.cellsOf 30 = 2 := by kernel_rfl
set_option maxRecDepth 100000 in
theorem lifted (os : Os) (started : os.Started) (H : Type) (enc : TypeId × Value → H) :
    ReturnsInHanded {} Try.checked os 4 .any (Rows.spanRawSpec.pre6 enc Try.prog Try.f4 Rows.spanRawRow.domain false) (Rows.spanRawSpec.post enc Try.prog Try.f4 false true false false) := by
  refine returnsInHanded_of_change (C := Try.checked) own started (by kernel_rfl) Try.func4
    (ChangeSpec.witness6 (enc := enc) (C := Try.checked) false ⟨#[], #[.slice none 0 0, .slice none 0 0, .agg #[.int .i64 0, .int .i64 0]], []⟩ 8 (by kernel_rfl) (by kernel_rfl) (by kernel_rfl) (by kernel_rfl)) ?_
  intro W base args ds gs before hval0 hW hcnd _
  have hval : ∀ (j : Nat) t v, Try.f4.params[j]? = some t → args[j]? = some v → Value.okWide Try.prog W .any base t v := hval0
  have hW' := hW
  obtain ⟨p, q, hA0, hV, rfl, hfz, hnd⟩ := hW
  have hA : DataW.TrodAll enc Try.prog W 0 (fun _ => true) true Try.f4.params.toList args.toList ds p := hA0
  rw [Try.params4] at hA hval
  obtain ⟨v0, vs0, d0, ds0, p0, q0, hargs, rfl, rfl, h0, r0⟩ := trodAll_cons hA
  obtain ⟨v1, vs1, d1, ds1, p1, q1, rfl, rfl, rfl, h1, r1⟩ := trodAll_cons r0
  obtain ⟨v2, vs2, d2, ds2, p2, q2, rfl, rfl, rfl, h2, r2⟩ := trodAll_cons r1
  obtain ⟨rfl, rfl, rfl⟩ := trodAll_nil r2
  obtain rfl : args = #[v0, v1, v2] := by cases args; simp_all
  obtain ⟨rfl, rfl⟩ := trodVars_none hV
  have a0 : ArgP W v0 := arg_structs Try.underlying24 Try.underlying33 (by kernel_rfl) rfl rfl (by kernel_rfl) (by kernel_rfl) Try.underlying3 Try.underlying3 (hval 0 24 v0 rfl rfl) h0
  have lt0 : ∀ x ∈ p0, x.block < W.heap.size := fun x hx => hW'.lt x (by simp [hx])
  have a1 : ArgP W v1 := arg_structs Try.underlying24 Try.underlying33 (by kernel_rfl) rfl rfl (by kernel_rfl) (by kernel_rfl) Try.underlying3 Try.underlying3 (hval 1 24 v1 rfl rfl) h1
  have lt1 : ∀ x ∈ p1, x.block < W.heap.size := fun x hx => hW'.lt x (by simp [hx])
  obtain ⟨xs2, hl2, rfl, rfl, rfl, w2⟩ := open_ints Try.underlying30 Try.underlying3 cel2 arr2 (hval 2 30 v2 rfl rfl) h2
  obtain ⟨x2_0, x2_1, rfl⟩ := list2 xs2 hl2
  clear hA0 hval0
  simp only [List.append_nil] at hW'
  refine (walk v0 v1 x2_0 x2_1 W a0 a1 (wf_in (w2 _ (by simp))) (wf_in (w2 _ (by simp)))).mono fun e W' ⟨he, hb⟩ => ?_
  subst he
  exact ⟨_, rfl, post_of_below (pv := []) hW' (fun _ _ _ => (trodAll_cons_mk (shut_bool Try.underlying4 _) trodAll_mk0)) (fun sp hsp => (trodAll_cons_mk (WideElems.Trod_stays (by kernel_rfl) (by kernel_rfl) (of_decide_eq_true (by kernel_rfl)) h0 (fun x hx => hb.same (lt0 x hx)) (fun x hx => hsp x (by simp [hx]))) (trodAll_cons_mk (WideElems.Trod_stays (by kernel_rfl) (by kernel_rfl) (of_decide_eq_true (by kernel_rfl)) h1 (fun x hx => hb.same (lt1 x hx)) (fun x hx => hsp x (by simp [hx]))) (trodAll_cons_mk (shut_ints Try.underlying30 Try.underlying3 cel2 arr2 hl2 w2) trodAll_mk0)))) (fun _ _ => rfl) (by simp)
    hb (ok_one (by kernel_rfl) rfl (okWide_bool_mk Try.underlying4 _))⟩

theorem over : Rows.spanRawRow.holds Try.pinned (OpenSpec.ofChange Rows.spanRawSpec) :=
  OpenClaim.holds_of_wide 4 Try.f4 rfl rfl rfl rfl rfl rfl rfl ⟨rfl, rfl, rfl, rfl, rfl⟩ rfl rfl rfl rfl rfl (by kernel_rfl) Try.func4 (by kernel_rfl)
    (of_decide_eq_true (by kernel_rfl)) (by unfold Func.isWrapper; first | (rw [if_pos (by decide +kernel)]; kernel_rfl) | (rw [if_neg (by decide +kernel)]; exact ⟨rfl, rfl⟩))
    (fun os started H enc _ => lifted os started H enc)

theorem proved : Rows.SpanRawSaid :=
  over
#print axioms proved
end Go.Proofs.Ytodkppeikpaclaa.spanRaw
