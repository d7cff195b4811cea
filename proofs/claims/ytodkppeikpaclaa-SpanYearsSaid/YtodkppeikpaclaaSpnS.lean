/- The examples of the chapter, as the function sanity looks at them: it returns true. -/
import Derived.Test.YtodkppeikpaclaaSpnY
import Derived.Lib.QuietBelow
namespace Go.Proofs.Ytodkppeikpaclaa
open Go.RowKit Go.Shelf
open Spn Cal Go.Sort
set_option linter.unusedVariables false

theorem comb_ref (f : Bool → Bool → Bool) (a b : List Sp) : comb f a b = run (both f a b) (-1) (refB (a ++ b)) := by rw [refB_bnd]; rfl
theorem norm_ref (l : List Sp) : norm l = run (both orF l []) (-1) (refB (l ++ [])) := comb_ref _ _ _
theorem cnt_ref (l : List Sp) (d n : Int) (N : List Sp) (h : norm l = N) : cntOk l d n = (cntIn d n && decide ((cntL N d n).1 + (cntL N d n).2 ≤ 3652058)) ∧ cntN l d n = if (cntIn d n && decide ((cntL N d n).1 + (cntL N d n).2 ≤ 3652058)) = true then (cntL N d n).1 + (cntL N d n).2 else 0 := by
  subst h; exact ⟨rfl, rfl⟩
set_option maxRecDepth 100000 in
theorem s1 : sameB (norm [(10, 20), (5, 10), (30, 30), (25, 26)]) [(5, 20), (25, 26)] = true := by rw [norm_ref]; decide
set_option maxRecDepth 100000 in
theorem s2 : sameB (comb andF [(0, 10), (20, 30)] [(5, 25)]) [(5, 10), (20, 25)] = true := by rw [comb_ref]; decide
set_option maxRecDepth 100000 in
theorem s3 : sameB (comb lessF [(0, 10)] [(3, 5)]) [(0, 3), (5, 10)] = true := by rw [comb_ref]; decide
set_option maxRecDepth 100000 in
theorem n10 : norm [(10, 20)] = [(10, 20)] := by rw [norm_ref]; decide
theorem n0 : norm [] = [] := by rw [norm_ref]; decide
theorem c1 : cntN [(10, 20)] 8 0 = 8 ∧ cntOk [(10, 20)] 8 0 = true := by have h := cnt_ref _ 8 0 _ n10; rw [h.1, h.2]; decide
theorem c2 : cntN [(10, 20)] 8 2 = 10 ∧ cntOk [(10, 20)] 8 2 = true := by have h := cnt_ref _ 8 2 _ n10; rw [h.1, h.2]; decide
theorem c3 : cntN [(10, 20)] 8 3 = 21 ∧ cntOk [(10, 20)] 8 3 = true := by have h := cnt_ref _ 8 3 _ n10; rw [h.1, h.2]; decide
theorem c4 : cntOk [] 3652058 1 = false := by have h := cnt_ref [] 3652058 1 _ n0; rw [h.1]; decide
set_option maxRecDepth 100000 in
theorem y0 : yS 0 = (730119, 730485) ∧ yOk 0 = true := by decide
set_option maxRecDepth 100000 in
theorem y20 : yS 20 = (0, 0) ∧ yOk 20 = false := by decide
set_option maxRecDepth 100000 in
theorem p0 : perN 730119 = 0 ∧ perOk 730119 = true := by decide
theorem d10 : daysL (norm [(10, 20)]) = 10 := by rw [n10]; decide
theorem r34 : rightS (3, 4) = true := by decide
theorem lst_lit (W : World) (l : List Sp) (hl : l.length ≤ 1000000) (cs : Array Value) (t : TypeId) (hcs : cs.toList = cells2 l) (n cap : Nat) (hn : n = l.length) : Lst (W.alloc (.cells cs t)) (.slice (some ⟨W.heap.size, 0, none⟩) n cap) l := by
  subst hn
  refine .inr ⟨W.heap.size, 0, cap, rfl, by simp, hl, fun i hi => ?_⟩
  have hat := cells2_at l i hi
  rw [← hcs] at hat
  have key : ∀ j x, cs.toList[j]? = some x → (W.alloc (.cells cs t)).cell? ⟨W.heap.size, 0 + j, none⟩ = some x := fun j x hx => by
    rw [Nat.zero_add, Lib.cell_of_heap (heap_alloc_new W _), ← Array.getElem?_toList]; exact hx
  exact ⟨key _ _ hat.1, by rw [Nat.add_assoc]; exact key _ _ hat.2⟩
theorem one_more {A W W' : World} (o : Obj) (hb : Below (W.alloc o).heap.size (W.alloc o) W') : Below W.heap.size W W' := ((Below.refl _ W).alloc (Nat.le_refl _) o).trans (hb.mono (by simp))
set_option maxHeartbeats 4000000 in
set_option maxRecDepth 100000 in
theorem sanity_any (w : World) : Calls Try.prog 12 #[] w fun e w' => e = .returned (.bool true) ∧ Below w.heap.size w w' := by
  go_enter Try.func12, Try.ntmps12
  have HB := Lib.hid (Below.refl w.heap.size w)
  go_wp2_with fail
  refine (to_any _ _ _).mono ?_
  rintro e w1 ⟨rfl, hb⟩
  have HB := Lib.hid (HB.out.trans (hb.mono HB.out.size))
  clear hb
  go_wp2_with fail
  have HT := Lib.hid (lst_lit w1 [(10, 20)] (by decide) #[.int .i64 10, .int .i64 20] 33 rfl 1 1 rfl)
  refine (to_any _ _ _).mono ?_
  rintro e w2 ⟨rfl, hb⟩
  have HT := Lib.hid (HT.out.up hb)
  have hb := one_more (A := w) _ hb
  have HB := Lib.hid (HB.out.trans (hb.mono HB.out.size))
  clear hb
  go_wp2_with fail
  refine (to_any _ _ _).mono ?_
  rintro e w3 ⟨rfl, hb⟩
  have HB := Lib.hid (HB.out.trans (hb.mono HB.out.size))
  have HT := Lib.hid (HT.out.up hb)
  clear hb
  go_wp2_with fail
  refine (to_any _ _ _).mono ?_
  rintro e w4 ⟨rfl, hb⟩
  have HB := Lib.hid (HB.out.trans (hb.mono HB.out.size))
  have HT := Lib.hid (HT.out.up hb)
  clear hb
  go_wp2_with fail
  refine (to_any _ _ _).mono ?_
  rintro e w5 ⟨rfl, hb⟩
  have HB := Lib.hid (HB.out.trans (hb.mono HB.out.size))
  have HT := Lib.hid (HT.out.up hb)
  clear hb
  go_wp2_with fail
  refine (Norm_any _ [(10, 20), (5, 10), (30, 30), (25, 26)] _ (by decide) (lst_lit _ [(10, 20), (5, 10), (30, 30), (25, 26)] (by decide) _ _ rfl _ _ rfl)).mono ?_
  rintro e w6 ⟨v1, rfl, hl, hb⟩
  have hbA := hb
  have hb := one_more (A := w) _ hb
  have HB := Lib.hid (HB.out.trans (hb.mono HB.out.size))
  have HT := Lib.hid (HT.out.up hb)
  have HL := Lib.hid hl
  clear hl
  clear hb hbA
  go_wp2_with fail
  refine (to_any _ _ _).mono ?_
  rintro e w7 ⟨rfl, hb⟩
  have HB := Lib.hid (HB.out.trans (hb.mono HB.out.size))
  have HT := Lib.hid (HT.out.up hb)
  have HL := Lib.hid (HL.out.up hb)
  clear hb
  go_wp2_with fail
  refine (to_any _ _ _).mono ?_
  rintro e w8 ⟨rfl, hb⟩
  have HB := Lib.hid (HB.out.trans (hb.mono HB.out.size))
  have HT := Lib.hid (HT.out.up hb)
  have HL := Lib.hid (HL.out.up hb)
  clear hb
  go_wp2_with fail
  refine (Same_any _ _ _ [(5, 20), (25, 26)] _ (HL.out.up ((Below.refl _ _).alloc (Nat.le_refl _) _)) (lst_lit _ [(5, 20), (25, 26)] (by decide) _ _ rfl _ _ rfl)).mono ?_
  rintro e w9 ⟨rfl, hb⟩
  have hbA := hb
  have hb := one_more (A := w) _ hb
  have HB := Lib.hid (HB.out.trans (hb.mono HB.out.size))
  have HT := Lib.hid (HT.out.up hb)
  have HL := Lib.hid (HL.out.up hb)
  rw [s1]
  clear HL
  clear hb hbA
  go_wp2_with fail
  refine (to_any _ _ _).mono ?_
  rintro e w10 ⟨rfl, hb⟩
  have HB := Lib.hid (HB.out.trans (hb.mono HB.out.size))
  have HT := Lib.hid (HT.out.up hb)
  clear hb
  go_wp2_with fail
  refine (to_any _ _ _).mono ?_
  rintro e w11 ⟨rfl, hb⟩
  have HB := Lib.hid (HB.out.trans (hb.mono HB.out.size))
  have HT := Lib.hid (HT.out.up hb)
  clear hb
  go_wp2_with fail
  have HX := Lib.hid (lst_lit w11 [(0, 10), (20, 30)] (by decide) #[.int .i64 0, .int .i64 10, .int .i64 20, .int .i64 30] 33 rfl 2 2 rfl)
  refine (to_any _ _ _).mono ?_
  rintro e w12 ⟨rfl, hb⟩
  have HX := Lib.hid (HX.out.up hb)
  have hb := one_more (A := w) _ hb
  have HB := Lib.hid (HB.out.trans (hb.mono HB.out.size))
  have HT := Lib.hid (HT.out.up hb)
  clear hb
  go_wp2_with fail
  refine (Meet_any _ _ [(0, 10), (20, 30)] [(5, 25)] _ (by decide) (by decide) (HX.out.up ((Below.refl _ _).alloc (Nat.le_refl _) _)) (lst_lit _ [(5, 25)] (by decide) _ _ rfl _ _ rfl)).mono ?_
  rintro e w13 ⟨v2, rfl, hl, hb⟩
  have hbA := hb
  have hb := one_more (A := w) _ hb
  have HB := Lib.hid (HB.out.trans (hb.mono HB.out.size))
  have HT := Lib.hid (HT.out.up hb)
  have HX := Lib.hid (HX.out.up hb)
  have HL := Lib.hid hl
  clear hl HX
  clear hb hbA
  go_wp2_with fail
  refine (to_any _ _ _).mono ?_
  rintro e w14 ⟨rfl, hb⟩
  have HB := Lib.hid (HB.out.trans (hb.mono HB.out.size))
  have HT := Lib.hid (HT.out.up hb)
  have HL := Lib.hid (HL.out.up hb)
  clear hb
  go_wp2_with fail
  refine (to_any _ _ _).mono ?_
  rintro e w15 ⟨rfl, hb⟩
  have HB := Lib.hid (HB.out.trans (hb.mono HB.out.size))
  have HT := Lib.hid (HT.out.up hb)
  have HL := Lib.hid (HL.out.up hb)
  clear hb
  go_wp2_with fail
  refine (Same_any _ _ _ [(5, 10), (20, 25)] _ (HL.out.up ((Below.refl _ _).alloc (Nat.le_refl _) _)) (lst_lit _ [(5, 10), (20, 25)] (by decide) _ _ rfl _ _ rfl)).mono ?_
  rintro e w16 ⟨rfl, hb⟩
  have hbA := hb
  have hb := one_more (A := w) _ hb
  have HB := Lib.hid (HB.out.trans (hb.mono HB.out.size))
  have HT := Lib.hid (HT.out.up hb)
  have HL := Lib.hid (HL.out.up hb)
  rw [s2]
  clear HL
  clear hb hbA
  go_wp2_with fail
  refine (to_any _ _ _).mono ?_
  rintro e w17 ⟨rfl, hb⟩
  have HB := Lib.hid (HB.out.trans (hb.mono HB.out.size))
  have HT := Lib.hid (HT.out.up hb)
  clear hb
  go_wp2_with fail
  have HX := Lib.hid (lst_lit w17 [(0, 10)] (by decide) #[.int .i64 0, .int .i64 10] 33 rfl 1 1 rfl)
  refine (to_any _ _ _).mono ?_
  rintro e w18 ⟨rfl, hb⟩
  have HX := Lib.hid (HX.out.up hb)
  have hb := one_more (A := w) _ hb
  have HB := Lib.hid (HB.out.trans (hb.mono HB.out.size))
  have HT := Lib.hid (HT.out.up hb)
  clear hb
  go_wp2_with fail
  refine (Less_any _ _ [(0, 10)] [(3, 5)] _ (by decide) (by decide) (HX.out.up ((Below.refl _ _).alloc (Nat.le_refl _) _)) (lst_lit _ [(3, 5)] (by decide) _ _ rfl _ _ rfl)).mono ?_
  rintro e w19 ⟨v3, rfl, hl, hb⟩
  have hbA := hb
  have hb := one_more (A := w) _ hb
  have HB := Lib.hid (HB.out.trans (hb.mono HB.out.size))
  have HT := Lib.hid (HT.out.up hb)
  have HX := Lib.hid (HX.out.up hb)
  have HL := Lib.hid hl
  clear hl HX
  clear hb hbA
  go_wp2_with fail
  refine (to_any _ _ _).mono ?_
  rintro e w20 ⟨rfl, hb⟩
  have HB := Lib.hid (HB.out.trans (hb.mono HB.out.size))
  have HT := Lib.hid (HT.out.up hb)
  have HL := Lib.hid (HL.out.up hb)
  clear hb
  go_wp2_with fail
  refine (to_any _ _ _).mono ?_
  rintro e w21 ⟨rfl, hb⟩
  have HB := Lib.hid (HB.out.trans (hb.mono HB.out.size))
  have HT := Lib.hid (HT.out.up hb)
  have HL := Lib.hid (HL.out.up hb)
  clear hb
  go_wp2_with fail
  refine (Same_any _ _ _ [(0, 3), (5, 10)] _ (HL.out.up ((Below.refl _ _).alloc (Nat.le_refl _) _)) (lst_lit _ [(0, 3), (5, 10)] (by decide) _ _ rfl _ _ rfl)).mono ?_
  rintro e w22 ⟨rfl, hb⟩
  have hbA := hb
  have hb := one_more (A := w) _ hb
  have HB := Lib.hid (HB.out.trans (hb.mono HB.out.size))
  have HT := Lib.hid (HT.out.up hb)
  have HL := Lib.hid (HL.out.up hb)
  rw [s3]
  clear HL
  clear hb hbA
  go_wp2_with fail
  refine (Count_any _ [(10, 20)] 8 0 _ (by decide) HT.out).mono ?_
  rintro e w23 ⟨rfl, hb⟩
  have HB := Lib.hid (HB.out.trans (hb.mono HB.out.size))
  have HT := Lib.hid (HT.out.up hb)
  rw [c1.1, c1.2]
  clear hb
  go_wp2_with fail
  refine (Count_any _ [(10, 20)] 8 2 _ (by decide) HT.out).mono ?_
  rintro e w24 ⟨rfl, hb⟩
  have HB := Lib.hid (HB.out.trans (hb.mono HB.out.size))
  have HT := Lib.hid (HT.out.up hb)
  rw [c2.1, c2.2]
  clear hb
  go_wp2_with fail
  refine (Count_any _ [(10, 20)] 8 3 _ (by decide) HT.out).mono ?_
  rintro e w25 ⟨rfl, hb⟩
  have HB := Lib.hid (HB.out.trans (hb.mono HB.out.size))
  have HT := Lib.hid (HT.out.up hb)
  rw [c3.1, c3.2]
  clear hb
  go_wp2_with fail
  refine (Count_any _ [] 3652058 1 _ (by decide) (Lst.none _)).mono ?_
  rintro e w26 ⟨rfl, hb⟩
  have HB := Lib.hid (HB.out.trans (hb.mono HB.out.size))
  have HT := Lib.hid (HT.out.up hb)
  rw [c4]
  clear hb
  go_wp2_with fail
  refine (Year_any 0 (by decide) (by decide) _).mono ?_
  rintro e w27 ⟨rfl, hb⟩
  have HB := Lib.hid (HB.out.trans (hb.mono HB.out.size))
  have HT := Lib.hid (HT.out.up hb)
  rw [y0.1, y0.2]
  clear hb
  go_wp2_with fail
  have KY := Lib.hid (heap_alloc_new w27 (.cells #[.int .i64 730119, .int .i64 730485] 33))
  refine (Period_any 730119 _).mono ?_
  rintro e w28 ⟨rfl, hb⟩
  have KY := Lib.hid (heap_up hb KY.out)
  have hb := one_more (A := w) _ hb
  have HB := Lib.hid (HB.out.trans (hb.mono HB.out.size))
  have HT := Lib.hid (HT.out.up hb)
  rw [p0.1, p0.2]
  clear hb
  go_wp2_with fail
  refine (Year_any 20 (by decide) (by decide) _).mono ?_
  rintro e w29 ⟨rfl, hb⟩
  have KY := Lib.hid (heap_up hb KY.out)
  have HB := Lib.hid (HB.out.trans (hb.mono HB.out.size))
  have HT := Lib.hid (HT.out.up hb)
  rw [y20.1, y20.2]
  clear hb
  go_wp2_with fail
  obtain ⟨wz, hwz⟩ : ∃ wz, w29.alloc (.cells #[.int .i64 0, .int .i64 0] 33) = wz := ⟨_, rfl⟩
  have hb : Below w29.heap.size w29 wz := by rw [← hwz]; exact (Below.refl _ _).alloc (Nat.le_refl _) _
  rw [hwz]
  have ky := heap_up hb KY.out
  have HB := Lib.hid (HB.out.trans (hb.mono HB.out.size))
  have HT := Lib.hid (HT.out.up hb)
  have g0 : wz.cell? ⟨w27.heap.size, 0, none⟩ = some (.int .i64 730119) := by rw [Lib.cell_of_heap ky]; rfl
  have g1 : wz.cell? ⟨w27.heap.size, 1, none⟩ = some (.int .i64 730485) := by rw [Lib.cell_of_heap ky]; rfl
  have k0 := cell_regrown g0
  have k1 := cell_regrown g1
  have heq := fun X => eq_span 730119 730485 730119 730485 X
  have cT : ∀ a b d os, Calls Try.prog 38 #[.int .i64 a, .int .i64 b] (grow (redrawn wz d) os) fun e w'' => e = .returned (.agg #[.int .i64 a, .int .i64 b]) ∧ ∃ p : Regrown, w'' = grow (redrawn wz p.d) p.os := fun a b d os => Calls.regrown_of (to_any a b _)
  have cD : ∀ d os, Calls Try.prog 30 #[.slice (some ⟨w1.heap.size, 0, none⟩) 1 1] (grow (redrawn wz d) os) fun e w'' => e = .returned (.int .i64 10) ∧ ∃ p : Regrown, w'' = grow (redrawn wz p.d) p.os := fun d os => by
    have h := Days_any _ [(10, 20)] (grow (redrawn wz d) os) (by decide) (HT.out.up (below_regrown wz d os))
    rw [d10] at h
    exact Calls.regrown_of h
  have cR : ∀ d os, Calls Try.prog 24 #[.agg #[.int .i64 3, .int .i64 4]] (grow (redrawn wz d) os) fun e w'' => e = .returned (.bool true) ∧ ∃ p : Regrown, w'' = grow (redrawn wz p.d) p.os := fun d os => by
    have h := Right_any 3 4 (grow (redrawn wz d) os)
    rw [r34] at h
    exact Calls.regrown_of h
  clear g0 g1 ky hb hwz KY
  refine wp_region_quiet_below (by kernel_rfl) (by kernel_rfl) ?_
  repeat (quiet_step (first | exact cT _ _ _ _ | exact cD _ _ | exact cR _ _))
  refine wpQuiet_nil ?_
  intro _ hw'
  obtain ⟨⟨dq, osq⟩, hw''⟩ := hw'
  subst hw''
  go_wp2_with fail
  go_ret
  exact ⟨rfl, HB.out.trans ((below_regrown wz dq osq).mono HB.out.size)⟩
end Go.Proofs.Ytodkppeikpaclaa
