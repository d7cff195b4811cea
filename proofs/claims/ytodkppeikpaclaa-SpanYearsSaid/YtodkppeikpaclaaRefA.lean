/- Contracts of the calendar functions of the reference tithingref03: each returns what the function of package date returns, and leaves the memory as it was. -/
import Derived.Test.YtodkppeikpaclaaDayB
namespace Go.Proofs.Ytodkppeikpaclaa
open Go.RowKit
open Cal
set_option linter.unusedVariables false

set_option maxHeartbeats 400000 in
theorem rLeap_any (y : Int) (h0 : 0 ≤ y) (w : World) :
    Calls Try.prog 64 #[.int .i64 y] w fun e w' => e = .returned (.bool (leapB y)) ∧ w = w' := by
  go_enter Try.func64, Try.ntmps64
  go_wp2
  all_goals go_ret
  all_goals exact ⟨ret_bool (by simp [leapB, *]), rfl⟩

set_option maxHeartbeats 1000000 in
theorem qDays_any (y m : Int) (h0 : 0 ≤ y) (w : World) :
    Calls Try.prog 57 #[.int .i64 y, .int .i64 m] w fun e w' => e = .returned (.int .i64 (dim y m)) ∧ w = w' := by
  by_cases hm : m = 2
  · subst hm
    cases hl : leapB y
    all_goals
      have hl' := Lib.hid hl
      clear hl
      go_enter Try.func57, Try.ntmps57
      go_wp2_with fail
      refine (rLeap_any _ h0 _).mono ?_
      rintro e w2 ⟨rfl, rfl⟩
      rw [hl'.out]
      go_wp2_with fail
      go_ret
      exact ⟨ret_int (by simp [dim, lp, hl'.out]), rfl⟩
  · have e2 : (m == 2) = false := by simp [hm]
    by_cases h4 : m = 4 ∨ m = 6 ∨ m = 9 ∨ m = 11
    · rcases h4 with rfl | rfl | rfl | rfl
      all_goals
        clear hm e2
        go_enter Try.func57, Try.ntmps57
        go_wp2_with fail
        go_ret
        exact ⟨rfl, rfl⟩
    · have hd := Lib.hid (show dim y m = 31 by unfold dim; rw [if_neg hm, if_neg h4])
      have k4 : (m == 4) = false := by simp; omega
      have k6 : (m == 6) = false := by simp; omega
      have k9 : (m == 9) = false := by simp; omega
      have k11 : (m == 11) = false := by simp; omega
      clear h4 hm
      go_enter Try.func57, Try.ntmps57
      go_wp2_with fail
      go_ret
      exact ⟨ret_int hd.out.symm, rfl⟩

set_option maxHeartbeats 1000000 in
theorem rValid_any (y m d : Int) (w : World) :
    Calls Try.prog 55 #[.int .i64 y, .int .i64 m, .int .i64 d] w fun e w' => e = .returned (.bool (validB y m d)) ∧ w = w' := by
  by_cases h1 : 1 ≤ y ∧ y ≤ 9999 ∧ 1 ≤ m ∧ m ≤ 12 ∧ 1 ≤ d
  · obtain ⟨h1, h2, h3, h4, h5⟩ := h1
    go_enter Try.func55, Try.ntmps55
    go_wp2_with fail
    refine (qDays_any _ _ (by omega) _).mono ?_
    rintro e w1 ⟨rfl, rfl⟩
    go_wp2_with fail
    go_ret
    exact ⟨ret_bool (by simp [validB, *]), rfl⟩
  · have hv := Lib.hid (valid_not (y := y) (m := m) (d := d) (fun h => h1 ⟨h.1, h.2.1, h.2.2.1, h.2.2.2.1, h.2.2.2.2.1⟩))
    have h1' := Lib.hid h1
    clear h1
    go_enter Try.func55, Try.ntmps55
    go_wp2_with fail
    all_goals first
      | (go_ret; exact ⟨ret_bool (by rw [hv.out]), rfl⟩)
      | (exfalso; exact h1'.out (by refine ⟨?_, ?_, ?_, ?_, ?_⟩ <;> omega))

set_option maxHeartbeats 400000 in
theorem rfirst_any (y : Int) (h0 : 1 ≤ y) (h1 : y ≤ 10000) (w : World) :
    Calls Try.prog 56 #[.int .i64 y] w fun e w' => e = .returned (.int .i64 (dby y)) ∧ w = w' := by
  go_enter Try.func56, Try.ntmps56
  go_wp2_with fail
  go_ret
  exact ⟨rfl, rfl⟩

set_option maxHeartbeats 1000000 in
theorem rNumber_any (y m d : Int) (w : World) :
    Calls Try.prog 47 #[.int .i64 y, .int .i64 m, .int .i64 d] w fun e w' => e = .returned (.tuple #[.int .i64 (numV y m d), .bool (validB y m d)]) ∧ w = w' := by
  cases hv : validB y m d
  · have hv' := Lib.hid hv
    clear hv
    go_enter Try.func47, Try.ntmps47
    go_wp2_with fail
    refine (rValid_any _ _ _ _).mono ?_
    rintro e w1 ⟨rfl, rfl⟩
    rw [hv'.out]
    go_wp2_with fail
    go_ret2
    exact ⟨ret_ib (by simp [numV, hv'.out]) rfl, rfl⟩
  · have hv' := Lib.hid hv
    clear hv
    obtain ⟨a1, a2, a3, a4, a5, a6⟩ := (valid_iff _ _ _).1 hv'.out
    have hd := dim_lo y m
    have hdb := dby_bd y a1 (by omega)
    go_enter Try.func47, Try.ntmps47
    go_wp2_with fail
    refine (rValid_any _ _ _ _).mono ?_
    rintro e w1 ⟨rfl, rfl⟩
    rw [hv'.out]
    go_wp2_with fail
    refine (rfirst_any _ a1 (by omega) _).mono ?_
    rintro e w2 ⟨rfl, rfl⟩
    go_wp2_with fail
    go_loopw [9, 10] (fun n k wr => w = wr ∧ ∃ j : Int, 1 ≤ j ∧ j ≤ m ∧ k = .int .i64 j ∧ n = .int .i64 (dby y + d - 1 + cum y j)) (fun _ k _ => (m - intOf k).toNat)
    case atStart => exact ⟨rfl, 1, by omega, by omega, rfl, by rw [cum_one]; simp⟩
    case round =>
      obtain ⟨rfl, j, hj1, hj2, rfl, rfl⟩ := hrel
      have hc := cum_bd y j hj1 (by omega)
      have hs := Lib.hid (cum_succ y j hj1 (by omega))
      have hdl := dim_lo y j
      by_cases hlt : j < m
      · go_wp2_with fail
        refine (qDays_any _ _ (by omega) _).mono ?_
        rintro e w3 ⟨rfl, rfl⟩
        go_wp2_with fail
        go_roundw
        case rel => exact ⟨trivial, j + 1, by omega, by omega, rfl, congrArg _ (by rw [hs.out]; omega)⟩
        case measure => simp [intOf]; omega
      · obtain rfl : j = m := by omega
        go_wp2_with fail
        go_ret2
        exact ⟨ret_ib (by simp [numV, hv'.out, num]; omega) rfl, rfl⟩

end Go.Proofs.Ytodkppeikpaclaa
