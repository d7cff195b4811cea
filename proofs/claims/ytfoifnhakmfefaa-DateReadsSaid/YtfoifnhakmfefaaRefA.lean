/- Contracts of the calendar functions of the reference tithingref03: each returns what the function of package date returns, and leaves the memory as it was. -/
import Derived.Test.YtfoifnhakmfefaaDayB
namespace Go.Proofs.Ytfoifnhakmfefaa
open Go.RowKit
open Cal
set_option linter.unusedVariables false

set_option maxHeartbeats 400000 in
theorem rLeap_any (y : Int) (h0 : 0 ≤ y) (w : World) :
    Calls Try.prog 52 #[.int .i64 y] w fun e w' => e = .returned (.bool (leapB y)) ∧ w = w' := by
  go_enter Try.func52, Try.ntmps52
  go_wp2
  all_goals go_ret
  all_goals exact ⟨ret_bool (by simp [leapB, *]), rfl⟩

set_option maxHeartbeats 1000000 in
theorem rDays_any (y m : Int) (h0 : 0 ≤ y) (w : World) :
    Calls Try.prog 38 #[.int .i64 y, .int .i64 m] w fun e w' => e = .returned (.int .i64 (dim y m)) ∧ w = w' := by
  by_cases hm : m = 2
  · subst hm
    cases hl : leapB y
    all_goals
      have hl' := Lib.hid hl
      clear hl
      go_enter Try.func38, Try.ntmps38
      go_wp2_with fail
      refine (rLeap_any _ h0 _).mono ?_
      rintro e w2 ⟨rfl, rfl⟩
      rw [hl'.out]
      go_wp2_with fail
      go_ret
      exact ⟨ret_int (by simp [dim, lp, hl'.out]), rfl⟩
  · have e2 : (m == 2) = false := by simp [hm]
    by_cases h4 : m = 4 ∨ m = 6 ∨ m = 9 ∨ m = 11
    · rcases h4 with rfl | rfl | rfl | rfl
      all_goals
        clear hm e2
        go_enter Try.func38, Try.ntmps38
        go_wp2_with fail
        go_ret
        exact ⟨rfl, rfl⟩
    · have hd := Lib.hid (show dim y m = 31 by unfold dim; rw [if_neg hm, if_neg h4])
      have k4 : (m == 4) = false := by simp; omega
      have k6 : (m == 6) = false := by simp; omega
      have k9 : (m == 9) = false := by simp; omega
      have k11 : (m == 11) = false := by simp; omega
      clear h4 hm
      go_enter Try.func38, Try.ntmps38
      go_wp2_with fail
      go_ret
      exact ⟨ret_int hd.out.symm, rfl⟩

set_option maxHeartbeats 1000000 in
theorem rValid_any (y m d : Int) (w : World) :
    Calls Try.prog 36 #[.int .i64 y, .int .i64 m, .int .i64 d] w fun e w' => e = .returned (.bool (validB y m d)) ∧ w = w' := by
  by_cases h1 : 1 ≤ y ∧ y ≤ 9999 ∧ 1 ≤ m ∧ m ≤ 12 ∧ 1 ≤ d
  · obtain ⟨h1, h2, h3, h4, h5⟩ := h1
    go_enter Try.func36, Try.ntmps36
    go_wp2_with fail
    refine (rDays_any _ _ (by omega) _).mono ?_
    rintro e w1 ⟨rfl, rfl⟩
    go_wp2_with fail
    go_ret
    exact ⟨ret_bool (by simp [validB, *]), rfl⟩
  · have hv := Lib.hid (valid_not (y := y) (m := m) (d := d) (fun h => h1 ⟨h.1, h.2.1, h.2.2.1, h.2.2.2.1, h.2.2.2.2.1⟩))
    have h1' := Lib.hid h1
    clear h1
    go_enter Try.func36, Try.ntmps36
    go_wp2_with fail
    all_goals first
      | (go_ret; exact ⟨ret_bool (by rw [hv.out]), rfl⟩)
      | (exfalso; exact h1'.out (by refine ⟨?_, ?_, ?_, ?_, ?_⟩ <;> omega))

set_option maxHeartbeats 400000 in
theorem rfirst_any (y : Int) (h0 : 1 ≤ y) (h1 : y ≤ 10000) (w : World) :
    Calls Try.prog 37 #[.int .i64 y] w fun e w' => e = .returned (.int .i64 (dby y)) ∧ w = w' := by
  go_enter Try.func37, Try.ntmps37
  go_wp2_with fail
  go_ret
  exact ⟨rfl, rfl⟩

set_option maxHeartbeats 1000000 in
theorem rNumber_any (y m d : Int) (w : World) :
    Calls Try.prog 15 #[.int .i64 y, .int .i64 m, .int .i64 d] w fun e w' => e = .returned (.tuple #[.int .i64 (numV y m d), .bool (validB y m d)]) ∧ w = w' := by
  cases hv : validB y m d
  · have hv' := Lib.hid hv
    clear hv
    go_enter Try.func15, Try.ntmps15
    go_wp2_with fail
    refine (rValid_any _ _ _ _).mono ?_
    rintro e w1 ⟨rfl, rfl⟩
    rw [hv'.out]
    go_wp2_with fail
    go_ret2
    exact ⟨ret_ib (by simp [numV, hv'.out]) rfl, rfl⟩
  · have hv' := Lib.hid hv
    clear hv
    obtain ⟨a1, a2, a3, a4, a5, a6⟩ := (valid_iff _ _ _).1 hv'.out
    have hd := dim_lo y m
    have hdb := dby_bd y a1 (by omega)
    go_enter Try.func15, Try.ntmps15
    go_wp2_with fail
    refine (rValid_any _ _ _ _).mono ?_
    rintro e w1 ⟨rfl, rfl⟩
    rw [hv'.out]
    go_wp2_with fail
    refine (rfirst_any _ a1 (by omega) _).mono ?_
    rintro e w2 ⟨rfl, rfl⟩
    go_wp2_with fail
    go_loopw [9, 10] (fun n k wr => w = wr ∧ ∃ j : Int, 1 ≤ j ∧ j ≤ m ∧ k = .int .i64 j ∧ n = .int .i64 (dby y + d - 1 + cum y j)) (fun _ k _ => (m - intOf k).toNat)
    case atStart => exact ⟨rfl, 1, by omega, by omega, rfl, by rw [cum_one]; simp⟩
    case round =>
      obtain ⟨rfl, j, hj1, hj2, rfl, rfl⟩ := hrel
      have hc := cum_bd y j hj1 (by omega)
      have hs := Lib.hid (cum_succ y j hj1 (by omega))
      have hdl := dim_lo y j
      by_cases hlt : j < m
      · go_wp2_with fail
        refine (rDays_any _ _ (by omega) _).mono ?_
        rintro e w3 ⟨rfl, rfl⟩
        go_wp2_with fail
        go_roundw
        case rel => exact ⟨trivial, j + 1, by omega, by omega, rfl, congrArg _ (by rw [hs.out]; omega)⟩
        case measure => simp [intOf]; omega
      · obtain rfl : j = m := by omega
        go_wp2_with fail
        go_ret2
        exact ⟨ret_ib (by simp [numV, hv'.out, num]; omega) rfl, rfl⟩

set_option maxHeartbeats 400000 in
theorem rright_any (n : Int) (w : World) : Calls Try.prog 41 #[.int .i64 n] w fun e w' => e = .returned (.bool (insideB n)) ∧ w = w' := by
  go_enter Try.func41, Try.ntmps41
  go_wp2
  all_goals go_ret
  all_goals exact ⟨ret_bool (by simp [insideB, *]; try omega), rfl⟩

set_option maxHeartbeats 1000000 in
theorem rCivil_any (n : Int) (w : World) : Calls Try.prog 18 #[.int .i64 n] w fun e w' => e = .returned (CivV n) ∧ w = w' := by
  cases hv : insideB n
  · have hv' := Lib.hid hv
    clear hv
    go_enter Try.func18, Try.ntmps18
    go_wp2_with fail
    refine (rright_any _ _).mono ?_
    rintro e w1 ⟨rfl, rfl⟩
    rw [hv'.out]
    go_wp2_with fail
    refine bodyPost_ret (results_t4 rfl _ _ _) rfl ?_
    exact ⟨ret_i3b (by simp [cyV, hv'.out]) (by simp [cmV, hv'.out]) (by simp [cdV, hv'.out]) hv'.out.symm, rfl⟩
  · have hv' := Lib.hid hv
    obtain ⟨h0, h1⟩ := (inside_iff _).1 hv
    clear hv
    obtain ⟨b1, b2, b3, b4, b5⟩ := civ_dby n h0 h1
    have hB := Lib.hid (show 1 ≤ civY n ∧ civY n ≤ 9999 from ⟨b4, b5⟩)
    clear b1 b2 b3 b4 b5
    go_enter Try.func18, Try.ntmps18
    go_wp2_with fail
    refine (rright_any _ _).mono ?_
    rintro e w1 ⟨rfl, rfl⟩
    rw [hv'.out]
    go_wp2_with fail
    go_loopw [6, 7] (fun a b wr => w = wr ∧ ∃ lo hi : Int, 1 ≤ lo ∧ lo ≤ hi ∧ hi ≤ 9999 ∧ a = .int .i64 lo ∧ b = .int .i64 hi ∧ dby lo ≤ n ∧ n < dby (hi + 1)) (fun a b _ => (intOf b - intOf a).toNat)
    case atStart => exact ⟨rfl, 1, 9999, by omega, by omega, by omega, rfl, rfl, by rw [dby_one]; omega, by rw [show (9999 : Int) + 1 = 10000 from rfl, dby_last]; omega⟩
    case round =>
      obtain ⟨rfl, lo, hi, g1, g2, g3, rfl, rfl, g4, g5⟩ := hrel
      by_cases hlt : lo < hi
      · by_cases hm : dby ((lo + hi + 1) / 2) ≤ n
        · have hm2 := hm
          go_wp2_with fail
          refine (rfirst_any _ (by omega) (by omega) _).mono ?_
          rintro e w2 ⟨rfl, rfl⟩
          go_wp2_with fail
          go_roundw
          case rel => exact ⟨trivial, _, hi, by omega, by omega, g3, rfl, rfl, hm2, g5⟩
          case measure => simp [intOf]; omega
        · have hm2 := Lib.hid hm
          go_wp2_with fail
          refine (rfirst_any _ (by omega) (by omega) _).mono ?_
          rintro e w2 ⟨rfl, rfl⟩
          go_wp2_with fail
          go_roundw
          case rel => exact ⟨trivial, lo, _, g1, by omega, by omega, rfl, rfl, g4, by rw [show (lo + hi + 1) / 2 - 1 + 1 = (lo + hi + 1) / 2 by omega]; have := hm2.out; omega⟩
          case measure => simp [intOf]; omega
      · obtain rfl : lo = hi := by omega
        obtain rfl := civY_unique h0 h1 g4 g5
        have hYb := hB.out
        have hdb := dby_bd (civY n) hYb.1 (by omega)
        clear g4 g5 g1 g2 g3
        go_wp2_with fail
        refine (rfirst_any _ (by omega) (by omega) _).mono ?_
        rintro e w2 ⟨rfl, rfl⟩
        go_wp2_with fail
        go_loopw [9, 10] (fun r m wr => w = wr ∧ ∃ k : Int, 1 ≤ k ∧ k ≤ 12 ∧ m = .int .i64 k ∧ 0 ≤ n - dby (civY n) - cum (civY n) k ∧ r = .int .i64 (n - dby (civY n) - cum (civY n) k)) (fun _ m _ => (12 - intOf m).toNat)
        case atStart =>
          refine ⟨rfl, 1, by omega, by omega, rfl, ?_, congrArg _ ?_⟩
          · have := civ_loop_bd n h0 h1; rw [cum_one]; omega
          · rw [cum_one]; omega
        case round =>
          obtain ⟨rfl, k, hk1, hk2, rfl, hr, rfl⟩ := hrel
          have hdl := dim_lo (civY n) k
          have hlb := civ_loop_bd n h0 h1
          have hcb := cum_bd (civY n) k hk1 hk2
          have hl := lp_01 (civY n)
          by_cases hge : dim (civY n) k ≤ n - dby (civY n) - cum (civY n) k
          · obtain ⟨s1, s2⟩ := civ_step h0 h1 hk1 hk2 hge
            have hs := Lib.hid s2
            clear s2
            go_wp2_with fail
            refine (rDays_any _ _ (by omega) _).mono ?_
            rintro e w1 ⟨rfl, rfl⟩
            go_wp2_with fail
            refine (rDays_any _ _ (by omega) _).mono ?_
            rintro e w2 ⟨rfl, rfl⟩
            go_wp2_with fail
            go_roundw
            case rel => exact ⟨trivial, k + 1, by omega, by omega, rfl, by rw [← hs.out]; omega, by rw [hs.out]⟩
            case measure => simp [intOf]; omega
          · go_wp2_with fail
            refine (rDays_any _ _ (by omega) _).mono ?_
            rintro e w1 ⟨rfl, rfl⟩
            go_wp2_with fail
            refine bodyPost_ret (results_t4 rfl _ _ _) rfl ?_
            have hm := civM_unique hk1 hk2 hr (by omega)
            exact ⟨ret_i3b (by simp [cyV, hv'.out]) (by simp [cmV, hv'.out, hm]) (by simp [cdV, hv'.out, civD, ← hm]) hv'.out.symm, rfl⟩

set_option maxHeartbeats 400000 in
theorem rWeekday_any (n : Int) (w : World) : Calls Try.prog 34 #[.int .i64 n] w fun e w' => e = .returned (.tuple #[.int .i64 (wdV n), .bool (insideB n)]) ∧ w = w' := by
  cases hv : insideB n
  all_goals
    have hv' := Lib.hid hv
    clear hv
  · go_enter Try.func34, Try.ntmps34
    go_wp2_with fail
    refine (rright_any _ _).mono ?_
    rintro e w1 ⟨rfl, rfl⟩
    rw [hv'.out]
    go_wp2_with fail
    go_ret2
    exact ⟨ret_ib (by simp [wdV, hv'.out]) rfl, rfl⟩
  · obtain ⟨a1, a2⟩ := (inside_iff _).1 hv'.out
    go_enter Try.func34, Try.ntmps34
    go_wp2_with fail
    refine (rright_any _ _).mono ?_
    rintro e w1 ⟨rfl, rfl⟩
    rw [hv'.out]
    go_wp2_with fail
    go_ret2
    exact ⟨ret_ib (by simp [wdV, hv'.out]; omega) rfl, rfl⟩

set_option maxHeartbeats 400000 in
theorem rAdd_any (n k : Int) (w : World) : Calls Try.prog 32 #[.int .i64 n, .int .i64 k] w fun e w' => e = .returned (.tuple #[.int .i64 (addV n k), .bool (addB n k)]) ∧ w = w' := by
  by_cases h : 0 ≤ n ∧ n ≤ 3652058
  · have hi := Lib.hid ((inside_iff n).2 h)
    obtain ⟨h0, h1⟩ := h
    by_cases hk : -3652058 ≤ k ∧ k ≤ 3652058
    · obtain ⟨hk0, hk1⟩ := hk
      by_cases hs : 0 ≤ n + k ∧ n + k ≤ 3652058
      · have hj := Lib.hid ((inside_iff (n + k)).2 hs)
        have ha := Lib.hid ((addB_iff n k).2 ⟨h0, h1, hs.1, hs.2⟩)
        clear hs
        go_enter Try.func32, Try.ntmps32
        go_wp2_with fail
        refine (rright_any _ _).mono ?_
        rintro e w1 ⟨rfl, rfl⟩
        rw [hi.out]
        go_wp2_with fail
        refine (rright_any _ _).mono ?_
        rintro e w1 ⟨rfl, rfl⟩
        rw [hj.out]
        go_wp2_with fail
        go_ret2
        exact ⟨ret_ib (by simp [addV, ha.out]) ha.out.symm, rfl⟩
      · have hj := Lib.hid (inside_not hs)
        have ha := Lib.hid (addB_not (n := n) (k := k) (fun h => hs ⟨h.2.2.1, h.2.2.2⟩))
        clear hs
        go_enter Try.func32, Try.ntmps32
        go_wp2_with fail
        refine (rright_any _ _).mono ?_
        rintro e w1 ⟨rfl, rfl⟩
        rw [hi.out]
        go_wp2_with fail
        refine (rright_any _ _).mono ?_
        rintro e w1 ⟨rfl, rfl⟩
        rw [hj.out]
        go_wp2_with fail
        go_ret2
        exact ⟨ret_ib (by simp [addV, ha.out]) ha.out.symm, rfl⟩
    · have ha := Lib.hid (addB_not (n := n) (k := k) (fun h => hk ⟨by omega, by omega⟩))
      have hk' : k < -3652058 ∨ 3652058 < k := by omega
      clear hk
      rcases hk' with hk | hk
      all_goals
        go_enter Try.func32, Try.ntmps32
        go_wp2_with fail
        refine (rright_any _ _).mono ?_
        rintro e w1 ⟨rfl, rfl⟩
        rw [hi.out]
        go_wp2_with fail
        go_ret2
        exact ⟨ret_ib (by simp [addV, ha.out]) ha.out.symm, rfl⟩
  · have hi := Lib.hid (inside_not h)
    have ha := Lib.hid (addB_not (n := n) (k := k) (fun h' => h ⟨h'.1, h'.2.1⟩))
    clear h
    go_enter Try.func32, Try.ntmps32
    go_wp2_with fail
    refine (rright_any _ _).mono ?_
    rintro e w1 ⟨rfl, rfl⟩
    rw [hi.out]
    go_wp2_with fail
    go_ret2
    exact ⟨ret_ib (by simp [addV, ha.out]) ha.out.symm, rfl⟩
end Go.Proofs.Ytfoifnhakmfefaa
