/- Contracts of the calendar functions of package date, second part: Number, Civil, Weekday, Add, Months, for every number. -/
import Derived.Test.YtodkppeikpaclaaDayA
import Derived.Deep.DeepCutAuto
namespace Go.Proofs.Ytodkppeikpaclaa
open Go.RowKit
open Cal
set_option linter.unusedVariables false

theorem results_t4 {fn : Func} {t u v x : Tmp} (h : fn.results = #[.tmp t, .tmp u, .tmp v, .tmp x]) (tmps : Array Value) (P : Program) (w : World) :
    (results fn tmps).run P w = .ok (.tuple #[tmps.getD t undef, tmps.getD u undef, tmps.getD v undef, tmps.getD x undef]) w := by simp [results, h]
theorem ret_i3b {a b c a' b' c' : Int} {d d' : Bool} (h1 : a = a') (h2 : b = b') (h3 : c = c') (h4 : d = d') :
    Ending.returned (.tuple #[.int .i64 a, .int .i64 b, .int .i64 c, .bool d]) = .returned (.tuple #[.int .i64 a', .int .i64 b', .int .i64 c', .bool d']) := by rw [h1, h2, h3, h4]

set_option maxHeartbeats 400000 in
theorem inside_any (n : Int) (w : World) : Calls Try.prog 48 #[.int .i64 n] w fun e w' => e = .returned (.bool (insideB n)) ∧ w = w' := by
  go_enter Try.func48, Try.ntmps48
  go_wp2
  all_goals go_ret
  all_goals exact ⟨ret_bool (by simp [insideB, *]; try omega), rfl⟩

set_option maxHeartbeats 400000 in
theorem Number_any (y m d : Int) (w : World) :
    Calls Try.prog 46 #[.int .i64 y, .int .i64 m, .int .i64 d] w (Gives w (.tuple #[.int .i64 (numV y m d), .bool (validB y m d)])) := by
  cases hv : validB y m d
  all_goals
    have hV := Lib.hid (show numV y m d = _ from rfl)
    unfold numV at hV
    have hv' := Lib.hid hv
    go_enter Try.func46, Try.ntmps46
    go_wp2_with fail
    refine (valid_any _ _ _ _).mono ?_
    rintro e w1 ⟨rfl, hb⟩
    rw [hv'.out]
    go_wp2_with fail
  · go_ret2
    exact ⟨ret_ib (by simp [numV, hv'.out]) rfl, hb⟩
  · obtain ⟨a1, a2, a3, a4, a5, a6⟩ := (valid_iff _ _ _).1 hv'.out
    have hd := dim_lo y m
    refine (number_any y m d a1 a2 a3 a4 a5 (by omega) _).mono ?_
    rintro e w2 ⟨rfl, hb2⟩
    go_wp2_with fail
    go_ret2
    exact ⟨ret_ib (by simp [numV, hv'.out]) rfl, hb.trans (hb2.mono hb.size)⟩

def CivV (n : Int) : Value := .tuple #[.int .i64 (cyV n), .int .i64 (cmV n), .int .i64 (cdV n), .bool (insideB n)]
theorem civ_loop_bd (n : Int) (h0 : 0 ≤ n) (h1 : n ≤ 3652058) : 0 ≤ n - dby (civY n) ∧ n - dby (civY n) < 365 + lp (civY n) := by
  obtain ⟨a, b, c, d, e⟩ := civ_dby n h0 h1; omega
theorem civ_step {n m : Int} (h0 : 0 ≤ n) (h1 : n ≤ 3652058) (h2 : 1 ≤ m) (h3 : m ≤ 12) (h : dim (civY n) m ≤ n - dby (civY n) - cum (civY n) m) : m + 1 ≤ 12 ∧ n - dby (civY n) - cum (civY n) m - dim (civY n) m = n - dby (civY n) - cum (civY n) (m + 1) := by
  have hs := cum_succ (civY n) m h2 h3
  have hb := civ_loop_bd n h0 h1
  refine ⟨?_, by omega⟩
  rcases Int.lt_or_le m 12 with hm | hm
  · omega
  · obtain rfl : m = 12 := by omega
    have := cum_thirteen (civY n)
    simp only [show (12 : Int) + 1 = 13 from rfl] at hs
    omega
set_option maxHeartbeats 1000000 in
theorem Civil_any (n : Int) (w : World) : Calls Try.prog 35 #[.int .i64 n] w (Gives w (CivV n)) := by
  cases hv : insideB n
  · have hv' := Lib.hid hv
    clear hv
    go_enter Try.func35, Try.ntmps35
    go_wp2_with fail
    refine (inside_any _ _).mono ?_
    rintro e w1 ⟨rfl, rfl⟩
    rw [hv'.out]
    go_wp2_with fail
    refine bodyPost_ret (results_t4 rfl _ _ _) rfl ?_
    exact ⟨ret_i3b (by simp [cyV, hv'.out]) (by simp [cmV, hv'.out]) (by simp [cdV, hv'.out]) hv'.out.symm, Below.refl _ _⟩
  · have hv' := Lib.hid hv
    obtain ⟨h0, h1⟩ := (inside_iff _).1 hv
    clear hv
    obtain ⟨a1, a2, a3, a4, a5, a6, a7, a8, a9, a10, a11, a12, a13, a14, a15, a16⟩ := civ_parts n h0 h1
    obtain ⟨b1, b2, b3, b4, b5⟩ := civ_dby n h0 h1
    have eR := Lib.hid b1
    have e1 : Hid (min (n % 146097 / 36524) 3 = cC n) := Lib.hid rfl
    have e2 : Hid (n % 146097 - cC n * 36524 = cS n) := Lib.hid rfl
    have e3 : Hid (cS n / 1461 = cF n) := Lib.hid rfl
    have e4 : Hid (cS n % 1461 = cT n) := Lib.hid rfl
    have e5 : Hid (min (cT n / 365) 3 = cK n) := Lib.hid rfl
    have e6 : Hid (n / 146097 = cQ n) := Lib.hid rfl
    have e7 : Hid (cT n - cK n * 365 = civR n) := Lib.hid rfl
    have e8 : Hid (400 * cQ n + 100 * cC n + 4 * cF n + cK n + 1 = civY n) := Lib.hid rfl
    have hS0 : 0 ≤ n % 146097 - cC n * 36524 := a10
    have hS1 : n % 146097 - cC n * 36524 ≤ 36524 := a11
    have hB := Lib.hid (show 1 ≤ civY n ∧ civY n ≤ 9999 from ⟨b4, b5⟩)
    have hS0 : 0 ≤ n % 146097 - cC n * 36524 := a10
    have hS1 : n % 146097 - cC n * 36524 ≤ 36524 := a11
    have hB := Lib.hid (show 1 ≤ civY n ∧ civY n ≤ 9999 from ⟨b4, b5⟩)
    clear a1 a2 a3 a6 a7 a10 a11 a12 a13 a16 b1 a14 a15 b2 b3 b4 b5
    go_enter Try.func35, Try.ntmps35
    go_wp2_with fail
    refine (inside_any _ _).mono ?_
    rintro e w1 ⟨rfl, rfl⟩
    rw [hv'.out]
    go_upto_region 4 with fail
    go_cut [7] (fun c wx => c = .int .i64 (cC n) ∧ w = wx)
    case first =>
      go_wp2_with fail
      all_goals (go_meet; exact ⟨congrArg _ (by have := e1.out; omega), rfl⟩)
    obtain ⟨rfl, rfl⟩ := hcut
    go_upto_region 7 with fail
    go_cut [9] (fun c wx => c = .int .i64 (cK n) ∧ w = wx)
    case first =>
      go_wp2_with fail
      all_goals (go_meet; exact ⟨congrArg _ (by have := e2.out; have := e4.out; have := e5.out; omega), rfl⟩)
    obtain ⟨rfl, rfl⟩ := hcut
    have eYY := Lib.hid (show 400 * (n / 146097) + 100 * cC n + 4 * ((n % 146097 - cC n * 36524) / 1461) + cK n + 1 = civY n from rfl)
    go_wp2_with fail
    rw [eYY.out]
    go_loopw [0, 3] (fun r m wr => Below w.heap.size w wr ∧ ∃ k : Int, 1 ≤ k ∧ k ≤ 12 ∧ m = .int .i64 k ∧ 0 ≤ n - dby (civY n) - cum (civY n) k ∧ r = .int .i64 (n - dby (civY n) - cum (civY n) k)) (fun _ m _ => (12 - intOf m).toNat)
    case atStart =>
      refine ⟨Below.refl _ _, 1, by omega, by omega, rfl, ?_, congrArg _ ?_⟩
      · have := civ_loop_bd n h0 h1; rw [cum_one]; omega
      · have := eR.out; have := e2.out; have := e4.out; have := e7.out; rw [cum_one]; omega
    case round =>
      obtain ⟨hb, k, hk1, hk2, rfl, hr, rfl⟩ := hrel
      have hY := hB.out
      have hdl := dim_lo (civY n) k
      have hlb := civ_loop_bd n h0 h1
      have hcb := cum_bd (civY n) k hk1 hk2
      have hl := lp_01 (civY n)
      clear hS0 hS1
      by_cases hge : dim (civY n) k ≤ n - dby (civY n) - cum (civY n) k
      · obtain ⟨s1, s2⟩ := civ_step h0 h1 hk1 hk2 hge
        have hs := Lib.hid s2
        clear s2
        go_wp2_with fail
        refine (days_any _ _ (by omega) hk1 hk2 _).mono ?_
        rintro e w1 ⟨rfl, hb1⟩
        go_wp2_with fail
        refine (days_any _ _ (by omega) hk1 hk2 _).mono ?_
        rintro e w2 ⟨rfl, hb2⟩
        go_wp2_with fail
        go_roundw
        case rel => exact ⟨(hb.trans (hb1.mono hb.size)).trans (hb2.mono (Nat.le_trans hb.size hb1.size)), k + 1, by omega, by omega, rfl, by rw [← hs.out]; omega, by rw [hs.out]⟩
        case measure => simp [intOf]; omega
      · go_wp2_with fail
        refine (days_any _ _ (by omega) hk1 hk2 _).mono ?_
        rintro e w1 ⟨rfl, hb1⟩
        go_wp2_with fail
        refine bodyPost_ret (results_t4 rfl _ _ _) rfl ?_
        have hm := civM_unique hk1 hk2 hr (by omega)
        exact ⟨ret_i3b (by simp [cyV, hv'.out]) (by simp [cmV, hv'.out, hm]) (by simp [cdV, hv'.out, civD, ← hm]) hv'.out.symm, hb.trans (hb1.mono hb.size)⟩

theorem months_fin {n k X : Int} (h : mOkB n k = true) (hX : X = min (civD n) (dim ((12 * (civY n - 1) + civM n - 1 + k) / 12 + 1) ((12 * (civY n - 1) + civM n - 1 + k) % 12 + 1))) :
    numV ((12 * (civY n - 1) + civM n - 1 + k) / 12 + 1) ((12 * (civY n - 1) + civM n - 1 + k) % 12 + 1) X = mV n k ∧ validB ((12 * (civY n - 1) + civM n - 1 + k) / 12 + 1) ((12 * (civY n - 1) + civM n - 1 + k) % 12 + 1) X = true := by
  subst hX; exact ⟨months_num h, months_valid h⟩
end Go.Proofs.Ytodkppeikpaclaa
