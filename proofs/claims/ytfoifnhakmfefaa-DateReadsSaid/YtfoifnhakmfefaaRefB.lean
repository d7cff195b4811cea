/- Contracts of the reference's Months and of its texts; each theorem names its conditions. -/
import Derived.Test.YtfoifnhakmfefaaRefA
import Derived.Test.YtfoifnhakmfefaaDayB
namespace Go.Proofs.Ytfoifnhakmfefaa
open Go.RowKit
open Cal
set_option linter.unusedVariables false

theorem rmonths_fin {n k A X : Int} (h : mOkB n k = true) (hA : A = 12 * civY n + civM n - 1 + k) (hX : X = min (civD n) (dim (A / 12) (A % 12 + 1))) :
    numV (A / 12) (A % 12 + 1) X = mV n k ∧ validB (A / 12) (A % 12 + 1) X = true := by
  have e1 : A / 12 = mAt n k / 12 + 1 := by unfold mAt; omega
  have e2 : A % 12 + 1 = mAt n k % 12 + 1 := by unfold mAt; omega
  rw [e1, e2] at hX ⊢
  subst hX; exact ⟨months_num h, months_valid h⟩
set_option maxHeartbeats 1000000 in
theorem rMonths_any (n k : Int) (w : World) : Calls Try.prog 20 #[.int .i64 n, .int .i64 k] w fun e w' => e = .returned (.tuple #[.int .i64 (mV n k), .bool (mOkB n k)]) ∧ w = w' := by
  by_cases h : 0 ≤ n ∧ n ≤ 3652058
  · have hi := Lib.hid ((inside_iff n).2 h)
    obtain ⟨h0, h1⟩ := h
    have hbd := civ_bd n h0 h1
    have cv := Lib.hid (show CivV n = .tuple #[.int .i64 (civY n), .int .i64 (civM n), .int .i64 (civD n), .bool true] by simp [CivV, cyV, cmV, cdV, hi.out])
    by_cases hk : -120000 ≤ k ∧ k ≤ 120000
    · obtain ⟨hk0, hk1⟩ := hk
      by_cases ha : 12 ≤ 12 * civY n + civM n - 1 + k ∧ 12 * civY n + civM n - 1 + k < 120000
      · have ho := Lib.hid ((mOk_iff n k).2 ⟨h0, h1, by unfold mAt; omega, by unfold mAt; omega⟩)
        obtain ⟨ha0, ha1⟩ := ha
        go_enter Try.func20, Try.ntmps20
        go_wp2_with fail
        refine (rCivil_any _ _).mono ?_
        rintro e w1 ⟨rfl, rfl⟩
        rw [cv.out]
        go_wp2_with fail
        refine (rDays_any _ _ (by omega) _).mono ?_
        rintro e w2 ⟨rfl, rfl⟩
        go_wp2_with fail
        all_goals
          refine (rNumber_any _ _ _ _).mono ?_
          rintro e w3 ⟨rfl, rfl⟩
          go_wp2_with fail
          go_ret2
          have hf := rmonths_fin (n := n) (k := k) ho.out rfl (show _ = min (civD n) (dim ((12 * civY n + civM n - 1 + k) / 12) ((12 * civY n + civM n - 1 + k) % 12 + 1)) from by first | (rw [Int.min_eq_left (by assumption)]) | (rw [Int.min_eq_right (by omega)]))
          exact ⟨ret_ib hf.1 (hf.2.trans ho.out.symm), rfl⟩
      · have ho := Lib.hid (mOk_not (n := n) (k := k) (fun h => ha (by have := h.2.2; unfold mAt at this; omega)))
        have ha' : 12 * civY n + civM n - 1 + k < 12 ∨ 120000 ≤ 12 * civY n + civM n - 1 + k := by omega
        clear ha
        rcases ha' with ha | ha
        all_goals
          go_enter Try.func20, Try.ntmps20
          go_wp2_with fail
          refine (rCivil_any _ _).mono ?_
          rintro e w1 ⟨rfl, rfl⟩
          rw [cv.out]
          go_wp2_with fail
          go_ret2
          exact ⟨ret_ib (by simp [mV, ho.out]) ho.out.symm, rfl⟩
    · have hm := mAt_bd n k h0 h1
      have ho := Lib.hid (mOk_not (n := n) (k := k) (fun h => hk ⟨by omega, by omega⟩))
      have hk' : k < -120000 ∨ 120000 < k := by omega
      clear hk hm
      rcases hk' with hk | hk
      all_goals
        go_enter Try.func20, Try.ntmps20
        go_wp2_with fail
        refine (rCivil_any _ _).mono ?_
        rintro e w1 ⟨rfl, rfl⟩
        rw [cv.out]
        go_wp2_with fail
        go_ret2
        exact ⟨ret_ib (by simp [mV, ho.out]) ho.out.symm, rfl⟩
  · have hi := Lib.hid (inside_not h)
    have ho := Lib.hid (mOk_not (n := n) (k := k) (fun h' => h ⟨h'.1, h'.2.1⟩))
    have cv := Lib.hid (show CivV n = .tuple #[.int .i64 0, .int .i64 0, .int .i64 0, .bool false] by simp [CivV, cyV, cmV, cdV, hi.out])
    clear h
    go_enter Try.func20, Try.ntmps20
    go_wp2_with fail
    refine (rCivil_any _ _).mono ?_
    rintro e w1 ⟨rfl, rfl⟩
    rw [cv.out]
    go_wp2_with fail
    go_ret2
    exact ⟨ret_ib (by simp [mV, ho.out]) ho.out.symm, rfl⟩
end Go.Proofs.Ytfoifnhakmfefaa
