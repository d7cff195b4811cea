/- Plain: what Made makes covers; the end of a term that Count finds. -/
import Derived.Test.YtodkppeikpaclaaSpnI
import Derived.Test.YtodkppeikpaclaaSpnN
namespace Go.Proofs.Ytodkppeikpaclaa
open Spn
set_option linter.unusedVariables false

theorem made_has' {l : List Sp} (h : ∀ s ∈ l, madeP s) {d : Int} (h1 : 70 ≤ d) (h2 : d < 3652039) : hasB l d = false := by
  cases hh : hasB l d
  · rfl
  · obtain ⟨s, hs, hr, a, b⟩ := (hasB_iff l d).1 hh
    obtain ⟨c1, c2, c3⟩ := h s hs
    omega
theorem cnt_of {l : List Sp} {d n : Int} (h : cntOk l d n = true) : Term l d n (cntN l d n) ∧ cntN l d n ≤ 3652058 ∧ 0 ≤ n ∧ 0 ≤ d := by
  have h' := h
  simp only [cntOk, cntIn, Bool.and_eq_true, decide_eq_true_eq] at h'
  have e : cntN l d n = endT l d n := by simp [cntN, h, endT]
  rw [e]
  exact ⟨endT_term l (by omega), h'.2, by omega, by omega⟩
theorem cnt_have {l : List Sp} {d n : Int} (h : 0 ≤ d ∧ d ≤ 3652058) (h' : 0 ≤ n ∧ n ≤ 3652058) (he : endT l d n ≤ 3652058) : cntOk l d n = true ∧ cntN l d n = endT l d n := (cnt_yes h h').1 he
/-- near the first days, a term ends soon -/
theorem end_near {l : List Sp} (h : ∀ s ∈ l, madeP s) {d n e : Int} (ht : Term l d n e) (h0 : 0 ≤ d) (hd : d ≤ 10000) (n0 : 0 ≤ n) (hn : n ≤ 10000) : e ≤ d + 70 + n := by
  have := ht.near n0 (k := max d 70) (by omega) fun x h1 h2 => made_has' h (by omega) (by omega)
  omega
theorem free_next {l : List Sp} {d : Int} (j : Nat) : cntD (freeB l) d (j + 1) = cntD (freeB l) d j + (if hasB l (d + j) = true then 0 else 1) := by
  rw [cntD, freeB]
  cases hasB l (d + j) <;> rfl
end Go.Proofs.Ytodkppeikpaclaa
