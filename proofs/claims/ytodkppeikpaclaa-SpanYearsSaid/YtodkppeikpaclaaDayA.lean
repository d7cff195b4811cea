/- Contracts of the calendar functions of package date: what each returns, for every number (each contract names its bounds). -/
import Derived.Test.YtodkppeikpaclaaRows
import Derived.Test.YtodkppeikpaclaaCal
import Derived.WalkKit
import Derived.WalkSpells
import Derived.WalkLawsBesides
import Derived.Lib.Hide
namespace Go.Proofs.Ytodkppeikpaclaa
open Go.RowKit
open Cal
set_option linter.unusedVariables false

theorem ret_int {k : IntKind} {a b : Int} (h : a = b) : Ending.returned (.int k a) = .returned (.int k b) := by rw [h]
theorem ret_bool {a b : Bool} (h : a = b) : Ending.returned (.bool a) = .returned (.bool b) := by rw [h]
theorem ret_ib {a b : Int} {c d : Bool} (h : a = b) (h' : c = d) : Ending.returned (.tuple #[.int .i64 a, .bool c]) = .returned (.tuple #[.int .i64 b, .bool d]) := by rw [h, h']

/-- what a function that makes memory leaves: this result, and nothing old has turned -/
def Gives (w : World) (v : Value) (e : Ending) (w' : World) : Prop := e = .returned v ∧ Below w.heap.size w w'
theorem Gives.mk {w w' : World} {v : Value} {e : Ending} (h : e = .returned v) (hb : Below w.heap.size w w') : Gives w v e w' := ⟨h, hb⟩

def LengthsPost (w : World) (e : Ending) (w' : World) : Prop := ∃ b, e = .returned (.slice (some ⟨b, 0, none⟩) 12 12) ∧ w.heap.size ≤ b ∧ (∀ k : Nat, k < 12 → w'.cell? ⟨b, k, none⟩ = some (.int .i64 (len12 k))) ∧ Below w.heap.size w w'
set_option maxHeartbeats 400000 in
theorem lengths_any (w : World) : Calls Try.prog 58 #[] w (LengthsPost w) := by
  go_enter Try.func58, Try.ntmps58
  go_wp2
  go_ret
  refine ⟨w.heap.size, rfl, Nat.le_refl _, ?_, (Below.refl _ _).alloc (Nat.le_refl _) _⟩
  intro k hk
  rw [cell_of_row _ _ _ _ _ _ (heap_alloc_new w _)]
  have : k = 0 ∨ k = 1 ∨ k = 2 ∨ k = 3 ∨ k = 4 ∨ k = 5 ∨ k = 6 ∨ k = 7 ∨ k = 8 ∨ k = 9 ∨ k = 10 ∨ k = 11 := by omega
  rcases this with rfl | rfl | rfl | rfl | rfl | rfl | rfl | rfl | rfl | rfl | rfl | rfl <;> rfl

set_option maxHeartbeats 400000 in
theorem leap_any (y : Int) (h0 : 0 ≤ y) (w : World) :
    Calls Try.prog 59 #[.int .i64 y] w fun e w' => e = .returned (.bool (leapB y)) ∧ w = w' := by
  go_enter Try.func59, Try.ntmps59
  go_wp2
  all_goals go_ret
  all_goals exact ⟨ret_bool (by simp [leapB, *]), rfl⟩

set_option maxHeartbeats 400000 in
theorem days_any (y m : Int) (h0 : 0 ≤ y) (h1 : 1 ≤ m) (h2 : m ≤ 12) (w : World) :
    Calls Try.prog 49 #[.int .i64 y, .int .i64 m] w (Gives w (.int .i64 (dim y m))) := by
  have hd := Lib.hid (dim_len y m h1 h2)
  have hbd := len12_bd ((m + 9) % 12).toNat
  by_cases hm : m = 2
  · subst hm
    have hbd2 := len12_bd 11
    cases hl : leapB y
    all_goals
      have hl' := Lib.hid hl
      clear hl
      go_enter Try.func49, Try.ntmps49
      go_wp2_with fail
      refine (lengths_any _).mono ?_
      rintro e w1 ⟨b, rfl, hb0, hc, hb⟩
      have hcell := hc 11 (by omega)
      clear hc
      go_wp2_with fail
      refine (leap_any _ h0 _).mono ?_
      rintro e w2 ⟨rfl, rfl⟩
      rw [hl'.out]
      go_wp2_with fail
      go_ret
      exact ⟨ret_int (by rw [hd.out]; simp [lp, hl'.out, len12]; try rfl), hb⟩
  · go_enter Try.func49, Try.ntmps49
    go_wp2_with fail
    refine (lengths_any _).mono ?_
    rintro e w1 ⟨b, rfl, hb0, hc, hb⟩
    have hcell := hc ((m + 9) % 12).toNat (by omega)
    clear hc
    go_wp2_with fail
    go_ret
    exact ⟨ret_int (by rw [hd.out]; simp [hm]), hb⟩

set_option maxHeartbeats 1000000 in
theorem valid_any (y m d : Int) (w : World) :
    Calls Try.prog 53 #[.int .i64 y, .int .i64 m, .int .i64 d] w (Gives w (.bool (validB y m d))) := by
  by_cases h1 : 1 ≤ y ∧ y ≤ 9999 ∧ 1 ≤ m ∧ m ≤ 12 ∧ 1 ≤ d
  · obtain ⟨h1, h2, h3, h4, h5⟩ := h1
    go_enter Try.func53, Try.ntmps53
    go_wp2_with fail
    refine (days_any _ _ (by omega) h3 h4 _).mono ?_
    rintro e w1 ⟨rfl, hb⟩
    go_wp2_with fail
    go_ret
    exact ⟨ret_bool (by simp [validB, *]), hb⟩
  · have hv := Lib.hid (valid_not (y := y) (m := m) (d := d) (fun h => h1 ⟨h.1, h.2.1, h.2.2.1, h.2.2.2.1, h.2.2.2.2.1⟩))
    have h1' := Lib.hid h1
    clear h1
    go_enter Try.func53, Try.ntmps53
    go_wp2_with fail
    all_goals first
      | (go_ret; exact ⟨ret_bool (by rw [hv.out]), Below.refl _ _⟩)
      | (exfalso; exact h1'.out (by refine ⟨?_, ?_, ?_, ?_, ?_⟩ <;> omega))

def NumberPost (w : World) (v : Int) (e : Ending) (w' : World) : Prop := e = .returned (.int .i64 v) ∧ Below w.heap.size w w'
theorem number_fin {y m d a c : Int} (h3 : 1 ≤ m) (h4 : m ≤ 12) (ha : a = (if m < 3 then y - 1 else y)) (hc : c = 365 * a + a / 4 - a / 100 + a / 400 + mar ((m + 9) % 12).toNat) : c + d - 1 - 306 = num y m d := by
  rw [← num_mar y m d h3 h4, hc, ha]
set_option maxHeartbeats 1000000 in
theorem number_any (y m d : Int) (h1 : 1 ≤ y) (h2 : y ≤ 9999) (h3 : 1 ≤ m) (h4 : m ≤ 12) (h5 : 1 ≤ d) (h6 : d ≤ 31) (w : World) :
    Calls Try.prog 54 #[.int .i64 y, .int .i64 m, .int .i64 d] w (Gives w (.int .i64 (num y m d))) := by
  obtain ⟨a, ha⟩ : ∃ a, a = (if m < 3 then y - 1 else y) := ⟨_, rfl⟩
  have hfin := Lib.hid (fun c => number_fin (y := y) (m := m) (d := d) (a := a) (c := c) h3 h4 ha)
  obtain ⟨K, hK⟩ : ∃ K, K = ((m + 9) % 12).toNat := ⟨_, rfl⟩
  have hK' := Lib.hid hK
  have hKm : K ≤ 11 := by omega
  by_cases hm : m < 3
  all_goals
    simp only [hm, if_true, if_false] at ha
    clear hK
    have ha' := Lib.hid ha.symm
    clear ha
    go_enter Try.func54, Try.ntmps54
    go_wp2_with fail
    refine (lengths_any _).mono ?_
    rintro e w1 ⟨b, rfl, hb0, hc, hb⟩
    go_wp2_with fail
    go_loop [7, 31] (fun n i => ∃ k : Nat, k ≤ K ∧ i = .int .i64 k ∧ n = .int .i64 (365 * a + a / 4 - a / 100 + a / 400 + mar k)) (fun _ i => K - (intOf i).toNat)
    case atStart => exact ⟨0, Nat.zero_le _, rfl, by rw [← ha'.out]; simp [mar]⟩
    case round =>
      obtain ⟨k, hk, rfl, rfl⟩ := hrel
      have hmb := mar_bd k (by omega)
      have hlb := len12_bd k
      have hms := Lib.hid (mar_succ k (by omega))
      have hbd : -1 ≤ a ∧ a ≤ 10000 := by have := ha'.out; omega
      by_cases hlt : k < K
      · have hcell := hc k (by omega)
        clear hc
        have hlt' : (k : Int) < max ((m + 9) % 12) 0 := by have := hK'.out; omega
        go_wp2_with fail
        go_round
        case rel => exact ⟨k + 1, by omega, by go_num, by rw [hms.out]; go_num⟩
        case measure => simp [intOf]; omega
      · have hge : ¬ (k : Int) < max ((m + 9) % 12) 0 := by have := hK'.out; omega
        obtain rfl : k = K := by omega
        clear hc
        go_wp2_with fail
        go_ret
        exact ⟨ret_int (hfin.out _ (by rw [← hK'.out])), hb⟩
end Go.Proofs.Ytodkppeikpaclaa
