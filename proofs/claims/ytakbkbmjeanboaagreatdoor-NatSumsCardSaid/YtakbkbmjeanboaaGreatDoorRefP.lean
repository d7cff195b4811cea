/- Right and small of the reference implementation. Each theorem names its conditions. -/
import Derived.Test.YtakbkbmjeanboaaGreatDoorRefO
namespace Go.Proofs.YtakbkbmjeanboaaGreatDoor
open Go.RowKit Go.Shelf
open Dgt
set_option linter.unusedVariables false

def smallB (m b : Nat) : Bool := decide ((encS m).size ≤ b)
def smallV (m b : Nat) : Nat := if smallB m b = true then m else 0
theorem small_no {m b : Nat} (h : b < (encS m).size) : smallB m b = false ∧ smallV m b = 0 := by
  have h1 : smallB m b = false := by simp only [smallB, decide_eq_false_iff_not]; omega
  exact ⟨h1, by rw [smallV, h1]; rfl⟩
theorem small_yes {m b : Nat} (h : (encS m).size ≤ b) (hb : b ≤ 7) : smallB m b = true ∧ smallV m b = m ∧ m < 256 ^ b ∧ m < 9223372036854775808 := by
  have h1 : smallB m b = true := by simp only [smallB, decide_eq_true_eq]; exact h
  refine ⟨h1, by rw [smallV, if_pos h1], ?_, size_less (by omega)⟩
  have hl := digs_lt (B := 256) (by decide) m
  rw [← encS_size] at hl
  exact Nat.lt_of_lt_of_le hl (Nat.pow_le_pow_right (by decide) h)
set_option maxHeartbeats 1000000 in
theorem small_any (a : ByteArray) (b : Nat) (w : World) (ha : a.size ≤ 100000000) (hb : b ≤ 7) :
    Calls Tryz.prog 42 #[.string a, .int .i64 (b : Int)] w fun e w' => e = .returned (.tuple #[.int .i64 ((smallV (numS a) b : Nat) : Int), .bool (smallB (numS a) b)]) ∧ w = w' := by
  have HC := Lib.hid (Canon_any a · ha)
  have HI := Lib.hid (rInt_any a · ha)
  have hl := encS_len_le a
  obtain ⟨m, hm⟩ : ∃ m, numS a = m := ⟨_, rfl⟩
  rw [hm] at HC HI hl ⊢
  obtain ⟨c, hc⟩ : ∃ c, encS m = c := ⟨_, rfl⟩
  rw [hc] at HC
  by_cases h : c.size ≤ b
  · have hy := small_yes (m := m) (b := b) (by rw [hc]; exact h) hb
    have HE := Lib.hid hy
    have HJ := Lib.hid (int_yes hy.2.2.2)
    have h' : ¬ (b : Int) < (c.size : Int) := by omega
    clear hm hl ha hc h hy hb
    go_enter Tryz.func42, Tryz.ntmps42
    go_wp2_with fail
    refine (HC.out _).mono ?_
    rintro e w1 ⟨rfl, rfl⟩
    go_wp2_with fail
    refine (HI.out _).mono ?_
    rintro e w1 ⟨rfl, rfl⟩
    rw [HJ.out.1, HJ.out.2]
    go_wp2_with fail
    go_ret2
    exact ⟨by rw [HE.out.1, HE.out.2.1]; rfl, rfl⟩
  · have HE := Lib.hid (small_no (m := m) (b := b) (by rw [hc]; omega))
    have h' : (b : Int) < (c.size : Int) := by omega
    clear hm hl ha hc h hb
    go_enter Tryz.func42, Tryz.ntmps42
    go_wp2_with fail
    refine (HC.out _).mono ?_
    rintro e w1 ⟨rfl, rfl⟩
    go_wp2_with fail
    go_ret2
    exact ⟨by rw [HE.out.1, HE.out.2]; rfl, rfl⟩
set_option maxHeartbeats 1000000 in
theorem rRight_any (a : ByteArray) (w : World) (ha : a.size ≤ 100000000) :
    Calls Tryz.prog 37 #[.string a] w fun e w' => e = .returned (.bool (rightN a)) ∧ w = w' := by
  by_cases h0 : a.size = 0
  · have e : a = ⟨#[]⟩ := by
      have : a.data = #[] := Array.eq_empty_of_size_eq_zero h0
      cases a; simp only at this; rw [this]
    subst e
    have HR := Lib.hid rightN_nil
    clear h0 ha
    go_enter Tryz.func37, Tryz.ntmps37
    go_wp2_with fail
    go_ret
    exact ⟨by rw [HR.out]; rfl, rfl⟩
  · have hp : 0 < a.size := by omega
    have HR := Lib.hid (rightN_cons hp)
    obtain ⟨x, hx⟩ : ∃ x, a[0].toNat = x := ⟨_, rfl⟩
    rw [hx] at HR
    have hs1 : ((a.size : Int) == 0) = false := by rw [beq_eq_false_iff_ne]; omega
    have hs2 : ¬ (a.size : Int) = 0 := by omega
    have hs3 : 0 < (a.size : Int) := by omega
    by_cases hx0 : x = 0
    · subst hx0
      have hx' : a[0].toNat = 0 := hx
      have HR2 : Hid (rightN a = false) := Lib.hid (by rw [HR.out]; rfl)
      clear hx h0
      go_enter Tryz.func37, Tryz.ntmps37
      go_wp2_with fail
      go_ret
      exact ⟨by rw [HR2.out]; rfl, rfl⟩
    · have hx1 : ¬ (x : Int) = 0 := by omega
      have hx2 : ((x : Int) != 0) = true := by simpa using hx1
      have HR2 : Hid (rightN a = true) := Lib.hid (by rw [HR.out]; simp [hx0])
      clear h0 hx0
      go_enter Tryz.func37, Tryz.ntmps37
      go_wp2_with fail
      go_ret
      exact ⟨by rw [HR2.out]; rfl, rfl⟩
end Go.Proofs.YtakbkbmjeanboaaGreatDoor
