/- Plain laws of decimal numerals: no program in sight. -/
import Derived.Lib.ItoaNum
import Derived.Lib.Itoa
namespace Go.Proofs.YtancflpioigjbaaGreatDoor
open Go.Lib
set_option linter.unusedVariables false

/-- the last k decimal digits of a number -/
def padD : Nat → Nat → List UInt8
  | 0, _ => []
  | k + 1, r => padD k (r / 10) ++ [UInt8.ofNat (48 + r % 10)]
theorem padD_len : ∀ k r, (padD k r).length = k
  | 0, _ => rfl
  | k + 1, r => by rw [padD, List.length_append, padD_len k]; rfl
theorem padD_zero : ∀ k, padD k 0 = List.replicate k 48
  | 0 => rfl
  | k + 1 => by
    rw [padD, Nat.zero_div, padD_zero k, Nat.zero_mod, show (UInt8.ofNat (48 + 0)) = 48 from rfl, List.replicate_succ']
theorem decDigits_pad {q : Nat} (hq : 0 < q) : ∀ k r, r < 10 ^ k → decDigits (q * 10 ^ k + r) = decDigits q ++ padD k r
  | 0, r, h => by
    have hr : r = 0 := by simpa using h
    subst hr; simp [padD]
  | k + 1, r, h => by
    have hp : 0 < 10 ^ k := Nat.pow_pos (by decide)
    have he : q * 10 ^ (k + 1) + r = (q * 10 ^ k + r / 10) * 10 + r % 10 := by
      rw [Nat.pow_succ, Nat.add_mul, Nat.mul_assoc]; omega
    have hb : 10 ≤ q * 10 ^ (k + 1) + r := by
      rw [Nat.pow_succ, ← Nat.mul_assoc]
      have : 0 < q * 10 ^ k := Nat.mul_pos hq hp
      omega
    rw [decDigits, dif_neg (by omega)]
    rw [show (q * 10 ^ (k + 1) + r) / 10 = q * 10 ^ k + r / 10 from by rw [he]; omega, show (q * 10 ^ (k + 1) + r) % 10 = r % 10 from by rw [he]; omega]
    rw [decDigits_pad hq k (r / 10) (by rw [Nat.pow_succ] at h; omega), padD, List.append_assoc]
theorem padD_dec : ∀ k r, r < 10 ^ (k + 1) → padD (k + 1) r = List.replicate (k + 1 - nDigits r) 48 ++ decDigits r
  | 0, r, h => by
    have h' : r < 10 := by simpa using h
    rw [nDigits_small h', decDigits, dif_pos h', padD, padD, Nat.mod_eq_of_lt h']; rfl
  | k + 1, r, h => by
    rw [padD]
    by_cases h' : r < 10
    · rw [nDigits_small h', decDigits, dif_pos h', Nat.div_eq_of_lt h', padD_zero, Nat.mod_eq_of_lt h']; rfl
    · rw [padD_dec k (r / 10) (by rw [Nat.pow_succ] at h; omega), nDigits_big h', List.append_assoc]
      conv => rhs; rw [decDigits, dif_neg h']
      rw [show k + 1 + 1 - (nDigits (r / 10) + 1) = k + 1 - nDigits (r / 10) from by omega]
theorem nDigits_le9 {r : Nat} (h : r < 1000000000) : nDigits r ≤ 9 := by
  by_cases h9 : nDigits r ≤ 9
  · exact h9
  · exfalso
    have hk : ∀ k u, 10 ^ k ≤ u → k + 1 ≤ nDigits u := by
      intro k
      induction k with
      | zero => intro u _; exact nDigits_pos u
      | succ k ih =>
        intro u hu
        rw [Nat.pow_succ] at hu
        have hp : 0 < 10 ^ k := Nat.pow_pos (by decide)
        rw [nDigits_big (by omega)]
        have := ih (u / 10) (by omega)
        omega
    have hk2 : ∀ k u, u < 10 ^ (k + 1) → nDigits u ≤ k + 1 := by
      intro k
      induction k with
      | zero => intro u hu; rw [nDigits_small (by simpa using hu)]; exact Nat.le_refl _
      | succ k ih =>
        intro u hu
        by_cases hs : u < 10
        · rw [nDigits_small hs]; omega
        · rw [nDigits_big hs]
          have := ih (u / 10) (by rw [Nat.pow_succ] at hu; omega)
          omega
    exact h9 (hk2 8 r h)
/-- one round of Text -/
theorem dec_round {n : Nat} (hq : 0 < n / 1000000000) : decDigits n = decDigits (n / 1000000000) ++ (List.replicate (9 - nDigits (n % 1000000000)) 48 ++ decDigits (n % 1000000000)) := by
  have h := decDigits_pad hq 9 (n % 1000000000) (Nat.mod_lt _ (by decide))
  rw [padD_dec 8 _ (Nat.mod_lt _ (by decide))] at h
  rw [← h]
  congr 1
  omega
theorem dec_len {n : Nat} : (decDigits n).length = nDigits n := decDigits_length n
end Go.Proofs.YtancflpioigjbaaGreatDoor
