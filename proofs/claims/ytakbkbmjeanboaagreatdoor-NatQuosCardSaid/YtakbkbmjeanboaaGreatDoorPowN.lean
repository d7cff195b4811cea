/- Plain laws of binary digits and powers: no program in sight. -/
import Derived.Test.YtakbkbmjeanboaaGreatDoorNum
namespace Go.Proofs.YtakbkbmjeanboaaGreatDoor
open Dgt
set_option linter.unusedVariables false

/-- K binary digits of a number, the most significant one first -/
def bitsL (n K : Nat) : List Bool := (List.range K).map fun j => decide (n / 2 ^ (K - 1 - j) % 2 = 1)
theorem bitsL_len (n K : Nat) : (bitsL n K).length = K := by simp [bitsL]
theorem bitsL_get (n K j : Nat) (h : j < (bitsL n K).length) : (bitsL n K)[j] = decide (n / 2 ^ (K - 1 - j) % 2 = 1) := by simp [bitsL]
theorem bitsL_split {n K : Nat} {pre rest : List Bool} {x : Bool} (h : bitsL n K = pre ++ x :: rest) : pre.length < K ∧ x = decide (n / 2 ^ (K - 1 - pre.length) % 2 = 1) := by
  have hl := congrArg List.length h
  rw [bitsL_len] at hl
  simp at hl
  refine ⟨by omega, ?_⟩
  have hj : pre.length < (bitsL n K).length := by rw [bitsL_len]; omega
  have hg := bitsL_get n K pre.length hj
  rw [← hg]
  have : (bitsL n K)[pre.length]? = some x := by rw [h]; simp
  rw [List.getElem?_eq_getElem hj] at this
  exact (Option.some.inj this).symm
theorem bitsL_cut {n K j : Nat} (h : j < K) : bitsL n K = (bitsL n K).take j ++ decide (n / 2 ^ (K - 1 - j) % 2 = 1) :: (bitsL n K).drop (j + 1) := by
  have hj : j < (bitsL n K).length := by rw [bitsL_len]; exact h
  conv => lhs; rw [← List.take_append_drop j (bitsL n K)]
  rw [List.drop_eq_getElem_cons hj, bitsL_get]
theorem bitsL_take_succ {n K j : Nat} (h : j < K) : (bitsL n K).take j ++ [decide (n / 2 ^ (K - 1 - j) % 2 = 1)] = (bitsL n K).take (j + 1) := by
  have hj : j < (bitsL n K).length := by rw [bitsL_len]; exact h
  rw [List.take_succ_eq_append_getElem hj, bitsL_get]
theorem half_step (n k : Nat) : n / 2 ^ k = 2 * (n / 2 ^ (k + 1)) + n / 2 ^ k % 2 := by
  rw [Nat.pow_succ, ← Nat.div_div_eq_div_mul]; omega
/-- one round of a power, without a digit -/
theorem pow_even {x n z k : Nat} (h : ¬ n / 2 ^ k % 2 = 1) : (x ^ (n / 2 ^ (k + 1)) % z) * (x ^ (n / 2 ^ (k + 1)) % z) % z = x ^ (n / 2 ^ k) % z := by
  rw [← Nat.mul_mod, ← Nat.pow_add]
  have := half_step n k
  rw [show n / 2 ^ (k + 1) + n / 2 ^ (k + 1) = n / 2 ^ k from by omega]
/-- one round of a power, with a digit -/
theorem pow_odd {x n z k : Nat} (h : n / 2 ^ k % 2 = 1) : ((x ^ (n / 2 ^ (k + 1)) % z) * (x ^ (n / 2 ^ (k + 1)) % z) % z) * (x % z) % z = x ^ (n / 2 ^ k) % z := by
  rw [← Nat.mul_mod (x ^ (n / 2 ^ (k + 1))), ← Nat.pow_add, ← Nat.mul_mod]
  have := half_step n k
  conv => rhs; rw [show n / 2 ^ k = (n / 2 ^ (k + 1) + n / 2 ^ (k + 1)) + 1 from by omega, Nat.pow_succ]
/-- the digit that is read off the limbs -/
theorem bit_of {l : List Nat} (ho : okB 4294967296 l) {k : Nat} (hk : k / 32 < l.length) : l[k / 32] / 2 ^ (k % 32) % 2 = valB 4294967296 l / 2 ^ k % 2 := by
  have hg := get_of_val ho hk
  have hp : (4294967296 : Nat) ^ (k / 32) = 2 ^ (32 * (k / 32)) := by
    rw [Nat.pow_mul]
  obtain ⟨V, hV⟩ : ∃ V, valB 4294967296 l = V := ⟨_, rfl⟩
  rw [hV] at hg ⊢
  rw [← hg, hp]
  obtain ⟨U, hU⟩ : ∃ U, V / 2 ^ (32 * (k / 32)) = U := ⟨_, rfl⟩
  have h2 : V / 2 ^ k = U / 2 ^ (k % 32) := by
    rw [← hU, Nat.div_div_eq_div_mul, ← Nat.pow_add]
    congr 2; omega
  rw [hU, h2]
  have hs : k % 32 < 32 := Nat.mod_lt _ (by decide)
  obtain ⟨s, hs'⟩ : ∃ s, k % 32 = s := ⟨_, rfl⟩
  rw [hs'] at hs ⊢
  have hd : (4294967296 : Nat) = 2 ^ s * 2 ^ (32 - s) := by
    rw [← Nat.pow_add, show s + (32 - s) = 32 from by omega]
  rw [hd, Nat.mod_mul_right_div_self]
  rw [show 32 - s = (31 - s) + 1 from by omega, Nat.pow_succ]
  rw [Nat.mod_mul_left_mod]
end Go.Proofs.YtakbkbmjeanboaaGreatDoor
