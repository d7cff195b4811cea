/- The functions of package nat, by the numbers that their arguments stand for; sizes. Each theorem names its conditions. -/
import Derived.Test.YtakbkbmjeanboaaGreatDoorApiB
import Derived.Test.YtakbkbmjeanboaaGreatDoorApiC
namespace Go.Proofs.YtakbkbmjeanboaaGreatDoor
open Go.RowKit Go.Shelf
open Dgt
set_option linter.unusedVariables false

/-- n has at most k bytes -/
def Sz (n k : Nat) : Prop := n < 256 ^ k
theorem Sz.mono {n k j : Nat} (h : Sz n k) (hj : k ≤ j) : Sz n j := Nat.lt_of_lt_of_le h (Nat.pow_le_pow_right (by decide) hj)
theorem Sz.le {m n k : Nat} (h : Sz n k) (hm : m ≤ n) : Sz m k := Nat.lt_of_le_of_lt hm h
theorem Sz.mul {m n i j : Nat} (hm : Sz m i) (hn : Sz n j) : Sz (m * n) (i + j) := by
  unfold Sz at *
  rw [Nat.pow_add]
  rcases Nat.eq_zero_or_pos m with rfl | h
  · rw [Nat.zero_mul]; exact Nat.mul_pos (Nat.pow_pos (by decide)) (Nat.pow_pos (by decide))
  · exact Nat.mul_lt_mul_of_lt_of_le hm (Nat.le_of_lt hn) (Nat.pow_pos (by decide))
theorem Sz.add {m n i : Nat} (hm : Sz m i) (hn : Sz n i) : Sz (m + n) (i + 1) := by
  unfold Sz at *
  rw [Nat.pow_succ]; omega
theorem Sz.div {m i : Nat} (hm : Sz m i) (n : Nat) : Sz (m / n) i := hm.le (Nat.div_le_self _ _)
theorem Sz.mod {m i : Nat} (hm : Sz m i) (n : Nat) : Sz (m % n) i := hm.le (Nat.mod_le _ _)
theorem Sz.sub {m i : Nat} (hm : Sz m i) (n : Nat) : Sz (m - n) i := hm.le (Nat.sub_le _ _)
theorem Sz.rem {m i : Nat} (hm : Sz m i) (n : Nat) : Sz (remS m n) i := hm.le (by unfold remS; split; exact Nat.zero_le _; exact Nat.mod_le _ _)
theorem Sz.enc {n k : Nat} (h : Sz n k) (hk : k ≤ 100000000) : (encS n).size ≤ 100000000 := Nat.le_trans (enc_len n h) hk
theorem Sz.num (a : ByteArray) : Sz (numS a) a.size := numS_lt a
theorem encS_size_lt {n k : Nat} (h : Sz n k) : (encS n).size ≤ k := enc_len n h
section
variable {a b : ByteArray} {m n : Nat} (ha : numS a = m) (hb : numS b = n) (sa : a.size ≤ 100000000) (sb : b.size ≤ 100000000) (w : World)
include ha hb sa sb
theorem Cmp_n : Calls Tryz.prog 40 #[.string a, .string b] w fun e w' => e = .returned (.int .i64 (cmpI m n)) ∧ Below w.heap.size w w' := by subst ha; subst hb; exact Cmp_any a b w sa sb
theorem Add_n : Calls Tryz.prog 39 #[.string a, .string b] w fun e w' => e = .returned (.string (encS (m + n))) ∧ Below w.heap.size w w' := by subst ha; subst hb; exact Add_any a b w sa sb
theorem Mul_n : Calls Tryz.prog 30 #[.string a, .string b] w fun e w' => e = .returned (.string (encS (m * n))) ∧ Below w.heap.size w w' := by subst ha; subst hb; exact Mul_any a b w sa sb
theorem Sub_n : Calls Tryz.prog 38 #[.string a, .string b] w fun e w' => e = .returned (.tuple #[.string (encS (m - n)), .bool (decide (n ≤ m))]) ∧ Below w.heap.size w w' := by subst ha; subst hb; exact Sub_any a b w sa sb
theorem Quo_n : Calls Tryz.prog 19 #[.string a, .string b] w fun e w' => e = .returned (.tuple #[.string (encS (m / n)), .string (encS (remS m n)), .bool (decide (0 < n))]) ∧ Below w.heap.size w w' := by subst ha; subst hb; exact Quo_any a b w sa sb
theorem Gcd_n : Calls Tryz.prog 21 #[.string a, .string b] w fun e w' => e = .returned (.string (encS (Nat.gcd m n))) ∧ Below w.heap.size w w' := by subst ha; subst hb; exact Gcd_any a b w sa sb
end
section
variable {a : ByteArray} {m : Nat} (ha : numS a = m) (sa : a.size ≤ 100000000) (w : World)
include ha sa
theorem Bits_n : Calls Tryz.prog 34 #[.string a] w fun e w' => e = .returned (.int .i64 ((bitsN m : Nat) : Int)) ∧ Below w.heap.size w w' := by subst ha; exact Bits_any a w sa
end
theorem right_enc (n : Nat) : rightN (encS n) = true := by unfold rightN; rw [numS_encS]; simp
theorem Right_e (n : Nat) (w : World) (hs : (encS n).size ≤ 100000000) : Calls Tryz.prog 36 #[.string (encS n)] w fun e w' => e = .returned (.bool true) ∧ w = w' := by
  have h := Right_any (encS n) w hs
  rw [right_enc] at h; exact h
/-! ### numbers of bits -/
theorem bitsN_zero : bitsN 0 = 0 := by unfold bitsN; rw [digs_zero]; rfl
theorem bitsN_pos {n : Nat} (h : 0 < n) : 0 < bitsN n := by
  unfold bitsN
  rcases Nat.eq_zero_or_pos (digs 2 n).length with h0 | h0
  · have := List.eq_nil_of_length_eq_zero h0
    rw [digs_eq_nil (by decide)] at this; omega
  · exact h0
theorem bitsN_le {n k : Nat} (h : Sz n k) : bitsN n ≤ 8 * k := by
  unfold bitsN
  refine digs_len_le (by decide) ?_
  rw [Nat.pow_mul]; exact h
/-- the bits of a product are those of the factors, or one less -/
theorem bitsN_mul {m n : Nat} (hm : 0 < m) (hn : 0 < n) : bitsN (m * n) ≤ bitsN m + bitsN n ∧ bitsN m + bitsN n ≤ bitsN (m * n) + 1 := by
  refine ⟨digs_len_mul (by decide) m n, ?_⟩
  have h1 := digs_ge (B := 2) (by decide) hm
  have h2 := digs_ge (B := 2) (by decide) hn
  have h3 := digs_lt (B := 2) (by decide) (m * n)
  have p1 := bitsN_pos hm
  have p2 := bitsN_pos hn
  unfold bitsN at *
  have h4 := Nat.lt_of_le_of_lt (Nat.mul_le_mul h1 h2) h3
  rw [← Nat.pow_add] at h4
  have := (Nat.pow_lt_pow_iff_right (a := 2) (by decide)).1 h4
  omega
end Go.Proofs.YtakbkbmjeanboaaGreatDoor
