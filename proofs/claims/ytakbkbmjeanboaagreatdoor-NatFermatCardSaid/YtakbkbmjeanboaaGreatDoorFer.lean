/- Plain: Fermat's theorem, and that 2305843009213691579 is prime. No program in sight. -/
import Derived.KernelRfl
namespace Go.Proofs.YtakbkbmjeanboaaGreatDoor.Fer
set_option linter.unusedVariables false

/-! ### binomials -/
def bin : Nat → Nat → Nat
  | _, 0 => 1
  | 0, _ + 1 => 0
  | n + 1, k + 1 => bin n k + bin n (k + 1)
theorem bin_zero (n : Nat) : bin n 0 = 1 := by cases n <;> rfl
theorem bin_step (n k : Nat) : bin (n + 1) (k + 1) = bin n k + bin n (k + 1) := rfl
theorem bin_gt : ∀ n k, n < k → bin n k = 0
  | 0, k + 1, _ => rfl
  | n + 1, k + 1, h => by rw [bin_step, bin_gt n k (by omega), bin_gt n (k + 1) (by omega)]
theorem bin_self : ∀ n, bin n n = 1
  | 0 => rfl
  | n + 1 => by rw [bin_step, bin_self n, bin_gt n (n + 1) (by omega)]
theorem bin_mul : ∀ n k, (k + 1) * bin (n + 1) (k + 1) = (n + 1) * bin n k
  | 0, 0 => rfl
  | 0, k + 1 => by rw [bin_step, bin_gt 0 (k + 1) (by omega), bin_gt 0 (k + 2) (by omega)]; simp
  | n + 1, 0 => by
    have h := bin_mul n 0
    rw [bin_zero] at h
    rw [bin_step (n + 1) 0, bin_zero]
    omega
  | n + 1, k + 1 => by
    have h1 := bin_mul n (k + 1)
    have h2 := bin_mul n k
    have e : (k + 1 + 1) * bin (n + 1 + 1) (k + 1 + 1) = (k + 1) * bin (n + 1) (k + 1) + bin (n + 1) (k + 1) + (k + 1 + 1) * bin (n + 1) (k + 1 + 1) := by
      rw [bin_step (n + 1) (k + 1), Nat.mul_add, Nat.add_mul (k + 1) 1, Nat.one_mul]
    rw [e, h1, h2, bin_step n k, Nat.add_mul (n + 1) 1, Nat.one_mul, Nat.mul_add]
    omega
def rowS (n a : Nat) : Nat → Nat
  | 0 => 0
  | m + 1 => rowS n a m + bin n m * a ^ m
theorem row_step (n a : Nat) : ∀ m, rowS (n + 1) a (m + 1) = rowS n a (m + 1) + a * rowS n a m
  | 0 => by simp [rowS, bin_zero]
  | m + 1 => by
    have h := row_step n a m
    have e1 : rowS (n + 1) a (m + 2) = rowS (n + 1) a (m + 1) + bin (n + 1) (m + 1) * a ^ (m + 1) := rfl
    have e2 : rowS n a (m + 2) = rowS n a (m + 1) + bin n (m + 1) * a ^ (m + 1) := rfl
    have e3 : a * rowS n a (m + 1) = a * rowS n a m + bin n m * a ^ (m + 1) := by
      show a * (rowS n a m + bin n m * a ^ m) = _
      rw [Nat.mul_add, Nat.pow_succ, Nat.mul_left_comm, Nat.mul_comm a (a ^ m)]
    show rowS (n + 1) a (m + 2) = rowS n a (m + 2) + _
    rw [e1, h, e2, e3, bin_step, Nat.add_mul]
    omega
theorem row_pow (a : Nat) : ∀ n, rowS n a (n + 1) = (a + 1) ^ n
  | 0 => by simp [rowS, bin_zero]
  | n + 1 => by
    have e : rowS n a (n + 2) = rowS n a (n + 1) := by
      show rowS n a (n + 1) + bin n (n + 1) * a ^ (n + 1) = _
      rw [bin_gt n (n + 1) (by omega)]; simp
    rw [row_step, e, row_pow a n, Nat.pow_succ, Nat.mul_add, Nat.mul_one, Nat.mul_comm a]
    omega

/-! ### Fermat -/
structure Prim (p : Nat) : Prop where
  two : 2 ≤ p
  div : ∀ d, d ∣ p → d = 1 ∨ d = p
theorem Prim.cop {p k : Nat} (h : Prim p) (hk : ¬ p ∣ k) : Nat.gcd p k = 1 := by
  rcases h.div _ (Nat.gcd_dvd_left p k) with e | e
  · exact e
  · exact absurd (e ▸ Nat.gcd_dvd_right p k) hk
theorem Prim.binom {p k : Nat} (h : Prim p) (h0 : 0 < k) (hk : k < p) : p ∣ Fer.bin p k := by
  obtain ⟨j, rfl⟩ : ∃ j, k = j + 1 := ⟨k - 1, by omega⟩
  obtain ⟨n, rfl⟩ : ∃ n, p = n + 1 := ⟨p - 1, by have := h.two; omega⟩
  have e := bin_mul n j
  have hd : n + 1 ∣ (j + 1) * Fer.bin (n + 1) (j + 1) := ⟨_, e⟩
  have hc := h.cop (k := j + 1) (fun hd => by have := Nat.le_of_dvd (by omega) hd; omega)
  exact Nat.Coprime.dvd_of_dvd_mul_left hc hd
theorem Prim.row {p : Nat} (h : Prim p) (a : Nat) : ∀ m, 0 < m → m ≤ p → rowS p a m % p = 1
  | 0, h0, _ => absurd h0 (by decide)
  | 1, _, _ => by
    show (0 + bin p 0 * a ^ 0) % p = 1
    rw [bin_zero]; simp
    exact Nat.mod_eq_of_lt h.two
  | m + 2, _, hm => by
    show (rowS p a (m + 1) + bin p (m + 1) * a ^ (m + 1)) % p = 1
    obtain ⟨c, hc⟩ := h.binom (k := m + 1) (by omega) (by omega)
    rw [hc, Nat.mul_assoc, Nat.add_mul_mod_self_left]
    exact h.row a (m + 1) (by omega) (by omega)
theorem fermat {p : Nat} (h : Prim p) : ∀ a, a ^ p % p = a % p
  | 0 => by rw [Nat.zero_pow (by have := h.two; omega)]
  | a + 1 => by
    rw [← row_pow]
    show (rowS p a p + bin p p * a ^ p) % p = _
    rw [bin_self, Nat.one_mul, Nat.add_mod, h.row a p (by have := h.two; omega) (Nat.le_refl _), fermat h a, Nat.add_comm a 1, Nat.add_mod 1 a, Nat.mod_eq_of_lt (show 1 < p from h.two)]
theorem fermat_one {p a : Nat} (h : Prim p) (ha : ¬ p ∣ a) : a ^ (p - 1) % p = 1 := by
  have hp := h.two
  have h1 := fermat h a
  have e : a ^ p = a * a ^ (p - 1) := by
    rw [Nat.mul_comm, ← Nat.pow_succ]; congr 1; omega
  have h2 : 1 ≤ a ^ (p - 1) := Nat.pow_pos (Nat.pos_of_ne_zero fun e => ha (e ▸ Nat.dvd_zero p))
  have h3 : p ∣ a * (a ^ (p - 1) - 1) := by
    rw [Nat.mul_sub, Nat.mul_one, ← e]
    exact Nat.dvd_of_mod_eq_zero (Nat.sub_mod_eq_zero_of_mod_eq h1)
  have h4 := Nat.Coprime.dvd_of_dvd_mul_left (h.cop ha) h3
  obtain ⟨c, hc⟩ := h4
  have : a ^ (p - 1) = 1 + p * c := by omega
  rw [this, Nat.add_mul_mod_self_left]
  exact Nat.mod_eq_of_lt hp

/-! ### a test -/
theorem pow_mod_one {x r : Nat} (hr : 1 < r) (h : x % r = 1) : ∀ k, x ^ k % r = 1
  | 0 => Nat.mod_eq_of_lt hr
  | k + 1 => by rw [Nat.pow_succ, Nat.mul_mod, pow_mod_one hr h k, h]; exact Nat.mod_eq_of_lt hr
theorem pow_gcd {x r : Nat} (hr : 1 < r) (m n : Nat) : x ^ m % r = 1 → x ^ n % r = 1 → x ^ Nat.gcd m n % r = 1 := by
  induction m, n using Nat.gcd.induction with
  | H0 n => intro _ h; rw [Nat.gcd_zero_left]; exact h
  | H1 m n hm ih =>
    intro h1 h2
    rw [Nat.gcd_rec]
    refine ih ?_ h1
    have e : x ^ n = (x ^ m) ^ (n / m) * x ^ (n % m) := by rw [← Nat.pow_mul, ← Nat.pow_add, Nat.div_add_mod]
    rw [e, Nat.mul_mod, pow_mod_one hr h1, Nat.one_mul, Nat.mod_mod] at h2
    exact h2
theorem least {n : Nat} (hn : 2 ≤ n) : ∃ r, Prim r ∧ r ∣ n ∧ (∀ d, 2 ≤ d → d ∣ n → r ≤ d) := by
  have : ∃ r, 2 ≤ r ∧ r ∣ n ∧ ∀ d, 2 ≤ d → d ∣ n → r ≤ d := by
    have key : ∀ k, ∀ m, m ≤ k → 2 ≤ m → m ∣ n → ∃ r, 2 ≤ r ∧ r ∣ n ∧ ∀ d, 2 ≤ d → d ∣ n → r ≤ d := by
      intro k
      induction k with
      | zero => intro m h1 h2; omega
      | succ k ih =>
        intro m h1 h2 h3
        by_cases h : ∃ d, 2 ≤ d ∧ d ∣ n ∧ d < m
        · obtain ⟨d, h4, h5, h6⟩ := h
          exact ih d (by omega) h4 h5
        · exact ⟨m, h2, h3, fun d h4 h5 => Nat.le_of_not_lt fun h6 => h ⟨d, h4, h5, h6⟩⟩
    exact key n n (Nat.le_refl _) hn (Nat.dvd_refl _)
  obtain ⟨r, h1, h2, h3⟩ := this
  refine ⟨r, ⟨h1, fun d hd => ?_⟩, h2, h3⟩
  rcases Nat.lt_or_ge d 2 with h | h
  · have : d ≠ 0 := fun e => by subst e; have := Nat.eq_zero_of_zero_dvd hd; omega
    left; omega
  · right
    exact Nat.le_antisymm (Nat.le_of_dvd (by omega) hd) (h3 d h (Nat.dvd_trans hd h2))
/-- a prime factor q of n - 1 whose square is more than n, and g -/
theorem test {n q m g : Nat} (hq : Prim q) (hn : n = q * m + 1) (hs : n < q * q) (h1 : g ^ (q * m) % n = 1) (h2 : Nat.gcd (g ^ m % n + (n - 1)) n = 1) (hn2 : 2 ≤ n) : Prim n := by
  obtain ⟨r, hr, hrn, hl⟩ := least hn2
  have hr2 : 1 < r := hr.two
  by_cases hrr : r = n
  · rw [← hrr]; exact hr
  · exfalso
    obtain ⟨c, hc⟩ := hrn
    have hc2 : 2 ≤ c := by
      rcases Nat.lt_or_ge c 2 with h | h
      · have : c = 0 ∨ c = 1 := by omega
        rcases this with rfl | rfl
        · omega
        · omega
      · exact h
    have hrc : r ≤ c := hl c hc2 ⟨r, by rw [hc, Nat.mul_comm]⟩
    have hrs : r * r ≤ n := by rw [hc]; exact Nat.mul_le_mul_left r hrc
    have e1 : (g ^ m) ^ q % r = 1 := by
      rw [← Nat.pow_mul, Nat.mul_comm m q]
      have h5 : g ^ (q * m) % n % r = 1 % r := by rw [h1]
      rw [Nat.mod_mod_of_dvd _ ⟨c, hc⟩, Nat.mod_eq_of_lt hr2] at h5
      exact h5
    have hx : ¬ r ∣ g ^ m := fun hd => by
      have : (g ^ m) ^ q % r = 0 := Nat.mod_eq_zero_of_dvd (Nat.dvd_trans hd ((by obtain ⟨j, rfl⟩ : ∃ j, q = j + 1 := ⟨q - 1, by have := hq.two; omega⟩; rw [Nat.pow_succ]; exact Nat.dvd_mul_left _ _)))
      omega
    have e2 : (g ^ m) ^ (r - 1) % r = 1 := fermat_one hr hx
    have e3 := pow_gcd hr2 q (r - 1) e1 e2
    rcases hq.div _ (Nat.gcd_dvd_left q (r - 1)) with e | e
    · rw [e, Nat.pow_one] at e3
      have hd : r ∣ g ^ m % n + (n - 1) := by
        refine Nat.dvd_of_mod_eq_zero ?_
        have h6 : (g ^ m % n + (n - 1)) % r = (1 + (n - 1)) % r := by
          rw [Nat.add_mod, Nat.mod_mod_of_dvd _ ⟨c, hc⟩, e3, Nat.add_mod 1 (n - 1), Nat.mod_eq_of_lt hr2]
        rw [h6, show 1 + (n - 1) = r * c by omega]
        exact Nat.mul_mod_right r c
      have := Nat.dvd_gcd hd ⟨c, hc⟩
      rw [h2] at this
      have := Nat.le_of_dvd (by decide) this
      omega
    · have hd : q ∣ r - 1 := e ▸ Nat.gcd_dvd_right q (r - 1)
      have h5 := Nat.le_of_dvd (by omega) hd
      have h6 : q * q ≤ r * r := Nat.mul_le_mul (by omega) (by omega)
      omega
/-- powers modulo n, by the binary digits of the exponent -/
def mpow (n : Nat) : Nat → Nat → Nat → Nat
  | 0, _, _ => 1 % n
  | f + 1, g, e => if e = 0 then 1 % n else if e % 2 = 0 then mpow n f (g * g % n) (e / 2) else g * mpow n f (g * g % n) (e / 2) % n
theorem mpow_eq (n : Nat) : ∀ f g e, e < 2 ^ f → mpow n f g e = g ^ e % n
  | 0, g, e, h => by
    have : e = 0 := by simpa using h
    subst this; rfl
  | f + 1, g, e, h => by
    rw [mpow]
    by_cases h0 : e = 0
    · subst h0; rw [if_pos rfl, Nat.pow_zero]
    · rw [if_neg h0]
      have ih := mpow_eq n f (g * g % n) (e / 2) (by rw [Nat.pow_succ] at h; omega)
      have e1 : (g * g % n) ^ (e / 2) % n = g ^ (2 * (e / 2)) % n := by rw [← Nat.pow_mod, Nat.pow_mul, Nat.pow_two]
      by_cases h2 : e % 2 = 0
      · rw [if_pos h2, ih, e1]; congr 2; omega
      · rw [if_neg h2, ih, e1, Nat.mul_mod, Nat.mod_mod, ← Nat.mul_mod]
        rw [Nat.mul_comm, ← Nat.pow_succ]; congr 2; omega
theorem test' {n q m g : Nat} (hq : Prim q) (hn : n = q * m + 1) (hs : n < q * q) (hb : q * m < 2 ^ 64) (hm : m < 2 ^ 64) (h1 : mpow n 64 g (q * m) = 1) (h2 : Nat.gcd (mpow n 64 g m + (n - 1)) n = 1) (hn2 : 2 ≤ n) : Prim n :=
  test hq hn hs (by rw [← mpow_eq n 64 g _ hb]; exact h1) (by rw [← mpow_eq n 64 g _ hm]; exact h2) hn2
theorem prim_449 : Prim 449 := ⟨by decide, fun d hd => by
  have h1 : d ≤ 449 := Nat.le_of_dvd (by decide) hd
  have h2 : ∀ d, d ≤ 449 → (449 % d ≠ 0 ∨ d = 1 ∨ d = 449) := by decide +kernel
  rcases h2 d h1 with h | h
  · exact absurd (Nat.mod_eq_zero_of_dvd hd) h
  · exact h⟩
theorem prim_a : Prim 95189 := test' (q := 449) (m := 212) (g := 2) prim_449 (by kernel_rfl) (by decide +kernel) (by decide +kernel) (by decide +kernel) (by kernel_rfl) (by kernel_rfl) (by decide +kernel)
theorem prim_b : Prim 2835870689 := test' (q := 95189) (m := 29792) (g := 2) prim_a (by kernel_rfl) (by decide +kernel) (by decide +kernel) (by decide +kernel) (by kernel_rfl) (by kernel_rfl) (by decide +kernel)
theorem prim_c : Prim 5671741379 := test' (q := 2835870689) (m := 2) (g := 2) prim_b (by kernel_rfl) (by decide +kernel) (by decide +kernel) (by decide +kernel) (by kernel_rfl) (by kernel_rfl) (by decide +kernel)
theorem prim_d : Prim 288230376151711447 := test' (q := 5671741379) (m := 50818674) (g := 2) prim_c (by kernel_rfl) (by decide +kernel) (by decide +kernel) (by decide +kernel) (by kernel_rfl) (by kernel_rfl) (by decide +kernel)
theorem prim_e : Prim 1152921504606845789 := test' (q := 288230376151711447) (m := 4) (g := 2) prim_d (by kernel_rfl) (by decide +kernel) (by decide +kernel) (by decide +kernel) (by kernel_rfl) (by kernel_rfl) (by decide +kernel)
theorem prim_large : Prim 2305843009213691579 := test' (q := 1152921504606845789) (m := 2) (g := 2) prim_e (by kernel_rfl) (by decide +kernel) (by decide +kernel) (by decide +kernel) (by kernel_rfl) (by kernel_rfl) (by decide +kernel)
end Go.Proofs.YtakbkbmjeanboaaGreatDoor.Fer
