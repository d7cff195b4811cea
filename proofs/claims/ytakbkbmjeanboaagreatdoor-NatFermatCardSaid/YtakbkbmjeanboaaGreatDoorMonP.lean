/- Plain laws of Montgomery's product: no program in sight. -/
import Derived.Test.YtakbkbmjeanboaaGreatDoorNum
namespace Go.Proofs.YtakbkbmjeanboaaGreatDoor.Dgt
set_option linter.unusedVariables false

/-- one step of the first inner loop -/
theorem mon_step1 {B k c x y t s T A : Nat} {p : List Nat} (hl : p.length = k) (hv : valB B p + c * B ^ k = T + y * A) (hs : s = t + x * y + c) :
    valB B (p ++ [s % B]) + s / B * B ^ (k + 1) = (T + B ^ k * t) + y * (A + B ^ k * x) := by
  rw [valB_snoc, hl, Nat.pow_succ]
  obtain ⟨P, hP⟩ : ∃ P, B ^ k = P := ⟨_, rfl⟩
  rw [hP] at hv ⊢
  have h1 : P * (s % B) + s / B * (P * B) = P * s := by
    have := Nat.div_add_mod s B
    rw [Nat.mul_left_comm, ← Nat.mul_add, Nat.mul_comm (s / B) B, Nat.add_comm, this]
  have h2 : P * s = P * t + P * (x * y) + P * c := by rw [hs, Nat.mul_add, Nat.mul_add]
  have h3 : y * (A + P * x) = y * A + P * (x * y) := by rw [Nat.mul_add, Nat.mul_left_comm, Nat.mul_comm y x]
  rw [Nat.add_assoc, h1, h2, h3]
  rw [Nat.mul_comm c P] at hv
  omega
theorem mon_carry {B t x y c : Nat} (hB : 0 < B) (ht : t < B) (hx : x < B) (hy : y < B) (hc : c < B) : (t + x * y + c) / B < B ∧ t + x * y + c < B * B := by
  have h1 : x * y ≤ (B - 1) * (B - 1) := Nat.mul_le_mul (by omega) (by omega)
  have h2 : (B - 1) * (B - 1) + 2 * (B - 1) + 1 = B * B := by
    obtain ⟨b, rfl⟩ : ∃ b, B = b + 1 := ⟨B - 1, by omega⟩
    simp only [Nat.add_sub_cancel]
    rw [Nat.add_mul, Nat.mul_add]; omega
  have h3 : t + x * y + c < B * B := by omega
  exact ⟨Nat.div_lt_of_lt_mul h3, h3⟩
/-- the two digits behind the first inner loop -/
theorem mon_end1 {B k c t s T A y : Nat} {p : List Nat} (hl : p.length = k) (hv : valB B p + c * B ^ k = T + y * A) (hs : s = t + c) :
    valB B (p ++ [s % B, s / B]) = (T + B ^ k * t) + y * A := by
  rw [valB_append, hl]
  simp only [valB]
  obtain ⟨P, hP⟩ : ∃ P, B ^ k = P := ⟨_, rfl⟩
  rw [hP] at hv ⊢
  have h1 : s % B + B * (s / B + B * 0) = s := by rw [Nat.mul_zero, Nat.add_zero]; exact Nat.mod_add_div s B
  rw [h1, hs, Nat.mul_add]
  rw [Nat.mul_comm c P] at hv
  omega
/-- one step of the second inner loop -/
theorem mon_step2 {B k c u m q s U M : Nat} {r : List Nat} (hl : r.length = k) (hv : B * (valB B r + c * B ^ k) = U + q * M) (hs : s = u + q * m + c) :
    B * (valB B (r ++ [s % B]) + s / B * B ^ (k + 1)) = (U + B ^ (k + 1) * u) + q * (M + B ^ (k + 1) * m) := by
  rw [valB_snoc, hl]
  have e : B ^ (k + 1) = B * B ^ k := by rw [Nat.pow_succ, Nat.mul_comm]
  rw [e]
  generalize B ^ k = P at *
  have h1 := Nat.div_add_mod s B
  generalize s / B = d at *
  generalize s % B = x at *
  generalize valB B r = R at *
  grind
/-- the two digits behind the second inner loop -/
theorem mon_end2 {B k c u0 u1 s U M q : Nat} {r : List Nat} (hB : 0 < B) (hl : r.length = k) (hv : B * (valB B r + c * B ^ k) = U + q * M) (hs : s = u0 + c) :
    B * valB B (r ++ [s % B, u1 + s / B]) = U + B ^ (k + 1) * (u0 + B * u1) + q * M := by
  rw [valB_append, hl]
  simp only [valB]
  have e : B ^ (k + 1) = B * B ^ k := by rw [Nat.pow_succ, Nat.mul_comm]
  rw [e]
  obtain ⟨P, hP⟩ : ∃ P, B ^ k = P := ⟨_, rfl⟩
  rw [hP] at hv ⊢
  have h1 : s % B + B * (u1 + s / B + B * 0) = u0 + B * u1 + c := by
    have := Nat.mod_add_div s B
    rw [Nat.mul_zero, Nat.add_zero, Nat.mul_add]; omega
  rw [h1, Nat.mul_add, Nat.mul_add P, Nat.mul_add] 
  rw [Nat.mul_add, Nat.mul_comm c P] at hv
  have h2 : B * (P * (u0 + B * u1)) = B * P * (u0 + B * u1) := by rw [Nat.mul_assoc]
  rw [h2]
  omega
/-- the first digit is a multiple of B where minus is minus the inverse -/
theorem mon_q {B t0 m0 minus : Nat} (hB : 0 < B) (hm : (minus * m0 + 1) % B = 0) : (t0 + t0 * minus % B * m0) % B = 0 := by
  have h1 : (t0 + t0 * minus % B * m0) % B = (t0 + t0 * minus * m0) % B := by
    rw [Nat.add_mod, Nat.mod_mul_mod, ← Nat.add_mod]
  rw [h1, show t0 + t0 * minus * m0 = t0 * (minus * m0 + 1) by rw [Nat.mul_add, Nat.mul_assoc]; omega, Nat.mul_mod, hm, Nat.mul_zero, Nat.zero_mod]
/-- the bound of a round -/
theorem mon_bound {B T U V A M y q : Nat} (hB : 2 ≤ B) (hU : U = T + y * A) (hV : B * V = U + q * M) (hT : T < A + M) (hy : y < B) (hq : q < B) : V < A + M := by
  have h1 : y * A ≤ (B - 1) * A := Nat.mul_le_mul_right A (by omega)
  have h2 : q * M ≤ (B - 1) * M := Nat.mul_le_mul_right M (by omega)
  have h3 : B * V < B * (A + M) := by
    obtain ⟨b, rfl⟩ : ∃ b, B = b + 1 := ⟨B - 1, by omega⟩
    simp only [Nat.add_sub_cancel] at h1 h2
    rw [hV, hU, Nat.add_mul, Nat.one_mul, Nat.mul_add]
    omega
  exact Nat.lt_of_mul_lt_mul_left h3
/-- the round's congruence -/
theorem mon_round {B i T V A M y q Q S : Nat} (hT : T * B ^ i = A * S + Q * M) (hV : B * V = T + y * A + q * M) :
    V * B ^ (i + 1) = A * (S + B ^ i * y) + (Q + B ^ i * q) * M := by
  have e : V * B ^ (i + 1) = B * V * B ^ i := by rw [Nat.pow_succ, Nat.mul_comm (B ^ i) B, ← Nat.mul_assoc, Nat.mul_comm V B]
  rw [e, hV, Nat.add_mul, Nat.add_mul, hT, Nat.mul_add, Nat.add_mul]
  have h1 : y * A * B ^ i = A * (B ^ i * y) := by rw [Nat.mul_comm y A, Nat.mul_assoc, Nat.mul_comm y]
  have h2 : q * M * B ^ i = B ^ i * q * M := by rw [Nat.mul_comm (q * M), Nat.mul_assoc]
  rw [h1, h2]
  omega
/-! ### the inverse of an odd digit, by Newton's rounds -/
theorem newton {m x : Int} {j : Nat} (h : (2 : Int) ^ j ∣ m * x - 1) : (2 : Int) ^ (min 32 (2 * j)) ∣ m * ((x * ((2 - m * x % 4294967296) % 4294967296)) % 4294967296) - 1 := by
  obtain ⟨c, hc⟩ := h
  have hB : (2 : Int) ^ (min 32 (2 * j)) ∣ 4294967296 := by
    rw [show (4294967296 : Int) = 2 ^ 32 by decide]
    exact ⟨2 ^ (32 - min 32 (2 * j)), by rw [← Int.pow_add]; congr 1; omega⟩
  have hJ : (2 : Int) ^ (min 32 (2 * j)) ∣ 2 ^ j * 2 ^ j := by
    rw [← Int.pow_add]
    exact ⟨2 ^ (j + j - min 32 (2 * j)), by rw [← Int.pow_add]; congr 1; omega⟩
  obtain ⟨d, hd⟩ := hB
  obtain ⟨e, he⟩ := hJ
  generalize (2 : Int) ^ (min 32 (2 * j)) = D at *
  generalize (2 : Int) ^ j = P at *
  have h1 := Int.emod_add_mul_ediv (m * x) 4294967296
  generalize m * x % 4294967296 = p at *
  generalize m * x / 4294967296 = a at *
  have h2 := Int.emod_add_mul_ediv (2 - p) 4294967296
  generalize (2 - p) % 4294967296 = u at *
  generalize (2 - p) / 4294967296 = b at *
  have h3 := Int.emod_add_mul_ediv (x * u) 4294967296
  generalize x * u % 4294967296 = y at *
  generalize x * u / 4294967296 = z at *
  generalize (4294967296 : Int) = B at *
  have hu : u = 2 - m * x + B * a - B * b := by omega
  have hy : y = x * u - B * z := by omega
  have e1 : m * y - 1 = B * (m * x * (a - b) - m * z) - (m * x - 1) * (m * x - 1) := by
    rw [hy, hu]; clear hc he hd h1 h2 h3 hu hy; grind
  have e2 : P * c * (P * c) = D * (e * (c * c)) := by
    have : P * c * (P * c) = P * P * (c * c) := by clear hc he hd h1 h2 h3 hu hy e1; grind
    rw [this, he, Int.mul_assoc]
  refine ⟨d * (m * x * (a - b) - m * z) - e * (c * c), ?_⟩
  rw [e1, hc, e2, hd]
  clear hc he hd h1 h2 h3 hu hy e1 e2; grind
theorem newton_start {m : Int} (h : m % 2 = 1) : (2 : Int) ^ 3 ∣ m * m - 1 := by
  show (8 : Int) ∣ _
  obtain ⟨k, hk⟩ : ∃ k, m = 2 * k + 1 := ⟨m / 2, by omega⟩
  have h2 : k * (k + 1) % 2 = 0 := by
    rcases (by omega : k % 2 = 0 ∨ k % 2 = 1) with e | e
    · rw [Int.mul_emod, e]; simp
    · rw [Int.mul_emod, show (k + 1) % 2 = 0 by omega]; simp
  obtain ⟨q, hq⟩ : ∃ q, k * (k + 1) = 2 * q := ⟨k * (k + 1) / 2, by omega⟩
  exact ⟨q, by rw [hk]; grind⟩
theorem newton_end {m x : Int} (hx : 0 ≤ x) (hx2 : x < 4294967296) (h : (2 : Int) ^ 32 ∣ m * x - 1) : (-x % 4294967296 * m + 1) % 4294967296 = 0 := by
  rw [show (2 : Int) ^ 32 = 4294967296 by decide] at h
  obtain ⟨c, hc⟩ := h
  have h1 := Int.emod_add_mul_ediv (-x) 4294967296
  generalize -x % 4294967296 = p at *
  generalize -x / 4294967296 = a at *
  refine Int.emod_eq_zero_of_dvd ⟨-c - a * m, ?_⟩
  generalize (4294967296 : Int) = B at *
  grind

/-! ### numbers in Montgomery's form -/
theorem cop_pow {M : Nat} (h : M % 2 = 1) (k : Nat) : Nat.Coprime M (4294967296 ^ k) := by
  refine Nat.Coprime.pow_right k ?_
  rw [show (4294967296 : Nat) = 2 ^ 32 by decide]
  refine Nat.Coprime.pow_right 32 ?_
  rw [Nat.coprime_comm]
  show Nat.gcd 2 M = 1
  rw [Nat.gcd_rec, h]; decide
theorem mod_cancel {M R a b : Nat} (hc : Nat.Coprime M R) (h : a * R % M = b * R % M) (ha : a < M) (hb : b < M) : a = b := by
  have key : ∀ {a b : Nat}, a * R % M = b * R % M → b < M → a ≤ b → a = b := by
    intro a b h hb hle
    have h1 : M ∣ b * R - a * R := Nat.dvd_of_mod_eq_zero (Nat.sub_mod_eq_zero_of_mod_eq h.symm)
    rw [← Nat.sub_mul] at h1
    have h2 := Nat.Coprime.dvd_of_dvd_mul_right hc h1
    rcases Nat.eq_zero_or_pos (b - a) with e | e
    · omega
    · have := Nat.le_of_dvd e h2; omega
  rcases Nat.le_total a b with hl | hl
  · exact key h hb hl
  · exact (key h.symm ha hl).symm
/-- Montgomery's product of two numbers in his form -/
theorem mont_mul {M R L X Y : Nat} (hc : Nat.Coprime M R) (hL : L < M) (h : L * R % M = (X * R % M) * (Y * R % M) % M) : L = X * Y * R % M := by
  refine mod_cancel hc ?_ hL (Nat.mod_lt _ (by omega))
  rw [h, ← Nat.mul_mod, Nat.mod_mul_mod]
  congr 1
  simp only [Nat.mul_assoc, Nat.mul_left_comm R]
/-- and out of it -/
theorem mont_out {M R L X : Nat} (hc : Nat.Coprime M R) (hL : L < M) (h : L * R % M = (X * R % M) * 1 % M) : L = X % M := by
  refine mod_cancel hc ?_ hL (Nat.mod_lt _ (by omega))
  rw [h, Nat.mul_one, Nat.mod_mod, Nat.mod_mul_mod]
theorem mont_even {x n M k R L : Nat} (hc : Nat.Coprime M R) (hL : L < M) (h : ¬ n / 2 ^ k % 2 = 1) (e : L * R % M = (x ^ (n / 2 ^ (k + 1)) * R % M) * (x ^ (n / 2 ^ (k + 1)) * R % M) % M) : L = x ^ (n / 2 ^ k) * R % M := by
  rw [mont_mul hc hL e, ← Nat.pow_add]
  have h1 : n / 2 ^ k = 2 * (n / 2 ^ (k + 1)) + n / 2 ^ k % 2 := by
    rw [Nat.pow_succ, ← Nat.div_div_eq_div_mul]; omega
  rw [show n / 2 ^ (k + 1) + n / 2 ^ (k + 1) = n / 2 ^ k from by omega]
theorem mont_odd {x n M k R L L2 : Nat} (hc : Nat.Coprime M R) (hL : L < M) (hL2 : L2 < M) (h : n / 2 ^ k % 2 = 1) (e : L * R % M = (x ^ (n / 2 ^ (k + 1)) * R % M) * (x ^ (n / 2 ^ (k + 1)) * R % M) % M)
    (e2 : L2 * R % M = L * (x * R % M) % M) : L2 = x ^ (n / 2 ^ k) * R % M := by
  rw [mont_mul hc hL e, ← Nat.pow_add] at e2
  rw [mont_mul hc hL2 e2]
  have h1 : n / 2 ^ k = 2 * (n / 2 ^ (k + 1)) + n / 2 ^ k % 2 := by
    rw [Nat.pow_succ, ← Nat.div_div_eq_div_mul]; omega
  conv => rhs; rw [show n / 2 ^ k = (n / 2 ^ (k + 1) + n / 2 ^ (k + 1)) + 1 from by omega, Nat.pow_succ]
/-- the whole of one round, by the digits -/
theorem mon_whole {B k : Nat} {P a b m p r : List Nat} {i y z c c2 s s2 q t1 x1 x2 M A : Nat} (hB : 2 ≤ B) (hk : 0 < k)
    (hP : P.length = k + 1) (hpl : p.length = k) (h1 : valB B p + c * B ^ k = valB B (P.take k) + y * A) (ht : P[k]'(by omega) = t1) (hs : s = t1 + c) (e1 : s % B = x1) (e2 : s / B = x2)
    (hr : r.length = k - 1) (h2 : B * (valB B r + c2 * B ^ (k - 1)) = valB B p + q * M) (hs2 : s2 = x1 + c2)
    (hT : valB B P < A + M) (hy : y < B) (hq : q < B) (hA : A < B ^ k) (hM : M < B ^ k) :
    B * valB B (r ++ [s2 % B, x2 + s2 / B]) = (valB B P + y * A) + q * M ∧ valB B (r ++ [s2 % B, x2 + s2 / B]) < A + M ∧ x2 + s2 / B < 2 := by
  have hPv : valB B P = valB B (P.take k) + B ^ k * t1 := by
    have := valB_take_succ (B := B) (l := P) (k := k) (by omega)
    rw [List.take_of_length_le (by omega), ht] at this; exact this
  have hU := mon_end1 (p := p) (c := c) (t := t1) (s := s) hpl h1 hs
  rw [e1, e2, valB_append, hpl] at hU
  simp only [valB, Nat.mul_zero, Nat.add_zero] at hU
  have hV := mon_end2 (B := B) (k := k - 1) (c := c2) (u0 := x1) (u1 := x2) (s := s2) (U := valB B p) (M := M) (q := q) (by omega) hr h2 hs2
  rw [show k - 1 + 1 = k by omega, hU, ← hPv] at hV
  have hb := mon_bound hB rfl hV hT hy hq
  refine ⟨hV, hb, ?_⟩
  have : valB B (r ++ [s2 % B, x2 + s2 / B]) = valB B (r ++ [s2 % B]) + B ^ k * (x2 + s2 / B) := by
    rw [show r ++ [s2 % B, x2 + s2 / B] = (r ++ [s2 % B]) ++ [x2 + s2 / B] by simp, valB_snoc, List.length_append, hr]
    simp only [List.length_cons, List.length_nil]
    rw [show k - 1 + (0 + 1) = k by omega]
  rw [this] at hb
  rcases Nat.lt_or_ge (x2 + s2 / B) 2 with h | h
  · exact h
  · have := Nat.mul_le_mul_left (B ^ k) h
    omega
end Go.Proofs.YtakbkbmjeanboaaGreatDoor.Dgt
