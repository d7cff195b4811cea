/- Plain: one digit of a quotient, and the whole of it. No program in sight; each theorem names its conditions. -/
import Derived.Test.YtakbkbmjeanboaaGreatDoorLimK
namespace Go.Proofs.YtakbkbmjeanboaaGreatDoor
open Dgt
set_option linter.unusedVariables false

/-- the estimate is the digit, or one more -/
theorem est_digit {Vu V P u2 qh T V2 : Nat} (hP : 0 < P) (h1 : Vu < 4294967296 * V) (hT : T * 4294967296 + u2 = Vu / P) (hV2 : V2 = V / P) (hbig : 4294967296 ≤ V2) (h : EstR T V2 u2 qh) : Vu / V ≤ qh ∧ qh ≤ Vu / V + 1 := by
  obtain ⟨hq, h2, h3⟩ := h
  rw [hT] at h2 h3
  have hV : 0 < V := by
    rcases Nat.eq_zero_or_pos V with rfl | h
    · simp at h1
    · exact h
  have e1 : V2 * P ≤ V := by rw [hV2]; exact Nat.div_mul_le_self V P
  have e2 : V < (V2 + 1) * P := by rw [hV2, Nat.add_mul, Nat.one_mul]; exact Nat.lt_div_mul_add hP
  have e3 : Vu / P * P ≤ Vu := Nat.div_mul_le_self Vu P
  have e4 : Vu < (Vu / P + 1) * P := by rw [Nat.add_mul, Nat.one_mul]; exact Nat.lt_div_mul_add hP
  constructor
  · have : Vu / V < qh + 1 := by
      rw [Nat.div_lt_iff_lt_mul hV]
      rcases h3 with rfl | h3
      · exact h1
      · calc Vu < (Vu / P + 1) * P := e4
          _ ≤ ((qh + 1) * V2) * P := Nat.mul_le_mul_right _ h3
          _ = (qh + 1) * (V2 * P) := Nat.mul_assoc _ _ _
          _ ≤ (qh + 1) * V := Nat.mul_le_mul_left _ e1
    omega
  · rcases qh with _ | p
    · exact Nat.zero_le _
    · have : p ≤ Vu / V := by
        rw [Nat.le_div_iff_mul_le hV]
        have f1 : p * V ≤ p * ((V2 + 1) * P) := Nat.mul_le_mul_left _ (Nat.le_of_lt e2)
        have f2 : p * ((V2 + 1) * P) = (p * V2 + p) * P := by rw [← Nat.mul_assoc, Nat.mul_add, Nat.mul_one]
        have f3 : (p * V2 + p) * P ≤ ((p + 1) * V2) * P := Nat.mul_le_mul_right _ (by rw [Nat.add_mul p 1 V2, Nat.one_mul]; omega)
        have f4 : ((p + 1) * V2) * P ≤ Vu / P * P := Nat.mul_le_mul_right _ h2
        rw [f2] at f1
        exact Nat.le_trans f1 (Nat.le_trans f3 (Nat.le_trans f4 e3))
      omega
/-- what is left behind a digit that was right -/
theorem digit_right {Vu V qh R E : Nat} (hV : 0 < V) (hd : Vu / V ≤ qh) (h : R + qh * V = Vu + E * 0) : qh = Vu / V ∧ R = Vu % V := by
  have h1 : qh * V ≤ Vu := by omega
  have h2 : qh ≤ Vu / V := (Nat.le_div_iff_mul_le hV).2 h1
  have h3 : qh = Vu / V := by omega
  refine ⟨h3, ?_⟩
  have := Nat.div_add_mod' Vu V
  rw [h3] at h
  omega
/-- .. and behind one that was one too great -/
theorem digit_less {Vu V qh R R' E c : Nat} (hV : 0 < V) (hd : qh ≤ Vu / V + 1) (hE : V ≤ E) (hR : R < E) (hR' : R' < E) (h : R + qh * V = Vu + E * 1) (hc : c ≤ 1) (h2 : R' + E * c = R + V) : ∃ p, qh = p + 1 ∧ p = Vu / V ∧ R' = Vu % V := by
  have h3 : ¬ qh ≤ Vu / V := fun h' => by
    have := (Nat.le_div_iff_mul_le hV).1 h'
    omega
  have h4 : qh = Vu / V + 1 := by omega
  refine ⟨Vu / V, h4, rfl, ?_⟩
  have h5 := Nat.div_add_mod' Vu V
  have h6 := Nat.mod_lt Vu hV
  rw [h4, Nat.add_mul, Nat.one_mul] at h
  rcases (by omega : c = 0 ∨ c = 1) with rfl | rfl <;> simp at h2 h <;> omega
/-- the list in three: before the window, the window, behind it (nothing there) -/
theorem window {U : List Nat} (ho : okB 4294967296 U) {k n V : Nat} (hl : k + n < U.length) (hV : V < 4294967296 ^ n) (h : valB 4294967296 U < V * 4294967296 ^ (k + 1)) :
    valB 4294967296 U = valB 4294967296 (U.take k) + 4294967296 ^ k * valB 4294967296 ((U.drop k).take (n + 1)) ∧ valB 4294967296 ((U.drop k).take (n + 1)) < 4294967296 * V ∧ valB 4294967296 (U.drop (k + n + 1)) = 0 := by
  have e1 := valB_split 4294967296 U k
  rw [Nat.min_eq_left (by omega)] at e1
  have e2 := valB_split 4294967296 (U.drop k) (n + 1)
  rw [List.length_drop, Nat.min_eq_left (by omega), List.drop_drop] at e2
  have hp : 0 < 4294967296 ^ k := Nat.pow_pos (by decide)
  have e3 : valB 4294967296 (U.drop (k + (n + 1))) = 0 := by
    rcases Nat.eq_zero_or_pos (valB 4294967296 (U.drop (k + (n + 1)))) with h0 | h0
    · exact h0
    · exfalso
      have f1 : 4294967296 ^ (n + 1) ≤ 4294967296 ^ (n + 1) * valB 4294967296 (U.drop (k + (n + 1))) := Nat.le_mul_of_pos_right _ h0
      have f2 : 4294967296 ^ k * 4294967296 ^ (n + 1) ≤ 4294967296 ^ k * valB 4294967296 (U.drop k) := Nat.mul_le_mul_left _ (by omega)
      have f3 : V * 4294967296 ^ (k + 1) ≤ 4294967296 ^ n * 4294967296 ^ (k + 1) := Nat.mul_le_mul_right _ (Nat.le_of_lt hV)
      rw [← Nat.pow_add] at f2 f3
      rw [show n + (k + 1) = k + (n + 1) by omega] at f3
      omega
  rw [e3, Nat.mul_zero, Nat.add_zero] at e2
  refine ⟨by rw [← e2]; exact e1, ?_, e3⟩
  rw [← e2]
  have f4 : 4294967296 ^ k * valB 4294967296 (U.drop k) < 4294967296 ^ k * (4294967296 * V) := by
    have : V * 4294967296 ^ (k + 1) = 4294967296 ^ k * (4294967296 * V) := by rw [Nat.pow_succ, Nat.mul_comm V, Nat.mul_assoc]
    omega
  exact Nat.lt_of_mul_lt_mul_left f4
/-- the whole behind one digit -/
theorem div_step {U R Q : List Nat} {k n V M : Nat} (ho : okB 4294967296 U) (hl : k + n < U.length) (hV0 : 0 < V) (hV : V < 4294967296 ^ n) (h : valB 4294967296 U < V * 4294967296 ^ (k + 1)) (hM : valB 4294967296 U + V * 4294967296 ^ (k + 1) * valB 4294967296 Q = M)
    (hRl : R.length = n + 1) (hR : valB 4294967296 R = valB 4294967296 ((U.drop k).take (n + 1)) % V) :
    valB 4294967296 (U.take k ++ (R ++ U.drop (k + n + 1))) < V * 4294967296 ^ k ∧ valB 4294967296 (U.take k ++ (R ++ U.drop (k + n + 1))) + V * 4294967296 ^ k * valB 4294967296 (valB 4294967296 ((U.drop k).take (n + 1)) / V :: Q) = M := by
  obtain ⟨e1, e2, e3⟩ := window ho hl hV h
  generalize valB 4294967296 ((U.drop k).take (n + 1)) = Vu at e1 e2 hR ⊢
  have hX : valB 4294967296 (U.take k) < 4294967296 ^ k := by
    have := valB_lt (ho.take k)
    rwa [List.length_take, Nat.min_eq_left (by omega)] at this
  have e4 : valB 4294967296 (U.take k ++ (R ++ U.drop (k + n + 1))) = valB 4294967296 (U.take k) + 4294967296 ^ k * (Vu % V) := by
    rw [valB_append, valB_append, e3, Nat.mul_zero, Nat.add_zero, hR, List.length_take, Nat.min_eq_left (by omega)]
  rw [e4]
  have h5 := Nat.mod_lt Vu hV0
  have h6 := Nat.div_add_mod' Vu V
  generalize valB 4294967296 (U.take k) = X at e1 hX ⊢
  generalize hP : 4294967296 ^ k = P at e1 hX ⊢
  have hPs : 4294967296 ^ (k + 1) = P * 4294967296 := by rw [Nat.pow_succ, hP]
  rw [hPs] at hM
  constructor
  · have : P * (Vu % V) + P ≤ P * V := by rw [← Nat.mul_succ]; exact Nat.mul_le_mul_left _ h5
    rw [Nat.mul_comm V P]; omega
  · rw [valB, ← hM, e1]
    have g1 : P * Vu = P * (Vu / V * V) + P * (Vu % V) := by rw [← Nat.mul_add, h6]
    have g2 : V * P * (Vu / V + 4294967296 * valB 4294967296 Q) = P * (Vu / V * V) + V * (P * 4294967296) * valB 4294967296 Q := by
      rw [Nat.mul_add, Nat.mul_comm V P, Nat.mul_assoc P V (Vu / V), Nat.mul_comm V (Vu / V)]
      congr 1
      rw [← Nat.mul_assoc, Nat.mul_comm P V, Nat.mul_assoc V P]
    rw [g1, g2]; omega
/-- the end -/
theorem div_end {U Q : List Nat} {V M m n s : Nat} (hV0 : 0 < V) (h : valB 4294967296 U < V * 4294967296 ^ 0) (hM : valB 4294967296 U + V * 4294967296 ^ 0 * valB 4294967296 Q = M) (hVe : V = n * 2 ^ s) (hMe : M = m * 2 ^ s) : valB 4294967296 Q = m / n ∧ valB 4294967296 U / 2 ^ s = m % n := by
  rw [Nat.pow_zero, Nat.mul_one] at h hM
  have hp : 0 < 2 ^ s := Nat.pow_pos (by decide)
  have e1 : M / V = valB 4294967296 Q := by
    rw [← hM, Nat.add_mul_div_left _ _ hV0, Nat.div_eq_of_lt h, Nat.zero_add]
  have e2 : M % V = valB 4294967296 U := by
    rw [← hM, Nat.add_mul_mod_self_left, Nat.mod_eq_of_lt h]
  constructor
  · rw [← e1, hVe, hMe, Nat.mul_div_mul_right _ _ hp]
  · rw [← e2, hVe, hMe, Nat.mul_mod_mul_right, Nat.mul_div_cancel _ hp]
theorem bitLen_bd {x : Nat} (h0 : 0 < x) (h : x < 2 ^ 64) : 0 < Lib.bitLen x ∧ 2 ^ (Lib.bitLen x - 1) ≤ x ∧ x < 2 ^ Lib.bitLen x := by
  have hp : 0 < Lib.bitLen x := by rw [Lib.bitLen_half x (by omega) h]; omega
  have hl : Lib.bitLen x ≤ 64 := Lib.bitLen_le x 64 (Nat.le_refl _) h
  refine ⟨hp, ?_, ?_⟩
  · rcases Nat.lt_or_ge x (2 ^ (Lib.bitLen x - 1)) with h' | h'
    · have := Lib.bitLen_le x (Lib.bitLen x - 1) (by omega) h'; omega
    · exact h'
  · rcases Nat.lt_or_ge x (2 ^ Lib.bitLen x) with h' | h'
    · exact h'
    · have h1 := Lib.bitLen_shift (Lib.bitLen x) x h' h
      have h2 : 0 < x / 2 ^ Lib.bitLen x := Nat.div_pos h' (Nat.pow_pos (by decide))
      have h3 : 0 < Lib.bitLen (x / 2 ^ Lib.bitLen x) := by rw [Lib.bitLen_half _ (by omega) (Nat.lt_of_le_of_lt (Nat.div_le_self _ _) h)]; omega
      omega
/-- a divisor shifted so that its first digit is great -/
theorem norm_div {n nb top : Nat} (hn : 0 < n) (hnb : (digs 4294967296 n).length = nb) (h2 : 0 < nb) (ht : (digs 4294967296 n)[nb - 1]? = some top) :
    0 < top ∧ ∃ s, 32 - Lib.bitLen top = s ∧ s < 32 ∧ Lib.bitLen top ≤ 32 ∧ (digs 4294967296 (n * 2 ^ s)).length = nb ∧ n * 2 ^ s < 4294967296 ^ nb ∧ 2147483648 * 4294967296 ^ (nb - 1) ≤ n * 2 ^ s := by
  have ho := okB_digs (B := 4294967296) (by decide) n
  have hz := nzL_digs (B := 4294967296) (by decide) n
  obtain ⟨l, hl⟩ : ∃ l, digs 4294967296 n = l := ⟨_, rfl⟩
  rw [hl] at hnb ht ho hz
  obtain ⟨hi, hg⟩ := List.getElem?_eq_some_iff.1 ht
  have hne : l ≠ [] := by rintro rfl; simp at hi
  have ht0 : 0 < top := by
    have := hz hne
    rw [List.getLast_eq_getElem] at this
    simp only [hnb] at this
    rw [hg] at this; omega
  have htl : top < 4294967296 := by rw [← hg]; exact ho.get hi
  obtain ⟨b1, b2, b3⟩ := bitLen_bd ht0 (by omega)
  have b4 : Lib.bitLen top ≤ 32 := Lib.bitLen_le top 32 (by decide) (by omega)
  have hv := valB_digs (B := 4294967296) (by decide) n
  rw [hl] at hv
  have hsp := valB_split 4294967296 l (nb - 1)
  rw [Nat.min_eq_left (by omega), List.drop_eq_getElem_cons hi, hg, List.drop_eq_nil_of_le (by omega)] at hsp
  simp only [valB, Nat.mul_zero, Nat.add_zero] at hsp
  rw [hv] at hsp
  have hlo := valB_lt (ho.take (nb - 1))
  rw [List.length_take, Nat.min_eq_left (by omega)] at hlo
  refine ⟨ht0, _, rfl, by omega, b4, ?_⟩
  generalize hs : 32 - Lib.bitLen top = s
  have e1 : top * 2 ^ s < 4294967296 := by
    have := Nat.mul_lt_mul_of_pos_right b3 (show 0 < 2 ^ s from Nat.pow_pos (by decide))
    rw [← Nat.pow_add, ← hs, show Lib.bitLen top + (32 - Lib.bitLen top) = 32 by omega, hs] at this
    exact this
  have e2 : 2147483648 ≤ top * 2 ^ s := by
    have := Nat.mul_le_mul_right (2 ^ s) b2
    rw [← Nat.pow_add, ← hs, show Lib.bitLen top - 1 + (32 - Lib.bitLen top) = 31 by omega, hs] at this
    exact this
  have e3 : n * 2 ^ s < 4294967296 ^ nb := by
    have f1 : n < 4294967296 ^ (nb - 1) * (top + 1) := by rw [Nat.mul_add, Nat.mul_one]; omega
    have hp : 0 < 2 ^ s := Nat.pow_pos (by decide)
    -- the first digit, shifted, leaves room for the rest
    have f3 : (top + 1) * 2 ^ s ≤ 4294967296 := by
      have := Nat.mul_le_mul_right (2 ^ s) (show top + 1 ≤ 2 ^ Lib.bitLen top from b3)
      rw [← Nat.pow_add, ← hs, show Lib.bitLen top + (32 - Lib.bitLen top) = 32 by omega, hs] at this
      exact this
    have f4 : n * 2 ^ s < 4294967296 ^ (nb - 1) * (top + 1) * 2 ^ s := Nat.mul_lt_mul_of_pos_right f1 hp
    have f5 : 4294967296 ^ (nb - 1) * (top + 1) * 2 ^ s ≤ 4294967296 ^ (nb - 1) * 4294967296 := by rw [Nat.mul_assoc]; exact Nat.mul_le_mul_left _ f3
    rw [← Nat.pow_succ, show (nb - 1).succ = nb by omega] at f5
    exact Nat.lt_of_lt_of_le f4 f5
  have e4 : 2147483648 * 4294967296 ^ (nb - 1) ≤ n * 2 ^ s := by
    have f1 : 4294967296 ^ (nb - 1) * top ≤ n := by omega
    have f2 := Nat.mul_le_mul_right (2 ^ s) f1
    rw [Nat.mul_assoc] at f2
    have f3 := Nat.mul_le_mul_left (4294967296 ^ (nb - 1)) e2
    rw [Nat.mul_comm 2147483648]
    exact Nat.le_trans f3 f2
  refine ⟨?_, e3, e4⟩
  apply Nat.le_antisymm (digs_len_le (by decide) e3)
  have h3 : n ≤ n * 2 ^ s := Nat.le_mul_of_pos_right _ (Nat.pow_pos (by decide))
  have := digs_len_mono (B := 4294967296) (by decide) h3
  rw [hl, hnb] at this
  exact this
/-- the first digits of a list: what three of them say of its value -/
theorem top_two {l : List Nat} (ho : okB 4294967296 l) {n x y : Nat} (hl : l.length = n + 2) (hx : l[n + 1]? = some x) (hy : l[n]? = some y) : x * 4294967296 + y = valB 4294967296 l / 4294967296 ^ n := by
  obtain ⟨i1, g1⟩ := List.getElem?_eq_some_iff.1 hx
  obtain ⟨i2, g2⟩ := List.getElem?_eq_some_iff.1 hy
  have h := valB_split 4294967296 l n
  rw [Nat.min_eq_left (by omega), List.drop_eq_getElem_cons i2, List.drop_eq_getElem_cons i1, List.drop_eq_nil_of_le (by omega), g1, g2] at h
  simp only [valB, Nat.mul_zero, Nat.add_zero] at h
  have hlo := valB_lt (ho.take n)
  rw [List.length_take, Nat.min_eq_left (by omega)] at hlo
  rw [h, Nat.add_mul_div_left _ _ (Nat.pow_pos (by decide)), Nat.div_eq_of_lt hlo]
  omega
theorem top_three {l : List Nat} (ho : okB 4294967296 l) {n x y z : Nat} (hl : l.length = n + 3) (hx : l[n + 2]? = some x) (hy : l[n + 1]? = some y) (hz : l[n]? = some z) : (x * 4294967296 + y) * 4294967296 + z = valB 4294967296 l / 4294967296 ^ n := by
  obtain ⟨i1, g1⟩ := List.getElem?_eq_some_iff.1 hx
  obtain ⟨i2, g2⟩ := List.getElem?_eq_some_iff.1 hy
  obtain ⟨i3, g3⟩ := List.getElem?_eq_some_iff.1 hz
  have h := valB_split 4294967296 l n
  rw [Nat.min_eq_left (by omega), List.drop_eq_getElem_cons i3, List.drop_eq_getElem_cons i2, List.drop_eq_getElem_cons i1, List.drop_eq_nil_of_le (by omega), g1, g2, g3] at h
  simp only [valB, Nat.mul_zero, Nat.add_zero] at h
  have hlo := valB_lt (ho.take n)
  rw [List.length_take, Nat.min_eq_left (by omega)] at hlo
  rw [h, Nat.add_mul_div_left _ _ (Nat.pow_pos (by decide)), Nat.div_eq_of_lt hlo]
  omega
end Go.Proofs.YtakbkbmjeanboaaGreatDoor
