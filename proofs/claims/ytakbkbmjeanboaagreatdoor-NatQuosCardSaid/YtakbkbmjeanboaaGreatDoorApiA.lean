/- The functions of package nat on strings: Cmp, Add, Sub, Mul, Quo. Each theorem names its conditions. -/
import Derived.Test.YtakbkbmjeanboaaGreatDoorLimL
namespace Go.Proofs.YtakbkbmjeanboaaGreatDoor
open Go.RowKit Go.Shelf
open Dgt
set_option linter.unusedVariables false

theorem len32 (a : ByteArray) : (digs 4294967296 (numS a)).length ≤ a.size := by
  have h := valB_lt (revB_ok a)
  rw [revB_len] at h
  exact digs_len_le (by decide) (Nat.lt_of_lt_of_le h (Nat.pow_le_pow_left (by decide) _))
theorem enc_len (n : Nat) {k : Nat} (h : n < 256 ^ k) : (encS n).size ≤ k := by rw [encS_size]; exact digs_len_le (by decide) h
theorem numS_lt (a : ByteArray) : numS a < 256 ^ a.size := by
  have h := valB_lt (revB_ok a)
  rwa [revB_len] at h
theorem encS_zero : encS 0 = ⟨#[]⟩ := by unfold encS encL; rw [digs_zero]; rfl
def remS (m n : Nat) : Nat := if n = 0 then 0 else m % n
theorem digs_nil_iff (a : ByteArray) : (digs 4294967296 (numS a)).length = 0 ↔ numS a = 0 := by
  rw [List.length_eq_zero_iff, digs_eq_nil (by decide)]
set_option maxHeartbeats 1000000 in
theorem Cmp_any (a b : ByteArray) (w : World) (ha : a.size ≤ 100000000) (hb : b.size ≤ 100000000) :
    Calls Tryz.prog 40 #[.string a, .string b] w fun e w' => e = .returned (.int .i64 (cmpI (numS a) (numS b))) ∧ Below w.heap.size w w' := by
  have la := len32 a; have lb := len32 b
  obtain ⟨m, hm⟩ : ∃ m, numS a = m := ⟨_, rfl⟩
  obtain ⟨n, hn⟩ : ∃ n, numS b = n := ⟨_, rfl⟩
  have OA := Lib.hid (of_any a · (by omega)); have OB := Lib.hid (of_any b · (by omega))
  rw [hm] at la OA; rw [hn] at lb OB
  rw [hm, hn]
  have LA := Lib.hid (show (digs 4294967296 m).length ≤ 100000000 by omega); have LB := Lib.hid (show (digs 4294967296 n).length ≤ 100000000 by omega)
  clear la lb ha hb hm hn
  go_enter Tryz.func40, Tryz.ntmps40
  go_wp2_with fail
  refine (OA.out _).mono ?_
  rintro e w1 ⟨v1, rfl, hl, hb⟩
  have H1 := Lib.hid hl; have HB := Lib.hid hb
  clear hl hb
  go_wp2_with fail
  refine (OB.out _).mono ?_
  rintro e w2 ⟨v2, rfl, hl, hb⟩
  have H1 := Lib.hid (H1.out.up hb); have H2 := Lib.hid hl; have HB := Lib.hid (HB.out.trans (hb.mono HB.out.size))
  clear hl hb
  go_wp2_with fail
  refine (compare_any _ _ m n _ H1.out H2.out).mono ?_
  rintro e w3 ⟨rfl, hb⟩
  have HB := Lib.hid (HB.out.trans (hb.mono HB.out.size))
  clear hb
  go_wp2_with fail
  go_ret
  exact ⟨rfl, HB.out⟩
set_option maxHeartbeats 1000000 in
theorem Add_any (a b : ByteArray) (w : World) (ha : a.size ≤ 100000000) (hb : b.size ≤ 100000000) :
    Calls Tryz.prog 39 #[.string a, .string b] w fun e w' => e = .returned (.string (encS (numS a + numS b))) ∧ Below w.heap.size w w' := by
  have la := len32 a; have lb := len32 b
  obtain ⟨m, hm⟩ : ∃ m, numS a = m := ⟨_, rfl⟩
  obtain ⟨n, hn⟩ : ∃ n, numS b = n := ⟨_, rfl⟩
  have OA := Lib.hid (of_any a · (by omega)); have OB := Lib.hid (of_any b · (by omega))
  rw [hm] at la OA; rw [hn] at lb OB
  rw [hm, hn]
  have LA := Lib.hid (show (digs 4294967296 m).length ≤ 100000000 by omega); have LB := Lib.hid (show (digs 4294967296 n).length ≤ 100000000 by omega)
  clear la lb ha hb hm hn
  go_enter Tryz.func39, Tryz.ntmps39
  go_wp2_with fail
  refine (OA.out _).mono ?_
  rintro e w1 ⟨v1, rfl, hl, hb⟩
  have H1 := Lib.hid hl; have HB := Lib.hid hb
  clear hl hb
  go_wp2_with fail
  refine (OB.out _).mono ?_
  rintro e w2 ⟨v2, rfl, hl, hb⟩
  have H1 := Lib.hid (H1.out.up hb); have H2 := Lib.hid hl; have HB := Lib.hid (HB.out.trans (hb.mono HB.out.size))
  clear hl hb
  go_wp2_with fail
  refine (sum_any _ _ _ _ _ H1.out H2.out (by have := LA.out; omega) (by have := LB.out; omega)).mono ?_
  rintro e w3 ⟨v3, rfl, hl, hb⟩
  rw [valB_digs (by decide), valB_digs (by decide)] at hl
  have H3 := Lib.hid hl; have HB := Lib.hid (HB.out.trans (hb.mono HB.out.size))
  clear hl hb
  go_wp2_with fail
  refine (number_any _ _ _ H3.out (by have := digs_len_add (B := 4294967296) (by decide) m n; have := LA.out; have := LB.out; omega)).mono ?_
  rintro e w4 ⟨rfl, hb⟩
  rw [valB_digs (by decide)]
  have HB := Lib.hid (HB.out.trans (hb.mono HB.out.size))
  clear hb
  go_wp2_with fail
  go_ret
  exact ⟨rfl, HB.out⟩
set_option maxHeartbeats 1000000 in
theorem Mul_any (a b : ByteArray) (w : World) (ha : a.size ≤ 100000000) (hb : b.size ≤ 100000000) :
    Calls Tryz.prog 30 #[.string a, .string b] w fun e w' => e = .returned (.string (encS (numS a * numS b))) ∧ Below w.heap.size w w' := by
  have la := len32 a; have lb := len32 b
  obtain ⟨m, hm⟩ : ∃ m, numS a = m := ⟨_, rfl⟩
  obtain ⟨n, hn⟩ : ∃ n, numS b = n := ⟨_, rfl⟩
  have OA := Lib.hid (of_any a · (by omega)); have OB := Lib.hid (of_any b · (by omega))
  rw [hm] at la OA; rw [hn] at lb OB
  rw [hm, hn]
  have LA := Lib.hid (show (digs 4294967296 m).length ≤ 100000000 by omega); have LB := Lib.hid (show (digs 4294967296 n).length ≤ 100000000 by omega)
  clear la lb ha hb hm hn
  go_enter Tryz.func30, Tryz.ntmps30
  go_wp2_with fail
  refine (OA.out _).mono ?_
  rintro e w1 ⟨v1, rfl, hl, hb⟩
  have H1 := Lib.hid hl; have HB := Lib.hid hb
  clear hl hb
  go_wp2_with fail
  refine (OB.out _).mono ?_
  rintro e w2 ⟨v2, rfl, hl, hb⟩
  have H1 := Lib.hid (H1.out.up hb); have H2 := Lib.hid hl; have HB := Lib.hid (HB.out.trans (hb.mono HB.out.size))
  clear hl hb
  go_wp2_with fail
  refine (product_any _ _ _ _ _ H1.out H2.out (by have := LA.out; omega) (by have := LB.out; omega)).mono ?_
  rintro e w3 ⟨v3, rfl, hl, hb⟩
  rw [valB_digs (by decide), valB_digs (by decide)] at hl
  have H3 := Lib.hid hl; have HB := Lib.hid (HB.out.trans (hb.mono HB.out.size))
  clear hl hb
  go_wp2_with fail
  refine (number_any _ _ _ H3.out (by have := digs_len_mul (B := 4294967296) (by decide) m n; have := LA.out; have := LB.out; omega)).mono ?_
  rintro e w4 ⟨rfl, hb⟩
  rw [valB_digs (by decide)]
  have HB := Lib.hid (HB.out.trans (hb.mono HB.out.size))
  clear hb
  go_wp2_with fail
  go_ret
  exact ⟨rfl, HB.out⟩
set_option maxHeartbeats 1000000 in
theorem Sub_any (a b : ByteArray) (w : World) (ha : a.size ≤ 100000000) (hb : b.size ≤ 100000000) :
    Calls Tryz.prog 38 #[.string a, .string b] w fun e w' => e = .returned (.tuple #[.string (encS (numS a - numS b)), .bool (decide (numS b ≤ numS a))]) ∧ Below w.heap.size w w' := by
  have la := len32 a; have lb := len32 b
  obtain ⟨m, hm⟩ : ∃ m, numS a = m := ⟨_, rfl⟩
  obtain ⟨n, hn⟩ : ∃ n, numS b = n := ⟨_, rfl⟩
  have OA := Lib.hid (of_any a · (by omega)); have OB := Lib.hid (of_any b · (by omega))
  rw [hm] at la OA; rw [hn] at lb OB
  rw [hm, hn]
  have LA := Lib.hid (show (digs 4294967296 m).length ≤ 100000000 by omega); have LB := Lib.hid (show (digs 4294967296 n).length ≤ 100000000 by omega)
  clear la lb ha hb hm hn
  go_enter Tryz.func38, Tryz.ntmps38
  go_wp2_with fail
  refine (OA.out _).mono ?_
  rintro e w1 ⟨v1, rfl, hl, hb⟩
  have H1 := Lib.hid hl; have HB := Lib.hid hb
  clear hl hb
  go_wp2_with fail
  refine (OB.out _).mono ?_
  rintro e w2 ⟨v2, rfl, hl, hb⟩
  have H1 := Lib.hid (H1.out.up hb); have H2 := Lib.hid hl; have HB := Lib.hid (HB.out.trans (hb.mono HB.out.size))
  clear hl hb
  go_wp2_with fail
  refine (compare_any _ _ m n _ H1.out H2.out).mono ?_
  rintro e w3 ⟨rfl, hb⟩
  have H1 := Lib.hid (H1.out.up hb); have H2 := Lib.hid (H2.out.up hb)
  have HB := Lib.hid (HB.out.trans (hb.mono HB.out.size))
  clear hb
  rcases Nat.lt_or_ge m n with h | h
  · rw [cmpI_lt h]
    have HE := Lib.hid (show encS (m - n) = ⟨#[]⟩ ∧ decide (n ≤ m) = false from ⟨by rw [Nat.sub_eq_zero_of_le (Nat.le_of_lt h)]; exact encS_zero, by simpa using h⟩)
    clear h
    go_wp2_with fail
    go_ret2
    exact ⟨by rw [HE.out.1, HE.out.2]; rfl, HB.out⟩
  · obtain ⟨c, hc, hc0⟩ := cmp_ge h
    rw [hc]
    have HE := Lib.hid (show decide (n ≤ m) = true by simpa using h)
    have HLE := Lib.hid h
    clear hc h
    go_wp2_with fail
    refine (less_any _ _ _ _ _ H1.out H2.out (by have := LA.out; omega) (digs_len_mono (by decide) HLE.out) (by rw [valB_digs (by decide), valB_digs (by decide)]; exact HLE.out)).mono ?_
    rintro e w4 ⟨v3, rfl, hl, hb⟩
    rw [valB_digs (by decide), valB_digs (by decide)] at hl
    have H3 := Lib.hid hl; have HB := Lib.hid (HB.out.trans (hb.mono HB.out.size))
    clear hl hb
    go_wp2_with fail
    refine (number_any _ _ _ H3.out (by have := digs_len_mono (B := 4294967296) (by decide) (Nat.sub_le m n); have := LA.out; omega)).mono ?_
    rintro e w5 ⟨rfl, hb⟩
    rw [valB_digs (by decide)]
    have HB := Lib.hid (HB.out.trans (hb.mono HB.out.size))
    clear hb
    go_wp2_with fail
    go_ret2
    exact ⟨by rw [HE.out]; rfl, HB.out⟩
set_option maxHeartbeats 1000000 in
theorem Quo_any (a b : ByteArray) (w : World) (ha : a.size ≤ 100000000) (hb : b.size ≤ 100000000) :
    Calls Tryz.prog 19 #[.string a, .string b] w fun e w' => e = .returned (.tuple #[.string (encS (numS a / numS b)), .string (encS (remS (numS a) (numS b))), .bool (decide (0 < numS b))]) ∧ Below w.heap.size w w' := by
  have la := len32 a; have lb := len32 b
  obtain ⟨m, hm⟩ : ∃ m, numS a = m := ⟨_, rfl⟩
  obtain ⟨n, hn⟩ : ∃ n, numS b = n := ⟨_, rfl⟩
  have OA := Lib.hid (of_any a · (by omega)); have OB := Lib.hid (of_any b · (by omega))
  rw [hm] at la OA; rw [hn] at lb OB
  rw [hm, hn]
  have LA := Lib.hid (show (digs 4294967296 m).length ≤ 100000000 by omega); have LB := Lib.hid (show (digs 4294967296 n).length ≤ 100000000 by omega)
  clear la lb ha hb hm hn
  go_enter Tryz.func19, Tryz.ntmps19
  go_wp2_with fail
  refine (OB.out _).mono ?_
  rintro e w1 ⟨v1, rfl, hl, hb⟩
  have H1 := Lib.hid hl; have HB := Lib.hid hb
  clear hl hb
  obtain ⟨p, k, cp, rfl, hk, -, -⟩ := H1.out.open_
  by_cases h0 : n = 0
  · have hk0 : k = 0 := by rw [hk, h0, digs_zero]; rfl
    subst hk0
    have HE := Lib.hid (show encS (m / n) = ⟨#[]⟩ ∧ encS (remS m n) = ⟨#[]⟩ ∧ decide (0 < n) = false from ⟨by rw [h0, Nat.div_zero]; exact encS_zero, by rw [remS, if_pos h0]; exact encS_zero, by simp [h0]⟩)
    clear hk h0
    go_wp2_with fail
    go_ret3
    exact ⟨by rw [HE.out.1, HE.out.2.1, HE.out.2.2]; rfl, HB.out⟩
  · have hk0 : ¬ (k : Int) = 0 := by
      have : (digs 4294967296 n).length ≠ 0 := fun e => h0 ((digs_eq_nil (by decide)).1 (List.eq_nil_of_length_eq_zero e))
      omega
    have HE := Lib.hid (show remS m n = m % n ∧ decide (0 < n) = true from ⟨by rw [remS, if_neg h0], by simp; omega⟩)
    have HN := Lib.hid (show 0 < n by omega)
    have HN0 := Lib.hid (show k ≠ 0 by omega)
    clear hk h0
    go_wp2_with fail
    refine (OA.out _).mono ?_
    rintro e w2 ⟨v2, rfl, hl, hb⟩
    have H1 := Lib.hid (H1.out.up hb); have H2 := Lib.hid hl; have HB := Lib.hid (HB.out.trans (hb.mono HB.out.size))
    clear hl hb
    go_wp2_with fail
    refine (divide_any _ _ m n _ H2.out H1.out HN.out (by have := LA.out; omega)).mono ?_
    rintro e w3 ⟨vq, vr, rfl, hq, hr, hb⟩
    have H1 := Lib.hid hq; have H2 := Lib.hid hr; have HB := Lib.hid (HB.out.trans (hb.mono HB.out.size))
    clear hq hr hb
    go_wp2_with fail
    refine (number_any _ _ _ H1.out (by have := digs_len_mono (B := 4294967296) (by decide) (Nat.div_le_self m n); have := LA.out; omega)).mono ?_
    rintro e w4 ⟨rfl, hb⟩
    rw [valB_digs (by decide)]
    have H2 := Lib.hid (H2.out.up hb); have HB := Lib.hid (HB.out.trans (hb.mono HB.out.size))
    clear hb
    go_wp2_with fail
    refine (number_any _ _ _ H2.out (by have := digs_len_mono (B := 4294967296) (by decide) (Nat.mod_le m n); have := LA.out; omega)).mono ?_
    rintro e w5 ⟨rfl, hb⟩
    rw [valB_digs (by decide)]
    have HB := Lib.hid (HB.out.trans (hb.mono HB.out.size))
    clear hb
    go_wp2_with fail
    go_ret3
    exact ⟨by rw [HE.out.1, HE.out.2]; rfl, HB.out⟩
end Go.Proofs.YtakbkbmjeanboaaGreatDoor
