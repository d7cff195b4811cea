/- Right, Int and small of the reference implementation. Each theorem names its conditions. -/
import Derived.Test.YtakbkbmjeanboaaGreatDoorRefN
namespace Go.Proofs.YtakbkbmjeanboaaGreatDoor
open Go.RowKit Go.Shelf
open Dgt
set_option linter.unusedVariables false

theorem byte_at (m : Nat) {k : Nat} (h : k < (encS m).size) : (encS m)[k].toNat = m / 256 ^ ((encS m).size - 1 - k) % 256 := by
  have hs := encS_size m
  have hr := revB_encS m
  have e := revB_get (encS m) (k := (encS m).size - 1 - k) (by omega)
  have hi : (encS m).size - 1 - k < (digs 256 m).length := by omega
  have g := get_of_val (okB_digs (B := 256) (by decide) m) hi
  rw [valB_digs (by decide)] at g
  rw [g]
  have e2 : (encS m).size - 1 - ((encS m).size - 1 - k) = k := by omega
  simp only [e2] at e
  rw [← e]
  simp only [hr]
theorem pre_step (m s : Nat) {k : Nat} (h : k < s) : m / 256 ^ (s - (k + 1)) = m / 256 ^ (s - k) * 256 + m / 256 ^ (s - 1 - k) % 256 := by
  rw [show s - (k + 1) = s - 1 - k by omega, show s - k = (s - 1 - k) + 1 by omega, Nat.pow_succ, ← Nat.div_div_eq_div_mul]
  omega
theorem size_big {m : Nat} (h : 8 < (encS m).size) : 9223372036854775808 ≤ m := by
  have hs := encS_size m
  have h0 : 0 < m := by
    rcases Nat.eq_zero_or_pos m with rfl | h0
    · rw [encS_size, digs_zero] at h; simp at h
    · exact h0
  have h1 := digs_ge (B := 256) (by decide) h0
  have h2 : 256 ^ 8 ≤ 256 ^ ((digs 256 m).length - 1) := Nat.pow_le_pow_right (by decide) (by omega)
  exact Nat.le_trans (show 9223372036854775808 ≤ 256 ^ 8 by decide) (Nat.le_trans h2 h1)
theorem size_eight {m : Nat} (h : (encS m).size = 8) : (m < 9223372036854775808 ↔ (encS m)[0].toNat ≤ 127) := by
  have h1 := byte_at m (k := 0) (by omega)
  have hl := digs_lt (B := 256) (by decide) m
  rw [← encS_size, h] at hl
  rw [h1, h]
  have e : (256 : Nat) ^ (8 - 1 - 0) = 72057594037927936 := by decide
  have e8 : (256 : Nat) ^ 8 = 18446744073709551616 := by decide
  rw [e8] at hl
  rw [e]
  omega
theorem size_less {m : Nat} (h : (encS m).size < 8) : m < 9223372036854775808 := by
  have hl := digs_lt (B := 256) (by decide) m
  have h2 : 256 ^ (digs 256 m).length ≤ 256 ^ 7 := Nat.pow_le_pow_right (by decide) (by rw [← encS_size]; omega)
  exact Nat.lt_of_lt_of_le hl (Nat.le_trans h2 (by decide))
theorem wrap_x {x : Nat} (h : x < 256) : wrap64 (x : Int) = (x : Int) := by unfold wrap64; omega
theorem encS_len_le (a : ByteArray) : (encS (numS a)).size ≤ a.size := enc_len _ (numS_lt a)
set_option maxHeartbeats 1000000 in
set_option maxRecDepth 100000 in
theorem rInt_any (a : ByteArray) (w : World) (ha : a.size ≤ 100000000) :
    Calls Tryz.prog 33 #[.string a] w fun e w' => e = .returned (.tuple #[.int .i64 ((intV (numS a) : Nat) : Int), .bool (intOk (numS a))]) ∧ w = w' := by
  have HC := Lib.hid (Canon_any a · ha)
  have hl := encS_len_le a
  obtain ⟨m, hm⟩ : ∃ m, numS a = m := ⟨_, rfl⟩
  rw [hm] at HC hl ⊢
  obtain ⟨c, hc⟩ : ∃ c, encS m = c := ⟨_, rfl⟩
  have hcs : (c.size : Int) ≤ 100000000 := by rw [← hc]; omega
  have HCM := Lib.hid hc
  rw [hc] at HC
  clear hm hl ha
  go_enter Tryz.func33, Tryz.ntmps33
  go_wp2_with fail
  refine (HC.out _).mono ?_
  rintro e w1 ⟨rfl, rfl⟩
  clear HC
  have HP := Lib.hid (fun k (h : k < c.size) => pre_step m c.size h)
  have HBY := Lib.hid (fun k (h : k < (encS m).size) => byte_at m h)
  by_cases h8 : 8 < c.size
  · have HE := Lib.hid (int_no (size_big (by rw [hc]; exact h8)))
    have h8' : 8 < (c.size : Int) := by omega
    clear h8 hc
    go_wp2_with fail
    go_ret2
    exact ⟨by rw [HE.out.1, HE.out.2]; rfl, rfl⟩
  · have h8' : ¬ 8 < (c.size : Int) := by omega
    by_cases h88 : c.size = 8 ∧ ∃ h : 0 < c.size, 127 < c[0].toNat
    · obtain ⟨h9, hp, ht⟩ := h88
      have HE := Lib.hid (int_no (m := m) (by
        subst hc
        have := size_eight h9
        omega))
      obtain ⟨x, hx⟩ : ∃ x, c[0].toNat = x := ⟨_, rfl⟩
      have ht' : 127 < (x : Int) := by omega
      have hbq : ((c.size : Int) == 8) = true := by rw [beq_iff_eq]; omega
      have hp' : 0 < (c.size : Int) := by omega
      clear h8 hc h9 ht
      go_wp2_with fail
      go_ret2
      exact ⟨by rw [HE.out.1, HE.out.2]; rfl, rfl⟩
    · have hlt : m < 9223372036854775808 := by
        subst hc
        rcases (by omega : (encS m).size = 8 ∨ (encS m).size < 8) with h | h
        · refine (size_eight h).2 ?_
          rcases Nat.lt_or_ge 127 ((encS m)[0]'(by omega)).toNat with h' | h'
          · exact absurd ⟨h, by omega, h'⟩ h88
          · exact h'
        · exact size_less h
      have HE := Lib.hid (int_yes hlt)
      have HLT := Lib.hid hlt
      have HZ : Hid (m / 256 ^ (c.size - 0) = 0) := Lib.hid (by
        rw [Nat.sub_zero, ← hc, encS_size]
        exact Nat.div_eq_of_lt (digs_lt (by decide) m))
      by_cases h9 : c.size = 8
      · have hp : 0 < c.size := by omega
        obtain ⟨x0, hx0⟩ : ∃ x, c[0].toNat = x := ⟨_, rfl⟩
        have ht' : ¬ 127 < (x0 : Int) := fun h => h88 ⟨h9, hp, by omega⟩
        have hbq : ((c.size : Int) == 8) = true := by rw [beq_iff_eq]; omega
        have hp' : 0 < (c.size : Int) := by omega
        clear h8 hc h9 h88 hlt
        go_wp2_with fail
        go_loop [4, 5] (fun nv i => ∃ k : Nat, k ≤ c.size ∧ i = .int .i64 (k : Int) ∧ nv = .int .i64 ((m / 256 ^ (c.size - k) : Nat) : Int)) (fun _ i => c.size - (intOf i).toNat)
        case atStart => exact ⟨0, Nat.zero_le _, rfl, by rw [HZ.out]; rfl⟩
        case round =>
          obtain ⟨k, hk, rfl, rfl⟩ := hrel
          by_cases hkl : k < c.size
          · have hkl' : (k : Int) < (c.size : Int) := by omega
            have hst := HP.out k hkl
            have hby : c[k].toNat = m / 256 ^ (c.size - 1 - k) % 256 := by
              have h := HBY.out k (by rw [HCM.out]; exact hkl)
              simp only [HCM.out] at h
              exact h
            rw [← hby] at hst
            obtain ⟨x, hx⟩ : ∃ x, c[k].toNat = x := ⟨_, rfl⟩
            obtain ⟨p, hp⟩ : ∃ p, m / 256 ^ (c.size - k) = p := ⟨_, rfl⟩
            obtain ⟨q, hq⟩ : ∃ q, m / 256 ^ (c.size - (k + 1)) = q := ⟨_, rfl⟩
            rw [hx, hp, hq] at hst
            rw [hp]
            have hqm : q ≤ m := by rw [← hq]; exact Nat.div_le_self _ _
            obtain ⟨z, hz⟩ : ∃ z, p * 256 = z := ⟨_, rfl⟩
            have f1 : (p : Int) * 256 = (z : Int) := by omega
            have f2 : wrap64 (z : Int) = (z : Int) := by have := HLT.out; unfold wrap64; omega
            have HXL : Hid (x < 256) := Lib.hid (by rw [← hx]; exact (c[k]).toNat_lt)
            have f3 : (z : Int) + (x : Int) = (q : Int) := by omega
            have f4 : wrap64 (q : Int) = (q : Int) := by have := HLT.out; unfold wrap64; omega
            have HQ := Lib.hid hq
            clear hst hby hp hq hz hqm
            go_wp2_with fail
            go_round
            case rel => exact ⟨k + 1, by omega, by go_num, by rw [HQ.out, ← f4, ← f3, wrap_x HXL.out]⟩
            case measure => simp [intOf]; omega
          · have hge : ¬ (k : Int) < (c.size : Int) := by omega
            obtain rfl : k = c.size := by omega
            have HF := Lib.hid (show m / 256 ^ (c.size - c.size) = m by rw [Nat.sub_self, Nat.pow_zero, Nat.div_one])
            obtain ⟨q, hq⟩ : ∃ q, m / 256 ^ (c.size - c.size) = q := ⟨_, rfl⟩
            rw [hq] at HF ⊢
            clear hq
            go_wp2_with fail
            go_ret2
            exact ⟨by rw [HE.out.1, HE.out.2, HF.out]; rfl, rfl⟩
      · have hbq : ((c.size : Int) == 8) = false := by rw [beq_eq_false_iff_ne]; omega
        have hb2 : ¬ (c.size : Int) = 8 := by omega
        clear h8 hc h9 h88 hlt
        go_wp2_with fail
        go_loop [4, 5] (fun nv i => ∃ k : Nat, k ≤ c.size ∧ i = .int .i64 (k : Int) ∧ nv = .int .i64 ((m / 256 ^ (c.size - k) : Nat) : Int)) (fun _ i => c.size - (intOf i).toNat)
        case atStart => exact ⟨0, Nat.zero_le _, rfl, by rw [HZ.out]; rfl⟩
        case round =>
          obtain ⟨k, hk, rfl, rfl⟩ := hrel
          by_cases hkl : k < c.size
          · have hkl' : (k : Int) < (c.size : Int) := by omega
            have hst := HP.out k hkl
            have hby : c[k].toNat = m / 256 ^ (c.size - 1 - k) % 256 := by
              have h := HBY.out k (by rw [HCM.out]; exact hkl)
              simp only [HCM.out] at h
              exact h
            rw [← hby] at hst
            obtain ⟨x, hx⟩ : ∃ x, c[k].toNat = x := ⟨_, rfl⟩
            obtain ⟨p, hp⟩ : ∃ p, m / 256 ^ (c.size - k) = p := ⟨_, rfl⟩
            obtain ⟨q, hq⟩ : ∃ q, m / 256 ^ (c.size - (k + 1)) = q := ⟨_, rfl⟩
            rw [hx, hp, hq] at hst
            rw [hp]
            have hqm : q ≤ m := by rw [← hq]; exact Nat.div_le_self _ _
            obtain ⟨z, hz⟩ : ∃ z, p * 256 = z := ⟨_, rfl⟩
            have f1 : (p : Int) * 256 = (z : Int) := by omega
            have f2 : wrap64 (z : Int) = (z : Int) := by have := HLT.out; unfold wrap64; omega
            have HXL : Hid (x < 256) := Lib.hid (by rw [← hx]; exact (c[k]).toNat_lt)
            have f3 : (z : Int) + (x : Int) = (q : Int) := by omega
            have f4 : wrap64 (q : Int) = (q : Int) := by have := HLT.out; unfold wrap64; omega
            have HQ := Lib.hid hq
            clear hst hby hp hq hz hqm
            go_wp2_with fail
            go_round
            case rel => exact ⟨k + 1, by omega, by go_num, by rw [HQ.out, ← f4, ← f3, wrap_x HXL.out]⟩
            case measure => simp [intOf]; omega
          · have hge : ¬ (k : Int) < (c.size : Int) := by omega
            obtain rfl : k = c.size := by omega
            have HF := Lib.hid (show m / 256 ^ (c.size - c.size) = m by rw [Nat.sub_self, Nat.pow_zero, Nat.div_one])
            obtain ⟨q, hq⟩ : ∃ q, m / 256 ^ (c.size - c.size) = q := ⟨_, rfl⟩
            rw [hq] at HF ⊢
            clear hq
            go_wp2_with fail
            go_ret2
            exact ⟨by rw [HE.out.1, HE.out.2, HF.out]; rfl, rfl⟩
end Go.Proofs.YtakbkbmjeanboaaGreatDoor
