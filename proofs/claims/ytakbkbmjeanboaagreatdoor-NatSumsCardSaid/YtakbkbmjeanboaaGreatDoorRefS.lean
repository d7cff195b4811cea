/- Bits of the reference implementation. Each theorem names its conditions. -/
import Derived.Test.YtakbkbmjeanboaaGreatDoorRefQ
namespace Go.Proofs.YtakbkbmjeanboaaGreatDoor
open Go.RowKit Go.Shelf
open Dgt
set_option linter.unusedVariables false

theorem bits_half {d : Nat} (h : 0 < d) : bitsN d = bitsN (d / 2) + 1 := by
  unfold bitsN; rw [digs_pos (by decide) h]; rfl
theorem bits_shift : ∀ (k d : Nat), 0 < d / 2 ^ k → bitsN d = bitsN (d / 2 ^ k) + k
  | 0, d, _ => by simp
  | k + 1, d, h => by
    have e : d / 2 ^ (k + 1) = d / 2 / 2 ^ k := by rw [Nat.div_div_eq_div_mul, Nat.pow_succ, Nat.mul_comm]
    rw [e] at h ⊢
    have hd : 0 < d := by
      rcases Nat.eq_zero_or_pos d with rfl | h0
      · simp at h
      · exact h0
    rw [bits_half hd, bits_shift k (d / 2) h]; omega
theorem bits_top {m : Nat} (h : 0 < m) : ∃ t, (encS m)[0]? = some t ∨ True := ⟨0, .inr trivial⟩
theorem bits_enc {m s : Nat} (h : 0 < m) (hs : (encS m).size = s + 1) : bitsN m = 8 * s + bitsN (((encS m)[0]'(by omega)).toNat) ∧ 0 < ((encS m)[0]'(by omega)).toNat := by
  have hb := byte_at m (k := 0) (by omega)
  have e1 : (encS m).size - 1 - 0 = s := by omega
  rw [e1] at hb
  have hl := digs_lt (B := 256) (by decide) m
  have hg := digs_ge (B := 256) (by decide) h
  rw [← encS_size, hs] at hl hg
  rw [show s + 1 - 1 = s by omega] at hg
  have hq : m / 256 ^ s < 256 := by
    rw [Nat.div_lt_iff_lt_mul (Nat.pow_pos (by decide)), ← Nat.pow_succ']; exact hl
  rw [Nat.mod_eq_of_lt hq] at hb
  have hp : 0 < m / 256 ^ s := Nat.div_pos hg (Nat.pow_pos (by decide))
  rw [hb]
  refine ⟨?_, hp⟩
  have e : (256 : Nat) ^ s = 2 ^ (8 * s) := by rw [Nat.pow_mul]
  rw [e] at hp ⊢
  rw [bits_shift (8 * s) m hp]; omega
set_option maxHeartbeats 1000000 in
set_option maxRecDepth 100000 in
theorem rBits_any (a : ByteArray) (w : World) (ha : a.size ≤ 100000000) :
    Calls Tryz.prog 35 #[.string a] w fun e w' => e = .returned (.int .i64 ((bitsN (numS a) : Nat) : Int)) ∧ w = w' := by
  have HC := Lib.hid (Canon_any a · ha)
  have hl := encS_len_le a
  obtain ⟨m, hm⟩ : ∃ m, numS a = m := ⟨_, rfl⟩
  rw [hm] at HC hl ⊢
  obtain ⟨c, hc⟩ : ∃ c, encS m = c := ⟨_, rfl⟩
  rw [hc] at HC
  rcases hs : c.size with _ | s
  · have hm0 : m = 0 := by
      have := encS_size m
      rw [hc, hs] at this
      exact (digs_eq_nil (by decide)).1 (List.eq_nil_of_length_eq_zero this.symm)
    have HE : Hid (bitsN m = 0) := Lib.hid (by rw [hm0, bitsN, digs_zero]; rfl)
    have h1 : ((c.size : Int) == 0) = true := by rw [beq_iff_eq]; omega
    clear hm hl ha hc hs hm0
    go_enter Tryz.func35, Tryz.ntmps35
    go_wp2_with fail
    refine (HC.out _).mono ?_
    rintro e w1 ⟨rfl, rfl⟩
    go_wp2_with fail
    go_ret
    exact ⟨by rw [HE.out]; rfl, rfl⟩
  · have hm0 : 0 < m := by
      rcases Nat.eq_zero_or_pos m with rfl | h
      · have : (encS 0).size = 0 := by rw [encS_size, digs_zero]; rfl
        rw [hc] at this; omega
      · exact h
    have hp : 0 < c.size := by omega
    have hbe : bitsN m = 8 * s + bitsN ((c[0]'hp).toNat) ∧ 0 < (c[0]'hp).toNat := by
      subst hc; exact bits_enc hm0 hs
    obtain ⟨x, hx⟩ : ∃ x, (c[0]'hp).toNat = x := ⟨_, rfl⟩
    rw [hx] at hbe
    have hxl : (x : Int) < 256 := by have := (c[0]'hp).toNat_lt; omega
    have HE := Lib.hid hbe.1
    have h1 : ((c.size : Int) == 0) = false := by rw [beq_eq_false_iff_ne]; omega
    have h2 : ¬ (c.size : Int) = 0 := by omega
    have h3 : 0 < (c.size : Int) := by omega
    have h4 : (c.size : Int) ≤ 100000000 := by rw [← hc]; omega
    have h5 : (c.size : Int) - 1 = (s : Int) := by omega
    have h6 : (s : Int) ≤ 100000000 := by omega
    clear hm hl ha hc hs hm0 hbe
    go_enter Tryz.func35, Tryz.ntmps35
    go_wp2_with fail
    refine (HC.out _).mono ?_
    rintro e w1 ⟨rfl, rfl⟩
    go_wp2_with fail
    go_loop [3, 4] (fun nv dv => ∃ n d : Nat, nv = .int .i64 (n : Int) ∧ dv = .int .i64 (d : Int) ∧ (d : Int) < 256 ∧ (n : Int) + d ≤ 1000000000 ∧ Hid (n + bitsN d = 8 * s + bitsN x)) (fun _ dv => (intOf dv).toNat)
    case atStart => exact ⟨8 * s, x, by go_num, rfl, hxl, by omega, Lib.hid rfl⟩
    case round =>
      obtain ⟨n, d, rfl, rfl, hd, hn, HS⟩ := hrel
      by_cases h0 : 0 < d
      · have h0' : 0 < (d : Int) := by omega
        have HH := Lib.hid (bits_half h0)
        obtain ⟨q, hq⟩ : ∃ q, d / 2 = q := ⟨_, rfl⟩
        rw [hq] at HH
        have q1 : (d : Int) / 2 = (q : Int) := by omega
        have hqd : q < d := by omega
        clear hq h0
        go_wp2_with fail
        go_round
        case rel => exact ⟨n + 1, q, by go_num, rfl, by omega, by omega, Lib.hid (by have := HS.out; have := HH.out; omega)⟩
        case measure => simp [intOf]; omega
      · have h0' : ¬ 0 < (d : Int) := by omega
        have HF : Hid (n = bitsN m) := Lib.hid (by
          have h1 := HS.out
          rw [show d = 0 by omega, bitsN, digs_zero] at h1
          rw [HE.out]; simpa using h1)
        clear h0
        go_wp2_with fail
        go_ret
        exact ⟨by rw [← HF.out]; rfl, rfl⟩
end Go.Proofs.YtakbkbmjeanboaaGreatDoor
