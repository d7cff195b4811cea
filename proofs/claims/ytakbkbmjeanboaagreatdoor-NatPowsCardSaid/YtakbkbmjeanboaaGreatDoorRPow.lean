/- The reference's Pow. Each theorem names its conditions. -/
import Derived.Test.YtakbkbmjeanboaaGreatDoorRefJ
import Derived.Test.YtakbkbmjeanboaaGreatDoorPowB
namespace Go.Proofs.YtakbkbmjeanboaaGreatDoor
open Go.RowKit Go.Shelf
open Dgt
set_option linter.unusedVariables false

theorem bit_of8 {l : List Nat} (ho : okB 256 l) {i s : Nat} (hi : i < l.length) (hs : s < 8) : l[i] / 2 ^ s % 2 = valB 256 l / 2 ^ (8 * i + s) % 2 := by
  have hg := get_of_val ho hi
  have hp : (256 : Nat) ^ i = 2 ^ (8 * i) := by rw [show (256 : Nat) = 2 ^ 8 by decide, ← Nat.pow_mul]
  obtain ⟨V, hV⟩ : ∃ V, valB 256 l = V := ⟨_, rfl⟩
  rw [hV] at hg ⊢
  rw [← hg, hp, Nat.pow_add, ← Nat.div_div_eq_div_mul]
  obtain ⟨U, hU⟩ : ∃ U, V / 2 ^ (8 * i) = U := ⟨_, rfl⟩
  rw [hU]
  have hd : (256 : Nat) = 2 ^ s * 2 ^ (8 - s) := by
    rw [← Nat.pow_add, show s + (8 - s) = 8 from by omega]
  rw [hd, Nat.mod_mul_right_div_self]
  rw [show 8 - s = (7 - s) + 1 from by omega, Nat.pow_succ]
  rw [Nat.mod_mul_left_mod]
theorem bits_and_u8_nat (a b : Nat) (ha : a < 256) (hb : b < 256) :
    bits .and .u8 (a : Int) (b : Int) = ((a &&& b : Nat) : Int) := by
  have hx : a &&& b < 2 ^ 8 := Nat.and_lt_two_pow _ (by omega)
  have h1 : (BitVec.ofInt 8 (a : Int)).toNat = a := by
    rw [BitVec.ofInt_natCast, BitVec.toNat_ofNat]; exact Nat.mod_eq_of_lt (by omega)
  have h2 : (BitVec.ofInt 8 (b : Int)).toNat = b := by
    rw [BitVec.ofInt_natCast, BitVec.toNat_ofNat]; exact Nat.mod_eq_of_lt (by omega)
  have e : ((BitVec.ofInt 8 (a : Int)) &&& (BitVec.ofInt 8 (b : Int))).toNat = a &&& b := by
    rw [BitVec.toNat_and, h1, h2]
  show IntKind.u8.wrap ((((BitVec.ofInt 8 (a : Int)) &&& (BitVec.ofInt 8 (b : Int))).toNat : Nat) : Int) = _
  rw [e, IntKind.wrap_u8]; omega
theorem bit_one8 (y : Nat) (hy : y < 256) : (bits .and .u8 (y : Int) 1 == 1) = decide (y % 2 = 1) := by
  rw [show (1 : Int) = ((1 : Nat) : Int) from rfl, bits_and_u8_nat y 1 hy (by decide), Nat.and_one_is_mod]
  rw [Bool.eq_iff_iff, beq_iff_eq, decide_eq_true_eq]; omega
set_option maxHeartbeats 8000000 in
set_option maxRecDepth 100000 in
theorem rPow_any (a e m : ByteArray) (w : World) (ha : a.size ≤ 400000) (he : e.size ≤ 400000) (hm : m.size ≤ 400000) :
    Calls Tryz.prog 24 #[.string a, .string e, .string m] w fun r w' => r = .returned (.tuple #[.string (encS (powS (numS a) (numS e) (numS m))), .bool (decide (numS m ≠ 0))]) ∧ Below w.heap.size w w' := by
  have QA := Lib.hid (rQuo_any a m · (by omega) (by omega))
  have Q1 := Lib.hid (rQuo_any (encS 1) m · (Nat.le_trans (encS_size_lt (show Sz 1 1 by unfold Sz; decide)) (by decide)) (by omega))
  obtain ⟨A, hA⟩ : ∃ A, numS a = A := ⟨_, rfl⟩
  obtain ⟨M, hM⟩ : ∃ M, numS m = M := ⟨_, rfl⟩
  have HMUL := Lib.hid (fun (x y : Nat) (w : World) (hx : x < M) (hy : y < M) => rMul_any (encS x) (encS y) w (Nat.le_trans (encS_size_lt ((Sz.num m).le (by omega))) (by omega)) (Nat.le_trans (encS_size_lt ((Sz.num m).le (by omega))) (by omega)))
  have HQUO := Lib.hid (fun (x y : Nat) (w : World) (hx : x < M) (hy : y < M) => rQuo_any (encS (x * y)) m w (Nat.le_trans (encS_size_lt (Sz.mul (i := m.size) (j := m.size) ((Sz.num m).le (by omega)) ((Sz.num m).le (by omega)))) (by omega)) (by omega))
  simp only [numS_encS, hM] at HMUL HQUO
  rw [hA, hM] at QA
  rw [hM, numS_encS] at Q1
  rw [hA, hM]
  obtain ⟨E, hE⟩ : ∃ E, numS e = E := ⟨_, rfl⟩
  have HE := Lib.hid hE
  have hS9 : (e.size : Int) ≤ 400000 := by omega
  rw [hE]
  have HO := Lib.hid (rOf_any 1 · (by decide))
  clear hA hM hE ha he hm
  rcases Nat.eq_zero_or_pos M with h0 | h0
  · subst h0
    go_enter Tryz.func24, Tryz.ntmps24
    go_wp2_with fail
    refine (QA.out _).mono ?_
    rintro r w1 ⟨rfl, hb⟩
    have HB := Lib.hid hb
    clear hb
    go_wp2_with fail
    refine bodyPost_ret (results_tmp2 rfl _ _ _) rfl ?_
    exact ⟨by simp [powS, encS_zero], HB.out⟩
  · have hM1 : decide (0 < M) = true := by simp [h0]
    have hr1 : remS A M = A % M := by unfold remS; rw [if_neg (by omega)]
    have hr2 : remS 1 M = 1 % M := by unfold remS; rw [if_neg (by omega)]
    have HM0 := Lib.hid h0
    rw [hM1, hr1] at QA
    rw [hM1, hr2] at Q1
    clear hM1 hr1 hr2
    go_enter Tryz.func24, Tryz.ntmps24
    go_wp2_with fail
    refine (QA.out _).mono ?_
    rintro r w1 ⟨rfl, hb1⟩
    have HB := Lib.hid hb1
    clear hb1 h0
    go_wp2_with fail
    refine (HO.out _).mono ?_
    rintro r w2 ⟨rfl, hb2⟩
    have HB2 := Lib.hid (HB.out.trans (hb2.mono HB.out.size))
    clear hb2
    rw [show (1 : Int).toNat = 1 from rfl]
    go_wp2_with fail
    refine (Q1.out _).mono ?_
    rintro r w3 ⟨rfl, hb3⟩
    have HB3 := Lib.hid (HB2.out.trans (hb3.mono HB2.out.size))
    clear hb3
    go_wp2_with fail
    have hE0 : Hid (1 % M = A ^ (E / 2 ^ (8 * e.size)) % M) := Lib.hid (by
      have h := numS_lt e
      rw [HE.out, show (256 : Nat) = 2 ^ 8 by decide, ← Nat.pow_mul] at h
      rw [Nat.div_eq_of_lt h, Nat.pow_zero])
    go_loopw [14, 12, 15] (fun i o _ wr => ∃ (k P : Nat), k ≤ e.size ∧ i = .int .i64 (k : Int) ∧ o = .string (encS P) ∧ Hid (P = A ^ (E / 2 ^ (8 * (e.size - k))) % M) ∧ Hid (Below w.heap.size w wr)) (fun i _ _ _ => e.size - (intOf i).toNat)
    case atStart => exact ⟨0, 1 % M, by omega, rfl, rfl, hE0, HB3⟩
    case round =>
      obtain ⟨k, P, hk, rfl, rfl, HP, HBW⟩ := hrel
      by_cases hlt : k < e.size
      · have hlt' : (k : Int) < (e.size : Int) := by omega
        obtain ⟨d, hd⟩ : ∃ d, e.size - 1 - k = d := ⟨_, rfl⟩
        obtain ⟨x, hx⟩ : ∃ x, e[k].toNat = x := ⟨_, rfl⟩
        have hxl : x < 256 := by rw [← hx]; exact (e[k]).toNat_lt
        have HBIT : Hid (∀ s, s < 8 → x / 2 ^ s % 2 = E / 2 ^ (8 * d + s) % 2) := Lib.hid (fun s hs => by
          have h := bit_of8 (revB_ok e) (i := d) (s := s) (by rw [revB_len]; omega) hs
          rw [revB_get e (by omega)] at h
          have hkd : e.size - 1 - d = k := by omega
          simp only [hkd, hx] at h
          rw [h]
          show numS e / _ % 2 = _
          rw [HE.out])
        have HD := Lib.hid hd; have HXL := Lib.hid hxl
        clear hd hxl
        go_wp2_with fail
        go_loopw [15, 12] (fun b o wr => ∃ (J : Nat) (bi : Int) (P : Nat), J ≤ 8 ∧ b = .int .i64 bi ∧ Hid (bi = (J : Int) - 1) ∧ o = .string (encS P) ∧ Hid (P = A ^ (E / 2 ^ (8 * d + J)) % M) ∧ Hid (Below w.heap.size w wr)) (fun b _ _ => (intOf b + 1).toNat)
        case atStart => exact ⟨8, 7, P, by omega, rfl, Lib.hid rfl, rfl, Lib.hid (by rw [HP.out]; have := HD.out; rw [show 8 * (e.size - k) = 8 * d + 8 by omega]), HBW⟩
        case round =>
          obtain ⟨J, bi, P1, hJ, rfl, HJ, rfl, HP1, HBW1⟩ := hrel
          rcases J with _ | s
          · have hneg : bi < 0 := by have := HJ.out; omega
            clear hJ
            go_wp2_with fail
            go_roundw
            case rel => exact ⟨k + 1, P1, by omega, by go_num, rfl, Lib.hid (by rw [HP1.out]; have := HD.out; rw [show 8 * (e.size - (k + 1)) = 8 * d + 0 by omega]), HBW1⟩
            case measure => simp [intOf]; omega
          · obtain rfl : bi = (s : Int) := by have := HJ.out; omega
            have hs8 : s < 8 := by omega
            have hs8' : (s : Int) < 8 := by omega
            have hbit := HBIT.out s hs8
            obtain ⟨y, hy⟩ : ∃ y, x / 2 ^ s = y := ⟨_, rfl⟩
            rw [hy] at hbit
            have hyl : y < 256 := by rw [← hy]; exact Nat.lt_of_le_of_lt (Nat.div_le_self _ _) HXL.out
            have q6 : (x : Int) / 2 ^ s = (y : Int) := by rw [← hy]; simp
            have q7 := bit_one8 y hyl
            have hPM : P1 < M := by rw [HP1.out]; exact Nat.mod_lt _ HM0.out
            obtain ⟨P2, hP2⟩ : ∃ P2, P1 * P1 % M = P2 := ⟨_, rfl⟩
            have hP2M : P2 < M := by rw [← hP2]; exact Nat.mod_lt _ HM0.out
            have HQ := Lib.hid (HQUO.out P1 P1 · hPM hPM)
            have hrem : remS (P1 * P1) M = P2 := by unfold remS; rw [if_neg (by have := HM0.out; omega), hP2]
            rw [hrem] at HQ
            have HPM := Lib.hid hPM; have HP2M := Lib.hid hP2M; have HP2 := Lib.hid hP2; have HBT := Lib.hid hbit
            have HJ8 := Lib.hid hJ
            clear hy hyl hPM hP2 hP2M hrem hbit hJ
            go_wp2_with fail
            refine (HMUL.out P1 P1 _ HPM.out HPM.out).mono ?_
            rintro r w4 ⟨rfl, hb4⟩
            have HB4 := Lib.hid (HBW1.out.trans (hb4.mono HBW1.out.size))
            clear hb4
            go_wp2_with fail
            refine (HQ.out _).mono ?_
            rintro r w5 ⟨rfl, hb5⟩
            have HB5 := Lib.hid (HB4.out.trans (hb5.mono HB4.out.size))
            clear hb5
            by_cases hy1 : y % 2 = 1
            · have hE1 : E / 2 ^ (8 * d + s) % 2 = 1 := by rw [← HBT.out]; exact hy1
              have HR : Hid (P2 * A % M = A ^ (E / 2 ^ (8 * d + s)) % M) := Lib.hid (by
                have h := pow_odd (x := A) (n := E) (z := M) hE1
                have hp1 : P1 = A ^ (E / 2 ^ (8 * d + s + 1)) % M := HP1.out
                rw [← hp1, HP2.out] at h
                rwa [Nat.mul_mod_mod] at h)
              have q8 : decide (y % 2 = 1) = true := by simp [hy1]
              rw [q8] at q7
              have HAM : Hid (A % M < M) := Lib.hid (Nat.mod_lt _ HM0.out)
              have hrem : remS (P2 * (A % M)) M = P2 * (A % M) % M := by unfold remS; rw [if_neg (by have := HM0.out; omega)]
              have HQ2 := Lib.hid (HQUO.out P2 (A % M) · HP2M.out HAM.out)
              rw [hrem] at HQ2
              clear hy1 hE1 q8 hrem
              go_wp2_with fail
              refine (HMUL.out P2 (A % M) _ HP2M.out HAM.out).mono ?_
              rintro r w6 ⟨rfl, hb6⟩
              have HB6 := Lib.hid (HB5.out.trans (hb6.mono HB5.out.size))
              clear hb6
              go_wp2_with fail
              refine (HQ2.out _).mono ?_
              rintro r w7 ⟨rfl, hb7⟩
              have HB7 := Lib.hid (HB6.out.trans (hb7.mono HB6.out.size))
              clear hb7
              go_wp2_with fail
              go_roundw
              case rel => exact ⟨s, (s : Int) - 1, _, by have := HJ8.out; omega, by go_num, Lib.hid rfl, rfl, HR, HB7⟩
              case measure => simp [intOf]
            · have hE1 : ¬ E / 2 ^ (8 * d + s) % 2 = 1 := by rw [← HBT.out]; exact hy1
              have HR : Hid (P2 = A ^ (E / 2 ^ (8 * d + s)) % M) := Lib.hid (by
                have h := pow_even (x := A) (n := E) (z := M) hE1
                have hp1 : P1 = A ^ (E / 2 ^ (8 * d + s + 1)) % M := HP1.out
                rw [← hp1, HP2.out] at h
                exact h)
              have q8 : decide (y % 2 = 1) = false := by simp [hy1]
              rw [q8] at q7
              clear hy1 hE1 q8
              go_wp2_with fail
              go_roundw
              case rel => exact ⟨s, (s : Int) - 1, _, by have := HJ8.out; omega, by go_num, Lib.hid rfl, rfl, HR, HB5⟩
              case measure => simp [intOf]
      · have hge : (e.size : Int) ≤ (k : Int) := by omega
        have hke : k = e.size := by omega
        have HR : Hid (P = A ^ E % M) := Lib.hid (by rw [HP.out, hke, Nat.sub_self, Nat.mul_zero, Nat.pow_zero, Nat.div_one])
        clear hke
        go_wp2_with fail
        refine bodyPost_ret (results_tmp2 rfl _ _ _) rfl ?_
        have hMn : M ≠ 0 := by have := HM0.out; omega
        exact ⟨by simp [powS, hMn, HR.out], HBW.out⟩
end Go.Proofs.YtakbkbmjeanboaaGreatDoor
