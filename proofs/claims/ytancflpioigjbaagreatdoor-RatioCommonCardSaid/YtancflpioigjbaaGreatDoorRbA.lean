/- Reference of ratio: Of, lowest, Right. Each theorem names its conditions. -/
import Derived.Test.YtancflpioigjbaaGreatDoorRaG
import Derived.Test.YtancflpioigjbaaGreatDoorRefJ
namespace Go.Proofs.YtancflpioigjbaaGreatDoor
open Go.RowKit Go.Shelf
open Dgt
set_option linter.unusedVariables false

theorem below_zrow (w : World) {w1 : World} (h : Below (w.alloc (.cells #[.bool false, .string ⟨#[]⟩, .string ⟨#[]⟩] 26)).heap.size (w.alloc (.cells #[.bool false, .string ⟨#[]⟩, .string ⟨#[]⟩] 26)) w1) : Below w.heap.size w w1 :=
  ((Below.refl w.heap.size w).alloc (Nat.le_refl _) _).trans (h.mono (by simp))
theorem sz_one : Sz 1 1 := by unfold Sz; decide
set_option maxHeartbeats 1000000 in
set_option maxRecDepth 100000 in
theorem rRatOf_any (n : Int) (wq : World) (h1 : -9223372036854775808 ≤ n) (h2 : n ≤ 9223372036854775807) :
    Calls Tryz.prog 16 #[.int .i64 n] wq fun e w' => e = .returned (rtV (ofR n)) ∧ Below wq.heap.size wq w' := by
  have HO1 := Lib.hid (fun w => rOf_any 1 w (by decide))
  have HXZ := Lib.hid (zeroR_row wq)
  have HB0 := Lib.hid (below_zrow wq (Below.refl _ _))
  by_cases hn : n < 0
  · obtain ⟨m, hm⟩ : ∃ m : Nat, -(n + 1) = (m : Int) := ⟨(-(n + 1)).toNat, by omega⟩
    have q5 : wrap64 (-(n + 1)) = (m : Int) := by unfold wrap64; omega
    have HO := Lib.hid (fun w => rOf_any (m : Int) w (by omega))
    simp only [Int.toNat_natCast] at HO
    have hmz : Sz m 8 := Nat.lt_of_lt_of_le (show m < 9223372036854775808 by omega) (by decide)
    have HA := Lib.hid (fun w => rAdd_any (encS m) (encS 1) w (Nat.le_trans (encS_size_lt hmz) (by decide)) (Nat.le_trans (encS_size_lt sz_one) (by decide)))
    simp only [numS_encS] at HA
    have HE : Hid (ofR n = ⟨true, m + 1, 1⟩) := Lib.hid (by unfold ofR; simp [hn]; omega)
    rw [HE.out]
    have q3 : ¬ (0 : Int) ≤ n := by omega
    have q6 : IntKind.i64.wrap (n + 1) = n + 1 := IntWalk.i64_in _ (by omega)
    clear hm hmz h1 h2
    go_enter Tryz.func16, Tryz.ntmps16
    go_wp2_with fail
    refine (HO.out _).mono ?_
    rintro e w1 ⟨rfl, hb⟩
    have HXZ := Lib.hid (heap_up hb HXZ.out); have HB0 := Lib.hid (HB0.out.trans (hb.mono HB0.out.size))
    clear hb
    go_wp2_with fail
    refine (HO1.out _).mono ?_
    rintro e w2 ⟨rfl, hb⟩
    rw [show (1 : Int).toNat = 1 from rfl]
    have HXZ := Lib.hid (heap_up hb HXZ.out); have HB0 := Lib.hid (HB0.out.trans (hb.mono HB0.out.size))
    clear hb
    go_wp2_with fail
    refine (HA.out _).mono ?_
    rintro e w3 ⟨rfl, hb⟩
    have HXZ := Lib.hid (heap_up hb HXZ.out); have HB0 := Lib.hid (HB0.out.trans (hb.mono HB0.out.size))
    clear hb
    go_wp2_with fail
    refine (HO1.out _).mono ?_
    rintro e w4 ⟨rfl, hb⟩
    rw [show (1 : Int).toNat = 1 from rfl]
    have HXZ := Lib.hid (heap_up hb HXZ.out); have HB0 := Lib.hid (HB0.out.trans (hb.mono HB0.out.size))
    clear hb
    obtain ⟨⟨c0, c1, c2⟩, hf⟩ := row_cells HXZ.out
    have hf0 := hf 0; have hf1 := hf 1; have hf2 := hf 2
    clear hf
    go_wp2_with fail
    refine bodyPost_ret (results_cell_row rfl _ _ wq.heap.size 26 _ (0, 0) _ rfl (row_set HXZ.out _ _ _) Tryz.underlying26 rfl (by kernel_rfl)) rfl ?_
    exact ⟨rfl, below_row HB0.out (Nat.le_refl _) _ _ _⟩
  · obtain ⟨m, rfl⟩ : ∃ m : Nat, n = (m : Int) := ⟨n.toNat, by omega⟩
    have HO := Lib.hid (fun w => rOf_any (m : Int) w (by omega))
    simp only [Int.toNat_natCast] at HO
    have HE : Hid (ofR (m : Int) = ⟨false, m, 1⟩) := Lib.hid (by unfold ofR; simp)
    rw [HE.out]
    have q3 : (0 : Int) ≤ (m : Int) := by omega
    clear h1 h2
    go_enter Tryz.func16, Tryz.ntmps16
    go_wp2_with fail
    refine (HO.out _).mono ?_
    rintro e w1 ⟨rfl, hb⟩
    have HXZ := Lib.hid (heap_up hb HXZ.out); have HB0 := Lib.hid (HB0.out.trans (hb.mono HB0.out.size))
    clear hb
    go_wp2_with fail
    refine (HO1.out _).mono ?_
    rintro e w2 ⟨rfl, hb⟩
    rw [show (1 : Int).toNat = 1 from rfl]
    have HXZ := Lib.hid (heap_up hb HXZ.out); have HB0 := Lib.hid (HB0.out.trans (hb.mono HB0.out.size))
    clear hb
    obtain ⟨⟨c0, c1, c2⟩, hf⟩ := row_cells HXZ.out
    have hf0 := hf 0; have hf1 := hf 1; have hf2 := hf 2
    clear hf
    go_wp2_with fail
    refine bodyPost_ret (results_cell_row rfl _ _ wq.heap.size 26 _ (0, 0) _ rfl (row_set HXZ.out _ _ _) Tryz.underlying26 rfl (by kernel_rfl)) rfl ?_
    exact ⟨rfl, below_row HB0.out (Nat.le_refl _) _ _ _⟩
theorem enc_nil {m : Nat} (h : m = 0) : (encS m).toList = [] := List.isEmpty_iff.1 (by rw [enc_empty]; simp [h])
theorem enc_not_nil {m : Nat} (h : m ≠ 0) : ¬ (encS m).toList = [] := fun e => by
  have := enc_some h
  rw [e] at this; cases this
set_option maxHeartbeats 1000000 in
set_option maxRecDepth 100000 in
theorem rlowest_n (neg : Bool) (n d : Nat) (wq : World) (d0 : 0 < d) (sn : Sz n 1000000) (sd : Sz d 1000000) :
    Calls Tryz.prog 49 #[.bool neg, .string (encS n), .string (encS d)] wq fun e w' => e = .returned (rtV (low neg n d)) ∧ Below wq.heap.size wq w' := by
  have HXZ := Lib.hid (zeroR_row wq)
  have HB0 := Lib.hid (below_zrow wq (Below.refl _ _))
  by_cases hn : n = 0
  · subst hn
    have HO1 := Lib.hid (fun w => rOf_any 1 w (by decide))
    rw [low_zero neg d0]
    have q := enc_nil (m := 0) rfl
    have q2 := encS_zero
    clear d0 sn sd
    go_enter Tryz.func49, Tryz.ntmps49
    go_wp2_with fail
    refine (HO1.out _).mono ?_
    rintro e w1 ⟨rfl, hb⟩
    rw [show (1 : Int).toNat = 1 from rfl]
    have HXZ := Lib.hid (heap_up hb HXZ.out); have HB0 := Lib.hid (HB0.out.trans (hb.mono HB0.out.size))
    clear hb
    obtain ⟨⟨c0, c1, c2⟩, hf⟩ := row_cells HXZ.out
    have hf0 := hf 0; have hf1 := hf 1; have hf2 := hf 2
    clear hf
    go_wp2_with fail
    refine bodyPost_ret (results_cell_row rfl _ _ wq.heap.size 26 _ (0, 0) _ rfl (row_set HXZ.out _ _ _) Tryz.underlying26 rfl (by kernel_rfl)) rfl ?_
    refine ⟨?_, below_row HB0.out (Nat.le_refl _) _ _ _⟩
    simp [rtV, zeroR, encS_zero]
  · obtain ⟨g, hg⟩ : ∃ g, Nat.gcd n d = g := ⟨_, rfl⟩
    have hgd : g ≤ d := by rw [← hg]; exact Nat.gcd_le_right _ d0
    have hg0 : 0 < g := by rw [← hg]; exact Nat.gcd_pos_of_pos_right n d0
    have HG := Lib.hid (fun w => rGcd_any (encS n) (encS d) w (encS_size_lt sn) (encS_size_lt sd))
    have HQ := Lib.hid (fun w => rQuo_any (encS n) (encS g) w (encS_size_lt sn) (encS_size_lt (sd.le hgd)))
    have HQ2 := Lib.hid (fun w => rQuo_any (encS d) (encS g) w (encS_size_lt sd) (encS_size_lt (sd.le hgd)))
    simp only [numS_encS, hg] at HG HQ HQ2
    have HL : Hid (low neg n d = ⟨neg, n / g, d / g⟩) := Lib.hid (by
      have h1 := low_num_pos (neg := neg) (d := d) (Nat.pos_of_ne_zero hn)
      unfold low; rw [hg] at h1 ⊢; rw [decide_eq_true h1, Bool.and_true])
    rw [HL.out]
    have q := enc_not_nil hn
    have q2 := enc_some hn
    clear hg hgd hg0 d0 sn sd hn
    go_enter Tryz.func49, Tryz.ntmps49
    go_wp2_with fail
    refine (HG.out _).mono ?_
    rintro e w1 ⟨rfl, hb⟩
    have HXZ := Lib.hid (heap_up hb HXZ.out); have HB0 := Lib.hid (HB0.out.trans (hb.mono HB0.out.size))
    clear hb
    go_wp2_with fail
    refine (HQ.out _).mono ?_
    rintro e w2 ⟨rfl, hb⟩
    have HXZ := Lib.hid (heap_up hb HXZ.out); have HB0 := Lib.hid (HB0.out.trans (hb.mono HB0.out.size))
    clear hb
    go_wp2_with fail
    refine (HQ2.out _).mono ?_
    rintro e w3 ⟨rfl, hb⟩
    have HXZ := Lib.hid (heap_up hb HXZ.out); have HB0 := Lib.hid (HB0.out.trans (hb.mono HB0.out.size))
    clear hb
    obtain ⟨⟨c0, c1, c2⟩, hf⟩ := row_cells HXZ.out
    have hf0 := hf 0; have hf1 := hf 1; have hf2 := hf 2
    clear hf
    go_wp2_with fail
    refine bodyPost_ret (results_cell_row rfl _ _ wq.heap.size 26 _ (0, 0) _ rfl (row_set HXZ.out _ _ _) Tryz.underlying26 rfl (by kernel_rfl)) rfl ?_
    exact ⟨rfl, below_row HB0.out (Nat.le_refl _) _ _ _⟩
end Go.Proofs.YtancflpioigjbaaGreatDoor
