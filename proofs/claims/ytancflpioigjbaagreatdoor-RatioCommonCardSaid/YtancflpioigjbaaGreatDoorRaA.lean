/- Package ratio: positive, lowest. Each theorem names its conditions. -/
import Derived.Test.YtancflpioigjbaaGreatDoorRat
import Derived.Test.YtancflpioigjbaaGreatDoorRgt
namespace Go.Proofs.YtancflpioigjbaaGreatDoor
open Go.RowKit Go.Shelf
open Dgt
set_option linter.unusedVariables false

theorem encS_ne {n : Nat} (h : n ≠ 0) : encS n ≠ ⟨#[]⟩ := fun e => h (by
  have := congrArg numS e
  rw [numS_encS] at this
  exact this)
theorem enc_some {n : Nat} (h : n ≠ 0) : (encS n).toList.isEmpty = false := by
  have h1 := encS_ne h
  rw [ByteArray.toList_eq]
  cases hl : (encS n).data.toList with
  | nil => exact absurd (by
      have : (encS n).data = #[] := Array.toList_eq_nil_iff.1 hl
      cases he : encS n with
      | mk d => rw [he] at this; simp at this; rw [this]) h1
  | cons _ _ => rfl
theorem row_set {W : World} {b : Nat} {x0 x1 x2 : Value} {t : TypeId} (h : W.heap[b]? = some (.cells #[x0, x1, x2] t (0, 0))) (u0 u1 u2 : Value) :
    (((W.setCell ⟨b, 0, none⟩ u0).setCell ⟨b, 1, none⟩ u1).setCell ⟨b, 2, none⟩ u2).heap[b]? = some (.cells #[u0, u1, u2] t (0, 0)) := by
  simp [World.setCell, Array.getElem?_modify, h]
theorem row_cells {W : World} {b : Nat} {x0 x1 x2 : Value} {t : TypeId} (h : W.heap[b]? = some (.cells #[x0, x1, x2] t (0, 0))) :
    (W.cell? ⟨b, 0, none⟩ = some x0 ∧ W.cell? ⟨b, 1, none⟩ = some x1 ∧ W.cell? ⟨b, 2, none⟩ = some x2) ∧ ∀ j, W.frozen? ⟨b, j, none⟩ = false := by
  refine ⟨⟨?_, ?_, ?_⟩, fun j => Lib.frozen_of_heap h _⟩ <;> (rw [Lib.cell_of_heap h]; rfl)
theorem enc_empty (m : Nat) : (encS m).toList.isEmpty = decide (m = 0) := by
  by_cases h : m = 0
  · subst h; rw [encS_zero, ByteArray.toList_eq]; rfl
  · rw [enc_some h]; simp [h]
theorem below_row {A W : World} {b : Nat} (h : Below A.heap.size A W) (hb : A.heap.size ≤ b) (u0 u1 u2 : Value) : Below A.heap.size A (((W.setCell ⟨b, 0, none⟩ u0).setCell ⟨b, 1, none⟩ u1).setCell ⟨b, 2, none⟩ u2) :=
  ((h.setCell (p := ⟨b, 0, none⟩) hb u0).setCell (p := ⟨b, 1, none⟩) hb u1).setCell (p := ⟨b, 2, none⟩) hb u2
set_option maxHeartbeats 4000000 in
theorem positive_any (n : ByteArray) (w : World) (hn : n.size ≤ 100000000) :
    Calls Tryz.prog 45 #[.agg #[.string ⟨#[]⟩], .string n] w fun e w' => e = .returned (.bool (rightN n && decide (0 < numS n))) ∧ Below w.heap.size w w' := by
  have HR := Lib.hid (Right_any n · hn)
  have HC := Lib.hid (Cmp_any n ⟨#[]⟩ · hn (by decide))
  go_enter Tryz.func45, Tryz.ntmps45
  go_wp2_with fail
  refine (HR.out _).mono ?_
  rintro e w1 ⟨rfl, rfl⟩
  have c0 : (w.alloc (.cells #[.string ⟨#[]⟩] 63)).cell? ⟨w.heap.size, 0, none⟩ = some (.string ⟨#[]⟩) := (box_cell (heap_alloc_new w _)).1
  by_cases hr : rightN n = true
  · rw [hr]
    go_wp2_with fail
    refine (HC.out _).mono ?_
    rintro e w2 ⟨rfl, hb⟩
    have HB := Lib.hid (((Below.refl w.heap.size w).alloc (Nat.le_refl _) (.cells #[.string ⟨#[]⟩] 63)).trans (hb.mono (by simp)))
    have he : numS (⟨#[]⟩ : ByteArray) = 0 := by rfl
    rw [he]
    by_cases h0 : numS n = 0
    · rw [h0, cmpI_eq]
      clear hb
      go_wp2_with fail
      go_ret
      exact ⟨by simp [hr, h0], HB.out⟩
    · rw [cmpI_gt (by omega : 0 < numS n)]
      have HP : Hid (0 < numS n) := Lib.hid (by omega)
      clear hb h0
      go_wp2_with fail
      go_ret
      exact ⟨by simp [HP.out, hr], HB.out⟩
  · have hf : rightN n = false := by simpa using hr
    rw [hf]
    clear hr
    go_wp2_with fail
    go_ret
    exact ⟨by simp [hf], (Below.refl w.heap.size w).alloc (Nat.le_refl _) _⟩
set_option maxHeartbeats 4000000 in
set_option maxRecDepth 100000 in
theorem lowest_n (neg : Bool) (num den : ByteArray) (n d : Nat) (w : World) (hn : numS num = n) (hd : numS den = d) (d0 : 0 < d) (sn : num.size ≤ 10000000) (sd : den.size ≤ 10000000) :
    Calls Tryz.prog 47 #[.bool neg, .string num, .string den] w fun e w' => e = .returned (rtV (low neg n d)) ∧ Below w.heap.size w w' := by
  obtain ⟨g, hg⟩ : ∃ g, Nat.gcd n d = g := ⟨_, rfl⟩
  have hgd : g ≤ d := by rw [← hg]; exact Nat.gcd_le_right _ d0
  have sg : (encS g).size ≤ 100000000 := Nat.le_trans (encS_size_lt ((Sz.num den).le (by omega))) (by omega)
  have HG := Lib.hid (fun w => Gcd_n hn hd (by omega) (by omega) w)
  rw [hg] at HG
  have HQ := Lib.hid (fun w => Quo_n hn (numS_encS g) (by omega) sg w)
  have HQ2 := Lib.hid (fun w => Quo_n hd (numS_encS g) (by omega) sg w)
  have HL : Hid (low neg n d = ⟨neg && decide (0 < n / g), n / g, d / g⟩) := Lib.hid (by unfold low; rw [hg])
  obtain ⟨q, hq⟩ : ∃ q, n / g = q := ⟨_, rfl⟩
  rw [hq] at HQ HL
  rw [HL.out]
  clear hg hgd sg hn hd d0 sn sd hq
  go_enter Tryz.func47, Tryz.ntmps47
  go_wp2_with fail
  refine (HG.out _).mono ?_
  rintro e w1 ⟨rfl, hb1⟩
  go_wp2_with fail
  refine (HQ.out _).mono ?_
  rintro e w2 ⟨rfl, hb2⟩
  go_wp2_with fail
  refine (HQ2.out _).mono ?_
  rintro e w3 ⟨rfl, hb3⟩
  have hr := heap_up hb3 (heap_up hb2 (heap_up hb1 (heap_alloc_new w (.cells #[.bool false, .string ⟨#[]⟩, .string ⟨#[]⟩] 26))))
  obtain ⟨⟨c0, c1, c2⟩, hf⟩ := row_cells hr
  have hf0 := hf 0; have hf1 := hf 1; have hf2 := hf 2
  have HROW := Lib.hid hr
  have HB := Lib.hid ((((Below.refl w.heap.size w).alloc (Nat.le_refl _) (.cells #[.bool false, .string ⟨#[]⟩, .string ⟨#[]⟩] 26)).trans (hb1.mono (by simp))).trans ((hb2.trans (hb3.mono hb2.size)).mono (by have := hb1.size; simp at this; omega)))
  clear hr hf hb1 hb2 hb3
  cases neg
  all_goals
    go_wp2_with fail
    refine bodyPost_ret (results_cell_row rfl _ _ w.heap.size 26 _ (0, 0) _ rfl (row_set HROW.out _ _ _) Tryz.underlying26 rfl (by kernel_rfl)) rfl ?_
    refine ⟨?_, below_row HB.out (Nat.le_refl _) _ _ _⟩
    simp [rtV, enc_empty, Nat.pos_iff_ne_zero]
end Go.Proofs.YtancflpioigjbaaGreatDoor
