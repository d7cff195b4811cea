/- The examples that each property contains. Each theorem names its conditions. -/
import Derived.Test.YtakbkbmjeanboaaGreatDoorPowB
import Derived.Test.YtakbkbmjeanboaaGreatDoorApiE
import Derived.Test.YtakbkbmjeanboaaGreatDoorTexA
namespace Go.Proofs.YtakbkbmjeanboaaGreatDoor
open Go.RowKit Go.Shelf
open Dgt
set_option linter.unusedVariables false

theorem parse_c (w : World) : Calls Tryz.prog 26 #[.string ⟨#[48, 48, 55]⟩] w fun e w' => e = .returned (.tuple #[.string ⟨#[]⟩, .bool false]) ∧ Below w.heap.size w w' := by
  go_enter Tryz.func26, Tryz.ntmps26
  go_wp2_with fail
  go_ret2
  exact ⟨rfl, Below.refl _ _⟩

theorem enc_0 : encS 0 = ⟨#[]⟩ := encS_zero
theorem enc_1 : encS 1 = ⟨#[1]⟩ := by simp [encS, encL, digs_pos, digs_zero]
theorem enc_2 : encS 2 = ⟨#[2]⟩ := by simp [encS, encL, digs_pos, digs_zero]
theorem enc_3 : encS 3 = ⟨#[3]⟩ := by simp [encS, encL, digs_pos, digs_zero]
theorem enc_5 : encS 5 = ⟨#[5]⟩ := by simp [encS, encL, digs_pos, digs_zero]
theorem enc_6 : encS 6 = ⟨#[6]⟩ := by simp [encS, encL, digs_pos, digs_zero]
theorem enc_7 : encS 7 = ⟨#[7]⟩ := by simp [encS, encL, digs_pos, digs_zero]
theorem enc_12 : encS 12 = ⟨#[12]⟩ := by simp [encS, encL, digs_pos, digs_zero]
theorem enc_18 : encS 18 = ⟨#[18]⟩ := by simp [encS, encL, digs_pos, digs_zero]
theorem enc_142 : encS 142 = ⟨#[142]⟩ := by simp [encS, encL, digs_pos, digs_zero]
theorem enc_200 : encS 200 = ⟨#[200]⟩ := by simp [encS, encL, digs_pos, digs_zero]
theorem enc_255 : encS 255 = ⟨#[255]⟩ := by simp [encS, encL, digs_pos, digs_zero]
theorem enc_256 : encS 256 = ⟨#[1, 0]⟩ := by simp [encS, encL, digs_pos, digs_zero]
theorem enc_1000 : encS 1000 = ⟨#[3, 232]⟩ := by simp [encS, encL, digs_pos, digs_zero]
theorem c0 (w : World) : Calls Tryz.prog 32 #[.string ⟨#[0, 1, 0]⟩] w fun e w' => e = .returned (.tuple #[.int .i64 256, .bool true]) ∧ Below w.heap.size w w' := by
  have h := Int_any ⟨#[0, 1, 0]⟩ w (by decide)
  exact h
theorem c1 (w : World) : Calls Tryz.prog 31 #[.int .i64 (256)] w fun e w' => e = .returned (.string ⟨#[1, 0]⟩) ∧ Below w.heap.size w w' := by
  have h := Of_any (256) w (by decide)
  rw [show ((256 : Int)).toNat = 256 from rfl, enc_256] at h
  exact h
theorem c2 (w : World) : Calls Tryz.prog 31 #[.int .i64 (-1)] w fun e w' => e = .returned (.string ⟨#[]⟩) ∧ Below w.heap.size w w' := by
  have h := Of_any (-1) w (by decide)
  rw [show ((-1 : Int)).toNat = 0 from rfl, enc_0] at h
  exact h
theorem c3 (w : World) : Calls Tryz.prog 31 #[.int .i64 (3)] w fun e w' => e = .returned (.string ⟨#[3]⟩) ∧ Below w.heap.size w w' := by
  have h := Of_any (3) w (by decide)
  rw [show ((3 : Int)).toNat = 3 from rfl, enc_3] at h
  exact h
theorem c4 (w : World) : Calls Tryz.prog 31 #[.int .i64 (5)] w fun e w' => e = .returned (.string ⟨#[5]⟩) ∧ Below w.heap.size w w' := by
  have h := Of_any (5) w (by decide)
  rw [show ((5 : Int)).toNat = 5 from rfl, enc_5] at h
  exact h
theorem c5 (w : World) : Calls Tryz.prog 38 #[.string ⟨#[3]⟩, .string ⟨#[5]⟩] w fun e w' => e = .returned (.tuple #[.string ⟨#[]⟩, .bool false]) ∧ Below w.heap.size w w' := by
  have h := Sub_any ⟨#[3]⟩ ⟨#[5]⟩ w (by decide) (by decide)
  rw [(show numS ⟨#[3]⟩ = 3 from rfl), (show numS ⟨#[5]⟩ = 5 from rfl), show 3 - 5 = 0 from rfl, enc_0] at h
  exact h
theorem c6 (w : World) : Calls Tryz.prog 38 #[.string ⟨#[5]⟩, .string ⟨#[3]⟩] w fun e w' => e = .returned (.tuple #[.string ⟨#[2]⟩, .bool true]) ∧ Below w.heap.size w w' := by
  have h := Sub_any ⟨#[5]⟩ ⟨#[3]⟩ w (by decide) (by decide)
  rw [(show numS ⟨#[5]⟩ = 5 from rfl), (show numS ⟨#[3]⟩ = 3 from rfl), show 5 - 3 = 2 from rfl, enc_2] at h
  exact h
theorem c7 (w : World) : Calls Tryz.prog 31 #[.int .i64 (1000)] w fun e w' => e = .returned (.string ⟨#[3, 232]⟩) ∧ Below w.heap.size w w' := by
  have h := Of_any (1000) w (by decide)
  rw [show ((1000 : Int)).toNat = 1000 from rfl, enc_1000] at h
  exact h
theorem c8 (w : World) : Calls Tryz.prog 31 #[.int .i64 (7)] w fun e w' => e = .returned (.string ⟨#[7]⟩) ∧ Below w.heap.size w w' := by
  have h := Of_any (7) w (by decide)
  rw [show ((7 : Int)).toNat = 7 from rfl, enc_7] at h
  exact h
theorem c9 (w : World) : Calls Tryz.prog 19 #[.string ⟨#[3, 232]⟩, .string ⟨#[7]⟩] w fun e w' => e = .returned (.tuple #[.string ⟨#[142]⟩, .string ⟨#[6]⟩, .bool true]) ∧ Below w.heap.size w w' := by
  have h := Quo_any ⟨#[3, 232]⟩ ⟨#[7]⟩ w (by decide) (by decide)
  rw [(show numS ⟨#[3, 232]⟩ = 1000 from rfl), (show numS ⟨#[7]⟩ = 7 from rfl)] at h
  rw [← enc_142, ← enc_6]
  exact h
theorem c10 (w : World) : Calls Tryz.prog 31 #[.int .i64 (2)] w fun e w' => e = .returned (.string ⟨#[2]⟩) ∧ Below w.heap.size w w' := by
  have h := Of_any (2) w (by decide)
  rw [show ((2 : Int)).toNat = 2 from rfl, enc_2] at h
  exact h
theorem c11 (w : World) : Calls Tryz.prog 31 #[.int .i64 (142)] w fun e w' => e = .returned (.string ⟨#[142]⟩) ∧ Below w.heap.size w w' := by
  have h := Of_any (142) w (by decide)
  rw [show ((142 : Int)).toNat = 142 from rfl, enc_142] at h
  exact h
theorem c12 (w : World) : Calls Tryz.prog 31 #[.int .i64 (6)] w fun e w' => e = .returned (.string ⟨#[6]⟩) ∧ Below w.heap.size w w' := by
  have h := Of_any (6) w (by decide)
  rw [show ((6 : Int)).toNat = 6 from rfl, enc_6] at h
  exact h
theorem c13 (w : World) : Calls Tryz.prog 31 #[.int .i64 (12)] w fun e w' => e = .returned (.string ⟨#[12]⟩) ∧ Below w.heap.size w w' := by
  have h := Of_any (12) w (by decide)
  rw [show ((12 : Int)).toNat = 12 from rfl, enc_12] at h
  exact h
theorem c14 (w : World) : Calls Tryz.prog 31 #[.int .i64 (18)] w fun e w' => e = .returned (.string ⟨#[18]⟩) ∧ Below w.heap.size w w' := by
  have h := Of_any (18) w (by decide)
  rw [show ((18 : Int)).toNat = 18 from rfl, enc_18] at h
  exact h
theorem c15 (w : World) : Calls Tryz.prog 21 #[.string ⟨#[12]⟩, .string ⟨#[18]⟩] w fun e w' => e = .returned (.string ⟨#[6]⟩) ∧ Below w.heap.size w w' := by
  have h := Gcd_any ⟨#[12]⟩ ⟨#[18]⟩ w (by decide) (by decide)
  rw [(show numS ⟨#[12]⟩ = 12 from rfl), (show numS ⟨#[18]⟩ = 18 from rfl), show Nat.gcd 12 18 = 6 from by decide, enc_6] at h
  exact h
theorem c16 (w : World) : Calls Tryz.prog 21 #[.string ⟨#[]⟩, .string ⟨#[5]⟩] w fun e w' => e = .returned (.string ⟨#[5]⟩) ∧ Below w.heap.size w w' := by
  have h := Gcd_any ⟨#[]⟩ ⟨#[5]⟩ w (by decide) (by decide)
  rw [(show numS ⟨#[]⟩ = 0 from rfl), (show numS ⟨#[5]⟩ = 5 from rfl), show Nat.gcd 0 5 = 5 from by decide, enc_5] at h
  exact h
theorem c17 (w : World) : Calls Tryz.prog 31 #[.int .i64 (200)] w fun e w' => e = .returned (.string ⟨#[200]⟩) ∧ Below w.heap.size w w' := by
  have h := Of_any (200) w (by decide)
  rw [show ((200 : Int)).toNat = 200 from rfl, enc_200] at h
  exact h
theorem c18 (w : World) : Calls Tryz.prog 23 #[.string ⟨#[3]⟩, .string ⟨#[200]⟩, .string ⟨#[3, 232]⟩] w fun e w' => e = .returned (.tuple #[.string ⟨#[1]⟩, .bool true]) ∧ Below w.heap.size w w' := by
  have h := Pow_even ⟨#[3]⟩ ⟨#[200]⟩ ⟨#[3, 232]⟩ w (by decide) (by decide) (by decide) (by decide)
  rw [(show numS ⟨#[3]⟩ = 3 from rfl), (show numS ⟨#[200]⟩ = 200 from rfl), (show numS ⟨#[3, 232]⟩ = 1000 from rfl), show powS 3 200 1000 = 1 from by decide, enc_1] at h
  exact h
theorem c19 (w : World) : Calls Tryz.prog 31 #[.int .i64 (1)] w fun e w' => e = .returned (.string ⟨#[1]⟩) ∧ Below w.heap.size w w' := by
  have h := Of_any (1) w (by decide)
  rw [show ((1 : Int)).toNat = 1 from rfl, enc_1] at h
  exact h
theorem c20 (w : World) : Calls Tryz.prog 23 #[.string ⟨#[5]⟩, .string ⟨#[]⟩, .string ⟨#[1]⟩] w fun e w' => e = .returned (.tuple #[.string ⟨#[]⟩, .bool true]) ∧ Below w.heap.size w w' := by
  have h := Pow_even ⟨#[5]⟩ ⟨#[]⟩ ⟨#[1]⟩ w (by decide) (by decide) (by decide) (by decide)
  rw [(show numS ⟨#[5]⟩ = 5 from rfl), (show numS ⟨#[]⟩ = 0 from rfl), (show numS ⟨#[1]⟩ = 1 from rfl), show powS 5 0 1 = 0 from by decide, enc_0] at h
  exact h
theorem c22 (w : World) : Calls Tryz.prog 31 #[.int .i64 (255)] w fun e w' => e = .returned (.string ⟨#[255]⟩) ∧ Below w.heap.size w w' := by
  have h := Of_any (255) w (by decide)
  rw [show ((255 : Int)).toNat = 255 from rfl, enc_255] at h
  exact h
theorem c23 (w : World) : Calls Tryz.prog 34 #[.string ⟨#[255]⟩] w fun e w' => e = .returned (.int .i64 8) ∧ Below w.heap.size w w' := by
  have h := Bits_any ⟨#[255]⟩ w (by decide)
  rw [(show numS ⟨#[255]⟩ = 255 from rfl), show bitsN 255 = 8 from by simp [bitsN, digs_pos, digs_zero]] at h
  exact h
theorem c24 (w : World) : Calls Tryz.prog 34 #[.string ⟨#[1, 0]⟩] w fun e w' => e = .returned (.int .i64 9) ∧ Below w.heap.size w w' := by
  have h := Bits_any ⟨#[1, 0]⟩ w (by decide)
  rw [(show numS ⟨#[1, 0]⟩ = 256 from rfl), show bitsN 256 = 9 from by simp [bitsN, digs_pos, digs_zero]] at h
  exact h
theorem c25 (w : World) (htab : Lib.TabIs Tryz.prog w "internal/strconv.uint64pow10" .u64 Lib.pow10Tab) : Calls Tryz.prog 25 #[.string ⟨#[1, 0, 0]⟩] w fun e w' => e = .returned (.string ⟨#[54, 53, 53, 51, 54]⟩) ∧ Below w.heap.size w w' := by
  have h := Text_any ⟨#[1, 0, 0]⟩ w (by decide) htab
  rw [show numS ⟨#[1, 0, 0]⟩ = 65536 from rfl, show Lib.decDigits 65536 = [54, 53, 53, 51, 54] from by simp [Lib.decDigits]] at h
  exact h
set_option maxHeartbeats 4000000 in
set_option maxRecDepth 100000 in
theorem sanity_any (w : World) (htab : Lib.TabIs Tryz.prog w "internal/strconv.uint64pow10" .u64 Lib.pow10Tab) :
    Calls Tryz.prog 13 #[] w fun e w' => e = .returned (.bool true) ∧ Below w.heap.size w w' := by
  have HT := Lib.hid (Lib.tabBelow_of_tabIs htab)
  clear htab
  have HB := Lib.hid (Below.refl w.heap.size w)
  go_enter Tryz.func13, Tryz.ntmps13
  go_wp2_with fail
  refine (c0 _).mono ?_
  rintro e w1 ⟨rfl, hb⟩
  have HB := Lib.hid (HB.out.trans (hb.mono HB.out.size))
  clear hb
  go_wp2_with fail
  refine (c1 _).mono ?_
  rintro e w2 ⟨rfl, hb⟩
  have HB := Lib.hid (HB.out.trans (hb.mono HB.out.size))
  clear hb
  go_wp2_with fail
  refine (c2 _).mono ?_
  rintro e w3 ⟨rfl, hb⟩
  have HB := Lib.hid (HB.out.trans (hb.mono HB.out.size))
  clear hb
  go_wp2_with fail
  refine (c3 _).mono ?_
  rintro e w4 ⟨rfl, hb⟩
  have HB := Lib.hid (HB.out.trans (hb.mono HB.out.size))
  clear hb
  go_wp2_with fail
  refine (c4 _).mono ?_
  rintro e w5 ⟨rfl, hb⟩
  have HB := Lib.hid (HB.out.trans (hb.mono HB.out.size))
  clear hb
  go_wp2_with fail
  refine (c5 _).mono ?_
  rintro e w6 ⟨rfl, hb⟩
  have HB := Lib.hid (HB.out.trans (hb.mono HB.out.size))
  clear hb
  go_wp2_with fail
  refine (c4 _).mono ?_
  rintro e w7 ⟨rfl, hb⟩
  have HB := Lib.hid (HB.out.trans (hb.mono HB.out.size))
  clear hb
  go_wp2_with fail
  refine (c3 _).mono ?_
  rintro e w8 ⟨rfl, hb⟩
  have HB := Lib.hid (HB.out.trans (hb.mono HB.out.size))
  clear hb
  go_wp2_with fail
  refine (c6 _).mono ?_
  rintro e w9 ⟨rfl, hb⟩
  have HB := Lib.hid (HB.out.trans (hb.mono HB.out.size))
  clear hb
  go_wp2_with fail
  refine (c7 _).mono ?_
  rintro e w10 ⟨rfl, hb⟩
  have HB := Lib.hid (HB.out.trans (hb.mono HB.out.size))
  clear hb
  go_wp2_with fail
  refine (c8 _).mono ?_
  rintro e w11 ⟨rfl, hb⟩
  have HB := Lib.hid (HB.out.trans (hb.mono HB.out.size))
  clear hb
  go_wp2_with fail
  refine (c9 _).mono ?_
  rintro e w12 ⟨rfl, hb⟩
  have HB := Lib.hid (HB.out.trans (hb.mono HB.out.size))
  clear hb
  go_wp2_with fail
  refine (c10 _).mono ?_
  rintro e w13 ⟨rfl, hb⟩
  have HB := Lib.hid (HB.out.trans (hb.mono HB.out.size))
  clear hb
  go_wp2_with fail
  refine (c11 _).mono ?_
  rintro e w14 ⟨rfl, hb⟩
  have HB := Lib.hid (HB.out.trans (hb.mono HB.out.size))
  clear hb
  go_wp2_with fail
  refine (c12 _).mono ?_
  rintro e w15 ⟨rfl, hb⟩
  have HB := Lib.hid (HB.out.trans (hb.mono HB.out.size))
  clear hb
  go_wp2_with fail
  refine (c13 _).mono ?_
  rintro e w16 ⟨rfl, hb⟩
  have HB := Lib.hid (HB.out.trans (hb.mono HB.out.size))
  clear hb
  go_wp2_with fail
  refine (c14 _).mono ?_
  rintro e w17 ⟨rfl, hb⟩
  have HB := Lib.hid (HB.out.trans (hb.mono HB.out.size))
  clear hb
  go_wp2_with fail
  refine (c15 _).mono ?_
  rintro e w18 ⟨rfl, hb⟩
  have HB := Lib.hid (HB.out.trans (hb.mono HB.out.size))
  clear hb
  go_wp2_with fail
  refine (c12 _).mono ?_
  rintro e w19 ⟨rfl, hb⟩
  have HB := Lib.hid (HB.out.trans (hb.mono HB.out.size))
  clear hb
  go_wp2_with fail
  refine (c4 _).mono ?_
  rintro e w20 ⟨rfl, hb⟩
  have HB := Lib.hid (HB.out.trans (hb.mono HB.out.size))
  clear hb
  go_wp2_with fail
  refine (c16 _).mono ?_
  rintro e w21 ⟨rfl, hb⟩
  have HB := Lib.hid (HB.out.trans (hb.mono HB.out.size))
  clear hb
  go_wp2_with fail
  refine (c4 _).mono ?_
  rintro e w22 ⟨rfl, hb⟩
  have HB := Lib.hid (HB.out.trans (hb.mono HB.out.size))
  clear hb
  go_wp2_with fail
  refine (c3 _).mono ?_
  rintro e w23 ⟨rfl, hb⟩
  have HB := Lib.hid (HB.out.trans (hb.mono HB.out.size))
  clear hb
  go_wp2_with fail
  refine (c17 _).mono ?_
  rintro e w24 ⟨rfl, hb⟩
  have HB := Lib.hid (HB.out.trans (hb.mono HB.out.size))
  clear hb
  go_wp2_with fail
  refine (c7 _).mono ?_
  rintro e w25 ⟨rfl, hb⟩
  have HB := Lib.hid (HB.out.trans (hb.mono HB.out.size))
  clear hb
  go_wp2_with fail
  refine (c18 _).mono ?_
  rintro e w26 ⟨rfl, hb⟩
  have HB := Lib.hid (HB.out.trans (hb.mono HB.out.size))
  clear hb
  go_wp2_with fail
  refine (c4 _).mono ?_
  rintro e w27 ⟨rfl, hb⟩
  have HB := Lib.hid (HB.out.trans (hb.mono HB.out.size))
  clear hb
  go_wp2_with fail
  refine (c19 _).mono ?_
  rintro e w28 ⟨rfl, hb⟩
  have HB := Lib.hid (HB.out.trans (hb.mono HB.out.size))
  clear hb
  go_wp2_with fail
  refine (c20 _).mono ?_
  rintro e w29 ⟨rfl, hb⟩
  have HB := Lib.hid (HB.out.trans (hb.mono HB.out.size))
  clear hb
  go_wp2_with fail
  refine (parse_c _).mono ?_
  rintro e w30 ⟨rfl, hb⟩
  have HB := Lib.hid (HB.out.trans (hb.mono HB.out.size))
  clear hb
  go_wp2_with fail
  refine (c22 _).mono ?_
  rintro e w31 ⟨rfl, hb⟩
  have HB := Lib.hid (HB.out.trans (hb.mono HB.out.size))
  clear hb
  go_wp2_with fail
  refine (c23 _).mono ?_
  rintro e w32 ⟨rfl, hb⟩
  have HB := Lib.hid (HB.out.trans (hb.mono HB.out.size))
  clear hb
  go_wp2_with fail
  refine (c1 _).mono ?_
  rintro e w33 ⟨rfl, hb⟩
  have HB := Lib.hid (HB.out.trans (hb.mono HB.out.size))
  clear hb
  go_wp2_with fail
  refine (c24 _).mono ?_
  rintro e w34 ⟨rfl, hb⟩
  have HB := Lib.hid (HB.out.trans (hb.mono HB.out.size))
  clear hb
  go_wp2_with fail
  refine (c19 _).mono ?_
  rintro e w35 ⟨rfl, hb⟩
  have HB := Lib.hid (HB.out.trans (hb.mono HB.out.size))
  clear hb
  go_wp2_with fail
  refine (c25 _ (HT.out.on HB.out).here).mono ?_
  rintro e w36 ⟨rfl, hb⟩
  have HB := Lib.hid (HB.out.trans (hb.mono HB.out.size))
  clear hb
  go_wp2_with fail
  go_ret
  exact ⟨rfl, HB.out⟩
end Go.Proofs.YtakbkbmjeanboaaGreatDoor
