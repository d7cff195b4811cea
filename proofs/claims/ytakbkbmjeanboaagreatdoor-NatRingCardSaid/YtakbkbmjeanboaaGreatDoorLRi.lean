/- NatRing: the walk. Each theorem names its conditions. -/
import Derived.Test.YtakbkbmjeanboaaGreatDoorSanA
import Derived.Test.YtakbkbmjeanboaaGreatDoorArgB
import Derived.Test.YtakbkbmjeanboaaGreatDoorApiE
import Derived.Test.YtakbkbmjeanboaaGreatDoorRefN
namespace Go.Proofs.YtakbkbmjeanboaaGreatDoor.natRing
open Go.RowKit Go.Shelf
open Dgt
set_option linter.unusedVariables false

theorem made_size (l : List UInt8) : (⟨(l.take 40).toArray⟩ : ByteArray).size ≤ 40 := by
  show (l.take 40).toArray.size ≤ 40
  rw [List.size_toArray, List.length_take]; omega
set_option maxHeartbeats 4000000 in
set_option maxRecDepth 100000 in
theorem walk (v0 v1 v2 : Value) (x y z : List UInt8) (w : World) (h0 : ByR w v0 x) (h1 : ByR w v1 y) (h2 : ByR w v2 z) (htab : Lib.TabIs Tryz.prog w "internal/strconv.uint64pow10" .u64 Lib.pow10Tab) :
    Calls Tryz.prog 9 #[v0, v1, v2] w fun e w' => e = .returned (.bool true) ∧ Below w.heap.size w w' := by
  have HB := Lib.hid (Below.refl w.heap.size w)
  have H0 := Lib.hid h0
  have H1 := Lib.hid h1
  have H2 := Lib.hid h2
  have HSAN := Lib.hid (sanity_any w htab)
  have HTB := Lib.hid (Lib.tabBelow_of_tabIs htab)
  obtain ⟨a, ha⟩ : ∃ a, (⟨(x.take 40).toArray⟩ : ByteArray) = a := ⟨_, rfl⟩
  obtain ⟨b, hb⟩ : ∃ b, (⟨(y.take 40).toArray⟩ : ByteArray) = b := ⟨_, rfl⟩
  obtain ⟨c, hc⟩ : ∃ c, (⟨(z.take 40).toArray⟩ : ByteArray) = c := ⟨_, rfl⟩
  have HA0 := Lib.hid ha
  have HAS : Hid (a.size ≤ 40) := Lib.hid (by rw [← ha]; exact made_size x)
  have SA : Hid (a.size ≤ 100000000) := Lib.hid (Nat.le_trans HAS.out (by decide))
  obtain ⟨A, hA⟩ : ∃ A, numS a = A := ⟨_, rfl⟩
  have NA := Lib.hid hA
  have ZA : Hid (Sz A 40) := Lib.hid (by rw [← hA]; exact (Sz.num a).mono HAS.out)
  have HB0 := Lib.hid hb
  have HBS : Hid (b.size ≤ 40) := Lib.hid (by rw [← hb]; exact made_size y)
  have SB : Hid (b.size ≤ 100000000) := Lib.hid (Nat.le_trans HBS.out (by decide))
  obtain ⟨B, hB⟩ : ∃ B, numS b = B := ⟨_, rfl⟩
  have NB := Lib.hid hB
  have ZB : Hid (Sz B 40) := Lib.hid (by rw [← hB]; exact (Sz.num b).mono HBS.out)
  have HC0 := Lib.hid hc
  have HCS : Hid (c.size ≤ 40) := Lib.hid (by rw [← hc]; exact made_size z)
  have SC : Hid (c.size ≤ 100000000) := Lib.hid (Nat.le_trans HCS.out (by decide))
  obtain ⟨C, hC⟩ : ∃ C, numS c = C := ⟨_, rfl⟩
  have NC := Lib.hid hC
  have ZC : Hid (Sz C 40) := Lib.hid (by rw [← hC]; exact (Sz.num c).mono HCS.out)
  clear ha hb hc hA hB hC h0 h1 h2 htab
  go_enter Tryz.func9, Tryz.ntmps9
  go_wp2_with fail
  refine (HSAN.out).mono ?_
  rintro e w1 ⟨rfl, hb⟩
  have HB := Lib.hid (HB.out.trans (hb.mono HB.out.size))
  clear hb
  go_wp2_with fail
  have H0 := Lib.hid (H0.out.up (HB.out.mono (Nat.le_refl _)))
  have H1 := Lib.hid (H1.out.up (HB.out.mono (Nat.le_refl _)))
  have H2 := Lib.hid (H2.out.up (HB.out.mono (Nat.le_refl _)))
  refine (Made_any _ _ _ H0.out).mono ?_
  rintro e w2 ⟨rfl, rfl⟩
  rw [HA0.out]
  go_wp2_with fail
  refine (Made_any _ _ _ H1.out).mono ?_
  rintro e w3 ⟨rfl, rfl⟩
  rw [HB0.out]
  go_wp2_with fail
  refine (Made_any _ _ _ H2.out).mono ?_
  rintro e w4 ⟨rfl, rfl⟩
  rw [HC0.out]
  go_wp2_with fail
  refine (Add_n NA.out NB.out SA.out SB.out _).mono ?_
  rintro e w5 ⟨rfl, hb⟩
  have HB := Lib.hid (HB.out.trans (hb.mono HB.out.size))
  clear hb
  go_wp2_with fail
  refine (Sub_n (numS_encS _) NB.out (((ZA.out.add ZB.out)).enc (by decide)) SB.out _).mono ?_
  rintro e w6 ⟨rfl, hb⟩
  have HB := Lib.hid (HB.out.trans (hb.mono HB.out.size))
  clear hb
  rw [Nat.add_sub_cancel, show decide (B ≤ A + B) = true from decide_eq_true (Nat.le_add_left _ _)]
  go_wp2_with fail
  refine (Add_n NA.out NB.out SA.out SB.out _).mono ?_
  rintro e w7 ⟨rfl, hb⟩
  have HB := Lib.hid (HB.out.trans (hb.mono HB.out.size))
  clear hb
  go_wp2_with fail
  refine (Add_n NB.out NA.out SB.out SA.out _).mono ?_
  rintro e w8 ⟨rfl, hb⟩
  have HB := Lib.hid (HB.out.trans (hb.mono HB.out.size))
  clear hb
  rw [Nat.add_comm B A]
  go_wp2_with fail
  refine (Mul_n NA.out NB.out SA.out SB.out _).mono ?_
  rintro e w9 ⟨rfl, hb⟩
  have HB := Lib.hid (HB.out.trans (hb.mono HB.out.size))
  clear hb
  go_wp2_with fail
  refine (Mul_n NB.out NA.out SB.out SA.out _).mono ?_
  rintro e w10 ⟨rfl, hb⟩
  have HB := Lib.hid (HB.out.trans (hb.mono HB.out.size))
  clear hb
  rw [Nat.mul_comm B A]
  go_wp2_with fail
  refine (Canon_any a _ SA.out).mono ?_
  rintro e w11 ⟨rfl, rfl⟩
  rw [NA.out]
  go_wp2_with fail
  refine (Add_n NA.out NB.out SA.out SB.out _).mono ?_
  rintro e w12 ⟨rfl, hb⟩
  have HB := Lib.hid (HB.out.trans (hb.mono HB.out.size))
  clear hb
  go_wp2_with fail
  refine (Add_n (numS_encS _) NC.out (((ZA.out.add ZB.out)).enc (by decide)) SC.out _).mono ?_
  rintro e w13 ⟨rfl, hb⟩
  have HB := Lib.hid (HB.out.trans (hb.mono HB.out.size))
  clear hb
  go_wp2_with fail
  refine (Add_n NB.out NC.out SB.out SC.out _).mono ?_
  rintro e w14 ⟨rfl, hb⟩
  have HB := Lib.hid (HB.out.trans (hb.mono HB.out.size))
  clear hb
  go_wp2_with fail
  refine (Add_n NA.out (numS_encS _) SA.out (((ZB.out.add ZC.out)).enc (by decide)) _).mono ?_
  rintro e w15 ⟨rfl, hb⟩
  have HB := Lib.hid (HB.out.trans (hb.mono HB.out.size))
  clear hb
  rw [← Nat.add_assoc A B C]
  go_wp2_with fail
  refine (Mul_n NA.out NB.out SA.out SB.out _).mono ?_
  rintro e w16 ⟨rfl, hb⟩
  have HB := Lib.hid (HB.out.trans (hb.mono HB.out.size))
  clear hb
  go_wp2_with fail
  refine (Mul_n (numS_encS _) NC.out ((ZA.out.mul ZB.out).enc (by decide)) SC.out _).mono ?_
  rintro e w17 ⟨rfl, hb⟩
  have HB := Lib.hid (HB.out.trans (hb.mono HB.out.size))
  clear hb
  go_wp2_with fail
  refine (Mul_n NB.out NC.out SB.out SC.out _).mono ?_
  rintro e w18 ⟨rfl, hb⟩
  have HB := Lib.hid (HB.out.trans (hb.mono HB.out.size))
  clear hb
  go_wp2_with fail
  refine (Mul_n NA.out (numS_encS _) SA.out ((ZB.out.mul ZC.out).enc (by decide)) _).mono ?_
  rintro e w19 ⟨rfl, hb⟩
  have HB := Lib.hid (HB.out.trans (hb.mono HB.out.size))
  clear hb
  rw [← Nat.mul_assoc A B C]
  go_wp2_with fail
  refine (Add_n NB.out NC.out SB.out SC.out _).mono ?_
  rintro e w20 ⟨rfl, hb⟩
  have HB := Lib.hid (HB.out.trans (hb.mono HB.out.size))
  clear hb
  go_wp2_with fail
  refine (Mul_n NA.out (numS_encS _) SA.out (((ZB.out.add ZC.out)).enc (by decide)) _).mono ?_
  rintro e w21 ⟨rfl, hb⟩
  have HB := Lib.hid (HB.out.trans (hb.mono HB.out.size))
  clear hb
  go_wp2_with fail
  refine (Mul_n NA.out NB.out SA.out SB.out _).mono ?_
  rintro e w22 ⟨rfl, hb⟩
  have HB := Lib.hid (HB.out.trans (hb.mono HB.out.size))
  clear hb
  go_wp2_with fail
  refine (Mul_n NA.out NC.out SA.out SC.out _).mono ?_
  rintro e w23 ⟨rfl, hb⟩
  have HB := Lib.hid (HB.out.trans (hb.mono HB.out.size))
  clear hb
  go_wp2_with fail
  refine (Add_n (numS_encS _) (numS_encS _) ((ZA.out.mul ZB.out).enc (by decide)) ((ZA.out.mul ZC.out).enc (by decide)) _).mono ?_
  rintro e w24 ⟨rfl, hb⟩
  have HB := Lib.hid (HB.out.trans (hb.mono HB.out.size))
  clear hb
  rw [← Nat.mul_add A B C]
  go_wp2_with fail
  refine (Mul_n NA.out (show numS ⟨#[]⟩ = 0 from rfl) SA.out (by decide) _).mono ?_
  rintro e w25 ⟨rfl, hb⟩
  have HB := Lib.hid (HB.out.trans (hb.mono HB.out.size))
  clear hb
  rw [Nat.mul_zero, encS_zero]
  go_wp2_with fail
  refine (Mul_n NA.out (show numS ⟨#[1]⟩ = 1 from rfl) SA.out (by decide) _).mono ?_
  rintro e w26 ⟨rfl, hb⟩
  have HB := Lib.hid (HB.out.trans (hb.mono HB.out.size))
  clear hb
  rw [Nat.mul_one]
  go_wp2_with fail
  go_ret
  exact ⟨by simp, HB.out⟩
end Go.Proofs.YtakbkbmjeanboaaGreatDoor.natRing
