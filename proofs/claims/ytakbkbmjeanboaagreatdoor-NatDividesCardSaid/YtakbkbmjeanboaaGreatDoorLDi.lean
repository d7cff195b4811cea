/- NatDivides: the walk. Each theorem names its conditions. -/
import Derived.Test.YtakbkbmjeanboaaGreatDoorSanA
import Derived.Test.YtakbkbmjeanboaaGreatDoorArgB
import Derived.Test.YtakbkbmjeanboaaGreatDoorApiE
namespace Go.Proofs.YtakbkbmjeanboaaGreatDoor.natDivides
open Go.RowKit Go.Shelf
open Dgt
set_option linter.unusedVariables false

theorem made_size (l : List UInt8) : (⟨(l.take 40).toArray⟩ : ByteArray).size ≤ 40 := by
  show (l.take 40).toArray.size ≤ 40
  rw [List.size_toArray, List.length_take]; omega
theorem plain_n {A B : Nat} (hA : Sz A 40) (hB0 : 0 < B) (hB : Sz B 40) :
    (0 < A → 0 < bitsN A ∧ 0 < bitsN B ∧ bitsN A ≤ 320 ∧ bitsN B ≤ 320 ∧ (bitsN A + bitsN B = bitsN (A * B) ∨ bitsN A + bitsN B = bitsN (A * B) + 1)) := by
  intro hA0
  have h1 := bitsN_pos hA0; have h2 := bitsN_pos hB0; have h3 := bitsN_le hA; have h4 := bitsN_le hB
  have h5 := bitsN_mul hA0 hB0
  omega
set_option maxHeartbeats 4000000 in
set_option maxRecDepth 100000 in
theorem walk (v0 v1 : Value) (x y : List UInt8) (w : World) (h0 : ByR w v0 x) (h1 : ByR w v1 y) (htab : Lib.TabIs Tryz.prog w "internal/strconv.uint64pow10" .u64 Lib.pow10Tab) :
    Calls Tryz.prog 12 #[v0, v1] w fun e w' => e = .returned (.bool true) ∧ Below w.heap.size w w' := by
  have HB := Lib.hid (Below.refl w.heap.size w)
  have H0 := Lib.hid h0; have H1 := Lib.hid h1
  have HSAN := Lib.hid (sanity_any w htab)
  obtain ⟨a, ha⟩ : ∃ a, (⟨(x.take 40).toArray⟩ : ByteArray) = a := ⟨_, rfl⟩
  obtain ⟨b, hb⟩ : ∃ b, (⟨(y.take 40).toArray⟩ : ByteArray) = b := ⟨_, rfl⟩
  have HA0 := Lib.hid ha; have HB0 := Lib.hid hb
  have HAS : Hid (a.size ≤ 40) := Lib.hid (by rw [← ha]; exact made_size x)
  have HBS : Hid (b.size ≤ 40) := Lib.hid (by rw [← hb]; exact made_size y)
  have SA : Hid (a.size ≤ 100000000) := Lib.hid (Nat.le_trans HAS.out (by decide))
  have SB : Hid (b.size ≤ 100000000) := Lib.hid (Nat.le_trans HBS.out (by decide))
  obtain ⟨A, hA⟩ : ∃ A, numS a = A := ⟨_, rfl⟩
  obtain ⟨B, hB⟩ : ∃ B, numS b = B := ⟨_, rfl⟩
  have NA := Lib.hid hA; have NB := Lib.hid hB
  have ZA : Hid (Sz A 40) := Lib.hid (by rw [← hA]; exact (Sz.num a).mono HAS.out)
  have ZB : Hid (Sz B 40) := Lib.hid (by rw [← hB]; exact (Sz.num b).mono HBS.out)
  clear ha hb hA hB h0 h1 htab
  go_enter Tryz.func12, Tryz.ntmps12
  go_wp2_with fail
  refine (HSAN.out).mono ?_
  rintro e w1 ⟨rfl, hb⟩
  have HB := Lib.hid (HB.out.trans (hb.mono HB.out.size))
  clear hb
  go_wp2_with fail
  have H0 := Lib.hid (H0.out.up (HB.out.mono (Nat.le_refl _)))
  have H1 := Lib.hid (H1.out.up (HB.out.mono (Nat.le_refl _)))
  refine (Made_any _ _ _ H0.out).mono ?_
  rintro e w2 ⟨rfl, rfl⟩
  rw [HA0.out]
  go_wp2_with fail
  refine (Made_any _ _ _ H1.out).mono ?_
  rintro e w3 ⟨rfl, rfl⟩
  rw [HB0.out]
  go_wp2_with fail
  refine (Quo_n NA.out NB.out SA.out SB.out _).mono ?_
  rintro e w4 ⟨rfl, hb⟩
  have HB := Lib.hid (HB.out.trans (hb.mono HB.out.size))
  clear hb
  go_wp2_with fail
  refine (Bits_n NB.out SB.out _).mono ?_
  rintro e w5 ⟨rfl, hb⟩
  have HB := Lib.hid (HB.out.trans (hb.mono HB.out.size))
  clear hb
  rcases Nat.eq_zero_or_pos B with hB0 | hB0
  · subst hB0
    rw [show bitsN 0 = 0 from bitsN_zero, Nat.div_zero, encS_zero, show remS A 0 = 0 from rfl, encS_zero]
    go_wp2_with fail
    go_ret
    exact ⟨rfl, HB.out⟩
  · have hbp : 0 < (bitsN B : Int) := by have := bitsN_pos hB0; omega
    have hbe : ((bitsN B : Int) == 0) = false := by rw [beq_eq_false_iff_ne]; omega
    have hdd : decide (0 < B) = true := by simpa using hB0
    have hrm : remS A B = A % B := by unfold remS; rw [if_neg (by omega)]
    have PLAIN := Lib.hid (plain_n ZA.out hB0 ZB.out)
    have HBP := Lib.hid hB0
    rw [hrm, hdd]
    have NQ : Hid (numS (encS (A / B)) = A / B) := Lib.hid (numS_encS _); have NR : Hid (numS (encS (A % B)) = A % B) := Lib.hid (numS_encS _)
    have SQ := Lib.hid ((ZA.out.div B).enc (by decide)); have SR := Lib.hid ((ZA.out.mod B).enc (by decide))
    clear hrm hdd hB0 hbp
    go_wp2_with fail
    refine (Cmp_n NR.out NB.out SR.out SB.out _).mono ?_
    rintro e w6 ⟨rfl, hb⟩
    have HB := Lib.hid (HB.out.trans (hb.mono HB.out.size))
    clear hb
    rw [cmpI_lt (Nat.mod_lt _ HBP.out)]
    go_wp2_with fail
    refine (Mul_n NB.out NQ.out SB.out SQ.out _).mono ?_
    rintro e w7 ⟨rfl, hb⟩
    have HB := Lib.hid (HB.out.trans (hb.mono HB.out.size))
    clear hb
    go_wp2_with fail
    refine (Add_n (numS_encS _) NR.out ((ZB.out.mul (ZA.out.div B)).enc (by decide)) SR.out _).mono ?_
    rintro e w8 ⟨rfl, hb⟩
    have HB := Lib.hid (HB.out.trans (hb.mono HB.out.size))
    clear hb
    rw [Nat.div_add_mod]
    go_wp2_with fail
    refine (Cmp_n (numS_encS _) NA.out (ZA.out.enc (by decide)) SA.out _).mono ?_
    rintro e w9 ⟨rfl, hb⟩
    have HB := Lib.hid (HB.out.trans (hb.mono HB.out.size))
    clear hb
    rw [cmpI_eq]
    go_wp2_with fail
    refine (Right_e (A / B) _ SQ.out).mono ?_
    rintro e w10 ⟨rfl, rfl⟩
    go_wp2_with fail
    refine (Right_e (A % B) _ SR.out).mono ?_
    rintro e w11 ⟨rfl, rfl⟩
    go_wp2_with fail
    refine (Bits_n NA.out SA.out _).mono ?_
    rintro e w12 ⟨rfl, hb⟩
    have HB := Lib.hid (HB.out.trans (hb.mono HB.out.size))
    clear hb
    go_wp2_with fail
    refine (Bits_n NB.out SB.out _).mono ?_
    rintro e w13 ⟨rfl, hb⟩
    have HB := Lib.hid (HB.out.trans (hb.mono HB.out.size))
    clear hb
    go_wp2_with fail
    refine (Mul_n NA.out NB.out SA.out SB.out _).mono ?_
    rintro e w14 ⟨rfl, hb⟩
    have HB := Lib.hid (HB.out.trans (hb.mono HB.out.size))
    clear hb
    go_wp2_with fail
    refine (Bits_n (numS_encS _) ((ZA.out.mul ZB.out).enc (by decide)) _).mono ?_
    rintro e w15 ⟨rfl, hb⟩
    have HB := Lib.hid (HB.out.trans (hb.mono HB.out.size))
    clear hb
    obtain ⟨q, hq⟩ : ∃ q, bitsN B = q := ⟨_, rfl⟩
    have hq0 : 0 < q := by rw [← hq]; exact bitsN_pos HBP.out
    have hq9 : q ≤ 320 := by rw [← hq]; exact bitsN_le ZB.out
    have hq9' : (q : Int) ≤ 320 := by omega
    rcases Nat.eq_zero_or_pos A with hA0 | hA0
    · subst hA0
      rw [Nat.zero_mul, bitsN_zero, hq]
      have HQ := Lib.hid hq
      have qe1 : wrap64 (q : Int) = (q : Int) := by unfold wrap64; omega
      clear hq hq0 hq9 hbe
      go_wp2_with fail
      refine (Bits_n NA.out SA.out _).mono ?_
      rintro e w16 ⟨rfl, hb⟩
      have HB := Lib.hid (HB.out.trans (hb.mono HB.out.size))
      clear hb
      rw [bitsN_zero]
      go_wp2_with fail
      refine (Bits_n NB.out SB.out _).mono ?_
      rintro e w17 ⟨rfl, hb⟩
      have HB := Lib.hid (HB.out.trans (hb.mono HB.out.size))
      clear hb
      rw [HQ.out]
      go_wp2_with fail
      go_ret
      exact ⟨by simp, HB.out⟩
    · obtain ⟨p1, -, p3, -, p5⟩ := PLAIN.out hA0
      obtain ⟨p, hp⟩ : ∃ p, bitsN A = p := ⟨_, rfl⟩
      obtain ⟨r, hr⟩ : ∃ r, bitsN (A * B) = r := ⟨_, rfl⟩
      rw [hp, hq, hr] at p5
      rw [hp] at p1 p3
      rw [hp, hq, hr]
      have hpe : ((p : Int) == 0) = false := by rw [beq_eq_false_iff_ne]; omega
      have hpl : 0 < (p : Int) := by omega
      have hp9 : (p : Int) ≤ 320 := by omega
      have HP := Lib.hid hp
      have P5 := Lib.hid p5
      clear hp hr hq hq0 hq9 hbe p1 p3 p5
      rcases P5.out with h5 | h5
      · have hw1 : wrap64 ((p : Int) + (q : Int)) = (p : Int) + (q : Int) := by unfold wrap64; omega
        have hw2 : wrap64 ((p : Int) + (q : Int) - (r : Int)) = 0 := by unfold wrap64; omega
        have H5 := Lib.hid h5
        clear h5 P5 PLAIN
        go_wp2_with fail
        refine (Bits_n NA.out SA.out _).mono ?_
        rintro e w18 ⟨rfl, hb⟩
        have HB := Lib.hid (HB.out.trans (hb.mono HB.out.size))
        clear hb
        rw [HP.out]
        go_wp2_with fail
        refine (Bits_n NA.out SA.out _).mono ?_
        rintro e w19 ⟨rfl, hb⟩
        have HB := Lib.hid (HB.out.trans (hb.mono HB.out.size))
        clear hb
        rw [HP.out]
        go_wp2_with fail
        go_ret
        exact ⟨by simp, HB.out⟩
      · have hw1 : wrap64 ((p : Int) + (q : Int)) = (p : Int) + (q : Int) := by unfold wrap64; omega
        have hw2 : wrap64 ((p : Int) + (q : Int) - (r : Int)) = 1 := by unfold wrap64; omega
        have H5 := Lib.hid h5
        clear h5 P5 PLAIN
        go_wp2_with fail
        refine (Bits_n NA.out SA.out _).mono ?_
        rintro e w20 ⟨rfl, hb⟩
        have HB := Lib.hid (HB.out.trans (hb.mono HB.out.size))
        clear hb
        rw [HP.out]
        go_wp2_with fail
        refine (Bits_n NA.out SA.out _).mono ?_
        rintro e w21 ⟨rfl, hb⟩
        have HB := Lib.hid (HB.out.trans (hb.mono HB.out.size))
        clear hb
        rw [HP.out]
        go_wp2_with fail
        go_ret
        exact ⟨by simp, HB.out⟩
end Go.Proofs.YtakbkbmjeanboaaGreatDoor.natDivides
