/- NatProducts: the walk. Each theorem names its conditions. -/
import Derived.Test.YtakbkbmjeanboaaGreatDoorSanA
import Derived.Test.YtakbkbmjeanboaaGreatDoorArgB
import Derived.Test.YtakbkbmjeanboaaGreatDoorApiE
import Derived.Test.YtakbkbmjeanboaaGreatDoorRefZ
namespace Go.Proofs.YtakbkbmjeanboaaGreatDoor.natProducts
open Go.RowKit Go.Shelf
open Dgt
set_option linter.unusedVariables false

theorem made_size (l : List UInt8) : (⟨(l.take 40).toArray⟩ : ByteArray).size ≤ 40 := by
  show (l.take 40).toArray.size ≤ 40
  rw [List.size_toArray, List.length_take]; omega
set_option maxHeartbeats 4000000 in
set_option maxRecDepth 100000 in
theorem walk (v0 v1 : Value) (x y : List UInt8) (w : World) (h0 : ByR w v0 x) (h1 : ByR w v1 y) (htab : Lib.TabIs Tryz.prog w "internal/strconv.uint64pow10" .u64 Lib.pow10Tab) :
    Calls Tryz.prog 7 #[v0, v1] w fun e w' => e = .returned (.bool true) ∧ Below w.heap.size w w' := by
  have HB := Lib.hid (Below.refl w.heap.size w)
  have H0 := Lib.hid h0
  have H1 := Lib.hid h1
  have HSAN := Lib.hid (sanity_any w htab)
  have HTB := Lib.hid (Lib.tabBelow_of_tabIs htab)
  obtain ⟨a, ha⟩ : ∃ a, (⟨(x.take 40).toArray⟩ : ByteArray) = a := ⟨_, rfl⟩
  obtain ⟨b, hb⟩ : ∃ b, (⟨(y.take 40).toArray⟩ : ByteArray) = b := ⟨_, rfl⟩
  have HA0 := Lib.hid ha
  have HAS : Hid (a.size ≤ 40) := Lib.hid (by rw [← ha]; exact made_size x)
  have SA : Hid (a.size ≤ 100000000) := Lib.hid (Nat.le_trans HAS.out (by decide))
  obtain ⟨A, hA⟩ : ∃ A, numS a = A := ⟨_, rfl⟩
  have NA := Lib.hid hA
  have ZA : Hid (Sz A 40) := Lib.hid (by rw [← hA]; exact (Sz.num a).mono HAS.out)
  have HB0 := Lib.hid hb
  have HBS : Hid (b.size ≤ 40) := Lib.hid (by rw [← hb]; exact made_size y)
  have SB : Hid (b.size ≤ 100000000) := Lib.hid (Nat.le_trans HBS.out (by decide))
  obtain ⟨B, hB⟩ : ∃ B, numS b = B := ⟨_, rfl⟩
  have NB := Lib.hid hB
  have ZB : Hid (Sz B 40) := Lib.hid (by rw [← hB]; exact (Sz.num b).mono HBS.out)
  clear ha hb hA hB h0 h1 htab
  have RA : Hid (a.size ≤ 1000000) := Lib.hid (Nat.le_trans HAS.out (by decide)); have RB : Hid (b.size ≤ 1000000) := Lib.hid (Nat.le_trans HBS.out (by decide))
  go_enter Tryz.func7, Tryz.ntmps7
  go_wp2_with fail
  refine (HSAN.out).mono ?_
  rintro e w1 ⟨rfl, hb⟩
  have HB := Lib.hid (HB.out.trans (hb.mono HB.out.size))
  clear hb
  go_wp2_with fail
  have H0 := Lib.hid (H0.out.up (HB.out.mono (Nat.le_refl _)))
  have H1 := Lib.hid (H1.out.up (HB.out.mono (Nat.le_refl _)))
  refine (Made_any _ _ _ H0.out).mono ?_
  rintro e w2 ⟨rfl, rfl⟩
  rw [HA0.out]
  go_wp2_with fail
  refine (Made_any _ _ _ H1.out).mono ?_
  rintro e w3 ⟨rfl, rfl⟩
  rw [HB0.out]
  go_wp2_with fail
  refine (Mul_n NA.out NB.out SA.out SB.out _).mono ?_
  rintro e w4 ⟨rfl, hb⟩
  have HB := Lib.hid (HB.out.trans (hb.mono HB.out.size))
  clear hb
  go_wp2_with fail
  refine (rMul_any a b _ RA.out RB.out).mono ?_
  rintro e w5 ⟨rfl, hb⟩
  have HB := Lib.hid (HB.out.trans (hb.mono HB.out.size))
  clear hb
  rw [NA.out, NB.out]
  go_wp2_with fail
  refine (Mul_n NA.out NA.out SA.out SA.out _).mono ?_
  rintro e w6 ⟨rfl, hb⟩
  have HB := Lib.hid (HB.out.trans (hb.mono HB.out.size))
  clear hb
  go_wp2_with fail
  refine (rMul_any a a _ RA.out RA.out).mono ?_
  rintro e w7 ⟨rfl, hb⟩
  have HB := Lib.hid (HB.out.trans (hb.mono HB.out.size))
  clear hb
  rw [NA.out]
  go_wp2_with fail
  go_ret
  exact ⟨by simp, HB.out⟩
end Go.Proofs.YtakbkbmjeanboaaGreatDoor.natProducts
