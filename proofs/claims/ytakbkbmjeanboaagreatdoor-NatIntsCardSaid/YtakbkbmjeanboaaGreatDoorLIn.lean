/- NatInts: the walk. Each theorem names its conditions. -/
import Derived.Test.YtakbkbmjeanboaaGreatDoorSanA
import Derived.Test.YtakbkbmjeanboaaGreatDoorArgB
import Derived.Test.YtakbkbmjeanboaaGreatDoorApiE
import Derived.Test.YtakbkbmjeanboaaGreatDoorRefU
namespace Go.Proofs.YtakbkbmjeanboaaGreatDoor.natInts
open Go.RowKit Go.Shelf
open Dgt
set_option linter.unusedVariables false

theorem made_size (l : List UInt8) : (⟨(l.take 40).toArray⟩ : ByteArray).size ≤ 40 := by
  show (l.take 40).toArray.size ≤ 40
  rw [List.size_toArray, List.length_take]; omega
theorem w64_range (z : Int) : -9223372036854775808 ≤ wrap64 z ∧ wrap64 z ≤ 9223372036854775807 := by unfold wrap64; omega
theorem and_range (y z : Int) : -9223372036854775808 ≤ bits .and .i64 y z ∧ bits .and .i64 y z ≤ 9223372036854775807 := by
  show -9223372036854775808 ≤ IntKind.i64.wrap _ ∧ IntKind.i64.wrap _ ≤ 9223372036854775807
  rw [IntKind.wrap_i64]; omega
def Six (e0 e1 e2 e3 e4 e5 : Int) : Array Value := #[.int .i64 e0, .int .i64 e1, .int .i64 e2, .int .i64 e3, .int .i64 e4, .int .i64 e5]
def InR (z : Int) : Prop := -9223372036854775808 ≤ z ∧ z ≤ 9223372036854775807
theorem six_at {e0 e1 e2 e3 e4 e5 : Int} (h0 : InR e0) (h1 : InR e1) (h2 : InR e2) (h3 : InR e3) (h4 : InR e4) (h5 : InR e5) {j : Nat} (h : j < 6) : ∃ z : Int, (Six e0 e1 e2 e3 e4 e5)[j]? = some (.int .i64 z) ∧ InR z := by
  have : j = 0 ∨ j = 1 ∨ j = 2 ∨ j = 3 ∨ j = 4 ∨ j = 5 := by omega
  rcases this with rfl | rfl | rfl | rfl | rfl | rfl
  · exact ⟨_, rfl, h0⟩
  · exact ⟨_, rfl, h1⟩
  · exact ⟨_, rfl, h2⟩
  · exact ⟨_, rfl, h3⟩
  · exact ⟨_, rfl, h4⟩
  · exact ⟨_, rfl, h5⟩
def Strs (a b c d : ByteArray) : Array Value := #[.string a, .string b, .string c, .string d]
theorem strs_at {a b c d : ByteArray} {j : Nat} (ha : a.size ≤ 100) (hb : b.size ≤ 100) (hc : c.size ≤ 100) (hd : d.size ≤ 100) (h : j < 4) : ∃ t : ByteArray, (Strs a b c d)[j]? = some (.string t) ∧ t.size ≤ 100 := by
  have : j = 0 ∨ j = 1 ∨ j = 2 ∨ j = 3 := by omega
  rcases this with rfl | rfl | rfl | rfl
  · exact ⟨a, rfl, ha⟩
  · exact ⟨b, rfl, hb⟩
  · exact ⟨c, rfl, hc⟩
  · exact ⟨d, rfl, hd⟩
theorem int_val {m : Nat} (h : (m : Int) ≤ 9223372036854775807) : intV m = m ∧ intOk m = true := by
  have := int_yes (m := m) (by omega)
  exact ⟨this.2, this.1⟩
set_option maxHeartbeats 4000000 in
set_option maxRecDepth 100000 in
theorem walk (n : Int) (v1 : Value) (x : List UInt8) (w : World) (hn0 : -9223372036854775808 ≤ n) (hn1 : n ≤ 9223372036854775807) (h1 : ByR w v1 x) (htab : Lib.TabIs Tryz.prog w "internal/strconv.uint64pow10" .u64 Lib.pow10Tab) :
    Calls Tryz.prog 8 #[.int .i64 n, v1] w fun e w' => e = .returned (.bool true) ∧ Below w.heap.size w w' := by
  have HB := Lib.hid (Below.refl w.heap.size w)
  have H1 := Lib.hid h1
  have HSAN := Lib.hid (sanity_any w htab)
  obtain ⟨a, ha⟩ : ∃ a, (⟨(x.take 40).toArray⟩ : ByteArray) = a := ⟨_, rfl⟩
  have HA0 := Lib.hid ha
  have HAS : Hid (a.size ≤ 40) := Lib.hid (by rw [← ha]; exact made_size x)
  clear ha h1 htab
  go_enter Tryz.func8, Tryz.ntmps8
  go_wp2_with fail
  refine (HSAN.out).mono ?_
  rintro e w1 ⟨rfl, hb⟩
  have HB := Lib.hid hb
  have H1 := Lib.hid (H1.out.up hb)
  clear hb
  go_wp2_with fail
  refine (Made_any _ _ _ H1.out).mono ?_
  rintro e w2 ⟨rfl, rfl⟩
  rw [HA0.out]
  go_wp2_with fail
  have r0 : InR n := ⟨hn0, hn1⟩
  obtain ⟨n1, hn1e⟩ : ∃ n1, wrap64 (-n) = n1 := ⟨_, rfl⟩
  have r1 : InR n1 := by rw [← hn1e]; exact w64_range _
  have r2 : InR (n / 256) := by unfold InR; omega
  obtain ⟨n2, hn2e⟩ : ∃ n2, n / 256 = n2 := ⟨_, rfl⟩
  rw [hn2e] at r2
  obtain ⟨n3, hn3e⟩ : ∃ n3, bits .and .i64 n 255 = n3 := ⟨_, rfl⟩
  have r3 : InR n3 := by rw [← hn3e]; exact and_range _ _
  rw [hn1e, hn2e, hn3e]
  obtain ⟨V, hV⟩ : ∃ V, w1.alloc (.cells (Six n n1 n2 n3 9223372036854775807 (-9223372036854775808)) 3) = V := ⟨_, rfl⟩
  have hV' : w1.alloc (Obj.cells #[Value.int IntKind.i64 n, Value.int IntKind.i64 n1, Value.int IntKind.i64 n2, Value.int IntKind.i64 n3, Value.int IntKind.i64 9223372036854775807, Value.int IntKind.i64 (-9223372036854775808)] 3) = V := hV
  rw [hV']
  have HSIX := Lib.hid (show ∀ j, j < 6 → ∃ z : Int, (Six n n1 n2 n3 9223372036854775807 (-9223372036854775808))[j]? = some (.int .i64 z) ∧ InR z from fun j h => six_at r0 r1 r2 r3 (by unfold InR; omega) (by unfold InR; omega) h)
  have HT := Lib.hid (show V.heap[w1.heap.size]? = some (.cells (Six n n1 n2 n3 9223372036854775807 (-9223372036854775808)) 3 (0, 0)) by rw [← hV]; exact heap_alloc_new w1 _)
  have HBV := Lib.hid (show Below w.heap.size w V by rw [← hV]; exact HB.out.alloc HB.out.size _)
  have HSV := Lib.hid (show V.heap.size = w1.heap.size + 1 by rw [← hV]; simp)
  clear hV hV' hn1e hn2e hn3e r0 r1 r2 r3 hn0 hn1
  go_loopw [30] (fun i wr => ∃ j : Nat, j ≤ 6 ∧ i = .int .i64 (j : Int) ∧ Hid (Below (w1.heap.size + 1) V wr)) (fun i _ => 6 - (intOf i).toNat)
  case atStart => exact ⟨0, by omega, rfl, Lib.hid (Below.refl _ _)⟩
  case round =>
    obtain ⟨j, hj, rfl, HBW⟩ := hrel
    have hs : wr.heap[w1.heap.size]? = some (.cells (Six n n1 n2 n3 9223372036854775807 (-9223372036854775808)) 3 (0, 0)) := by rw [HBW.out.block _ (by omega)]; exact HT.out
    by_cases hlt : j < 6
    · obtain ⟨z, hx, hz⟩ := HSIX.out j hlt
      have cx : wr.cell? ⟨w1.heap.size, j, none⟩ = some (.int .i64 z) := by rw [Lib.cell_of_heap hs]; exact hx
      have HSZ := Lib.hid (show w1.heap.size + 1 ≤ wr.heap.size by have := HBW.out.size; have := HSV.out; omega)
      obtain ⟨m, hm⟩ : ∃ m, z.toNat = m := ⟨_, rfl⟩
      have hm9 : (m : Int) ≤ 9223372036854775807 := by unfold InR at hz; omega
      have hmx : max z 0 = (m : Int) := by omega
      have HIV := Lib.hid (int_val hm9)
      have hsm : Hid ((encS m).size ≤ 100000000) := Lib.hid (Sz.enc (k := 8) (show m < 256 ^ 8 by omega) (by decide))
      have HOF := Lib.hid (Of_any z · hz.2)
      have HRF := Lib.hid (rOf_any z · (by have := hz.2; omega))
      have HM := Lib.hid hm
      have hlt' : (j : Int) < 6 := by omega
      clear hs hx hz hm hm9 hlt
      go_wp2_with fail
      refine (HOF.out _).mono ?_
      rintro e w3 ⟨rfl, hb⟩
      rw [HM.out]
      have HB3 := Lib.hid (HBW.out.trans (hb.mono HSZ.out))
      have HZ3 := Lib.hid (Nat.le_trans HSZ.out hb.size)
      clear hb cx
      go_wp2_with fail
      refine (Int_any _ _ hsm.out).mono ?_
      rintro e w4 ⟨rfl, hb⟩
      rw [numS_encS, HIV.out.1, HIV.out.2]
      have HB3 := Lib.hid (HB3.out.trans (hb.mono HZ3.out))
      have HZ3 := Lib.hid (Nat.le_trans HZ3.out hb.size)
      clear hb
      go_wp2_with fail
      refine (HRF.out _).mono ?_
      rintro e w5 ⟨rfl, hb⟩
      rw [HM.out]
      have HB3 := Lib.hid (HB3.out.trans (hb.mono HZ3.out))
      clear hb
      go_wp2_with fail
      go_roundw
      case rel => exact ⟨j + 1, by omega, rfl, HB3⟩
      case measure => simp [intOf]; omega
    · have hj5 : ¬ (j : Int) < 6 := by omega
      clear hs hlt
      have HBX := Lib.hid (HBV.out.trans (HBW.out.mono (by have := HB.out.size; omega)))
      have has : (a.size : Int) ≤ 40 := by have := HAS.out; omega
      obtain ⟨wo, hwo⟩ : ∃ wo, wo = wr := ⟨_, rfl⟩
      subst hwo
      go_wp2_with fail
      obtain ⟨d, hd⟩ : ∃ d, (⟨#[0]⟩ : ByteArray) ++ a = d := ⟨_, rfl⟩
      have hds : d.size ≤ 100 := by rw [← hd, ByteArray.size_append]; show 1 + a.size ≤ 100; omega
      rw [hd]
      have HSTR := Lib.hid (show ∀ j, j < 4 → ∃ t : ByteArray, (Strs a ⟨#[128, 0, 0, 0, 0, 0, 0, 0]⟩ ⟨#[127, 255, 255, 255, 255, 255, 255, 255]⟩ d)[j]? = some (.string t) ∧ t.size ≤ 100 from fun j h => strs_at (by omega) (by decide) (by decide) hds h)
      obtain ⟨U, hU⟩ : ∃ U, wo.alloc (.cells (Strs a ⟨#[128, 0, 0, 0, 0, 0, 0, 0]⟩ ⟨#[127, 255, 255, 255, 255, 255, 255, 255]⟩ d) 24) = U := ⟨_, rfl⟩
      have hU' : wo.alloc (Obj.cells #[Value.string a, Value.string { data := #[128, 0, 0, 0, 0, 0, 0, 0] }, Value.string { data := #[127, 255, 255, 255, 255, 255, 255, 255] }, Value.string d] 24) = U := hU
      rw [hU']
      have HT := Lib.hid (show U.heap[wo.heap.size]? = some (.cells (Strs a ⟨#[128, 0, 0, 0, 0, 0, 0, 0]⟩ ⟨#[127, 255, 255, 255, 255, 255, 255, 255]⟩ d) 24 (0, 0)) by rw [← hU]; exact heap_alloc_new wo _)
      have HBU := Lib.hid (show Below w.heap.size w U by rw [← hU]; exact HBX.out.alloc HBX.out.size _)
      have HSU := Lib.hid (show U.heap.size = wo.heap.size + 1 by rw [← hU]; simp)
      clear hU hU' hd hds has hj5
      go_loopw [61] (fun i wr => ∃ q : Nat, q ≤ 4 ∧ i = .int .i64 (q : Int) ∧ Hid (Below (wo.heap.size + 1) U wr)) (fun i _ => 4 - (intOf i).toNat)
      case atStart => exact ⟨0, by omega, rfl, Lib.hid (Below.refl _ _)⟩
      case round =>
        obtain ⟨q, hq, rfl, HBQ⟩ := hrel
        have hs : wr.heap[wo.heap.size]? = some (.cells (Strs a ⟨#[128, 0, 0, 0, 0, 0, 0, 0]⟩ ⟨#[127, 255, 255, 255, 255, 255, 255, 255]⟩ d) 24 (0, 0)) := by rw [HBQ.out.block _ (by omega)]; exact HT.out
        by_cases hlt : q < 4
        · obtain ⟨t, hx, hz⟩ := HSTR.out q hlt
          have cx : wr.cell? ⟨wo.heap.size, q, none⟩ = some (.string t) := by rw [Lib.cell_of_heap hs]; exact hx
          have HSZ := Lib.hid (show wo.heap.size + 1 ≤ wr.heap.size by have := HBQ.out.size; have := HSU.out; omega)
          have STT : Hid (t.size ≤ 100000000) := Lib.hid (Nat.le_trans hz (by decide))
          have hlt' : (q : Int) < 4 := by omega
          clear hs hx hz hlt
          go_wp2_with fail
          refine (Int_any _ _ STT.out).mono ?_
          rintro e w3 ⟨rfl, hb⟩
          have HB3 := Lib.hid (HBQ.out.trans (hb.mono HSZ.out))
          have HZ3 := Lib.hid (Nat.le_trans HSZ.out hb.size)
          clear hb cx
          go_wp2_with fail
          refine (rInt_any _ _ STT.out).mono ?_
          rintro e w4 ⟨rfl, rfl⟩
          go_wp2_with fail
          refine (Bits_any _ _ STT.out).mono ?_
          rintro e w5 ⟨rfl, hb⟩
          have HB3 := Lib.hid (HB3.out.trans (hb.mono HZ3.out))
          have HZ3 := Lib.hid (Nat.le_trans HZ3.out hb.size)
          clear hb
          go_wp2_with fail
          refine (rBits_any _ _ STT.out).mono ?_
          rintro e w6 ⟨rfl, rfl⟩
          go_wp2_with fail
          refine (Right_any _ _ STT.out).mono ?_
          rintro e w7 ⟨rfl, rfl⟩
          go_wp2_with fail
          refine (rRight_any _ _ STT.out).mono ?_
          rintro e w8 ⟨rfl, rfl⟩
          go_wp2_with fail
          go_roundw
          case rel => exact ⟨q + 1, by omega, rfl, HB3⟩
          case measure => simp [intOf]; omega
        · have hj5 : ¬ (q : Int) < 4 := by omega
          clear hs hlt
          go_wp2_with fail
          go_ret
          exact ⟨rfl, HBU.out.trans (HBQ.out.mono (by have := HBX.out.size; omega))⟩
end Go.Proofs.YtakbkbmjeanboaaGreatDoor.natInts
