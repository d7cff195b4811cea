/- NatPows: the walk. Each theorem names its conditions. -/
import Derived.Test.YtakbkbmjeanboaaGreatDoorSanA
import Derived.Test.YtakbkbmjeanboaaGreatDoorArgB
import Derived.Test.YtakbkbmjeanboaaGreatDoorPowC
import Derived.Test.YtakbkbmjeanboaaGreatDoorRPow
namespace Go.Proofs.YtakbkbmjeanboaaGreatDoor.natPows
open Go.RowKit Go.Shelf
open Dgt
set_option linter.unusedVariables false

theorem took {l : List UInt8} {k N : Nat} (hk : k ≤ N) : (⟨(l.take k).toArray⟩ : ByteArray).size ≤ N := by
  show (l.take k).toArray.size ≤ N
  rw [List.size_toArray, List.length_take]; omega
def Strs (a b c : ByteArray) : Array Value := #[.string a, .string b, .string c]
theorem strs_at {a b c : ByteArray} {j : Nat} (ha : a.size ≤ 100) (hb : b.size ≤ 100) (hc : c.size ≤ 100) (h : j < 3) : ∃ t : ByteArray, (Strs a b c)[j]? = some (.string t) ∧ t.size ≤ 100 := by
  have : j = 0 ∨ j = 1 ∨ j = 2 := by omega
  rcases this with rfl | rfl | rfl
  · exact ⟨a, rfl, ha⟩
  · exact ⟨b, rfl, hb⟩
  · exact ⟨c, rfl, hc⟩
def EPO (p0 p1 p2 : Option Addr) (n0 n1 n2 c0 c1 c2 k0 k1 k2 : Nat) (s0 s1 s2 : ByteArray) : Nat → Value
  | 0 => .slice p0 n0 c0
  | 1 => .slice p0 n0 c0
  | 2 => .int .i64 (n0 : Int)
  | 3 => .int .i64 (k0 : Int)
  | 4 => .slice p0 k0 c0
  | 5 => .string s0
  | 6 => .slice p1 n1 c1
  | 7 => .slice p1 n1 c1
  | 8 => .int .i64 (n1 : Int)
  | 9 => .int .i64 (k1 : Int)
  | 10 => .slice p1 k1 c1
  | 11 => .string s1
  | 12 => .slice p2 n2 c2
  | 13 => .slice p2 n2 c2
  | 14 => .int .i64 (n2 : Int)
  | 15 => .int .i64 (k2 : Int)
  | 16 => .slice p2 k2 c2
  | 17 => .string s2
  | 18 => .string s0
  | 19 => .string s1
  | 20 => .string s2
  | _ => undef
def SPO (p0 p1 p2 : Option Addr) (n0 n1 n2 c0 c1 c2 k0 k1 k2 : Nat) (s0 s1 s2 : ByteArray) (ix : Nat) (v : Value) (w : World) : Prop :=
  match ix with
  | ix => v = EPO p0 p1 p2 n0 n1 n2 c0 c1 c2 k0 k1 k2 s0 s1 s2 ix
theorem SPO_up (p0 p1 p2 : Option Addr) (n0 n1 n2 c0 c1 c2 k0 k1 k2 : Nat) (s0 s1 s2 : ByteArray) (ix : Nat) (v : Value) (w w' : World) (hb : Below w.heap.size w w') (h : SPO p0 p1 p2 n0 n1 n2 c0 c1 c2 k0 k1 k2 s0 s1 s2 ix v w) : SPO p0 p1 p2 n0 n1 n2 c0 c1 c2 k0 k1 k2 s0 s1 s2 ix v w' := by
  exact h
set_option maxHeartbeats 4000000 in
set_option maxRecDepth 100000 in
theorem walk (v0 v1 v2 : Value) (x y z : List UInt8) (w : World) (h0 : ByR w v0 x) (h1 : ByR w v1 y) (h2 : ByR w v2 z) (htab : Lib.TabIs Tryz.prog w "internal/strconv.uint64pow10" .u64 Lib.pow10Tab) :
    Calls Tryz.prog 5 #[v0, v1, v2] w fun e w' => e = .returned (.bool true) ∧ Below w.heap.size w w' := by
  have HSAN := Lib.hid (sanity_any w htab)
  obtain ⟨p0, c0, rfl, hc0, -⟩ := id h0
  obtain ⟨n0, hn0⟩ : ∃ n, x.length = n := ⟨_, rfl⟩
  obtain ⟨k0, hk0⟩ : ∃ k : Nat, min (n0 : Int) 24 = (k : Int) := ⟨(min (n0 : Int) 24).toNat, by omega⟩
  have hkc0 : (k0 : Int) ≤ (c0 : Int) := by omega
  have HK0 : Hid (k0 ≤ x.length) := Lib.hid (by omega)
  obtain ⟨s0, hs0⟩ : ∃ s, (⟨(x.take k0).toArray⟩ : ByteArray) = s := ⟨_, rfl⟩
  have HS0 := Lib.hid hs0
  have HZ0 : Hid (s0.size ≤ 24) := Lib.hid (by rw [← hs0]; exact took (by omega))
  have H0 := Lib.hid h0
  rw [hn0] at H0 ⊢
  clear hs0 h0 hc0 hn0
  obtain ⟨p1, c1, rfl, hc1, -⟩ := id h1
  obtain ⟨n1, hn1⟩ : ∃ n, y.length = n := ⟨_, rfl⟩
  obtain ⟨k1, hk1⟩ : ∃ k : Nat, min (n1 : Int) 12 = (k : Int) := ⟨(min (n1 : Int) 12).toNat, by omega⟩
  have hkc1 : (k1 : Int) ≤ (c1 : Int) := by omega
  have HK1 : Hid (k1 ≤ y.length) := Lib.hid (by omega)
  obtain ⟨s1, hs1⟩ : ∃ s, (⟨(y.take k1).toArray⟩ : ByteArray) = s := ⟨_, rfl⟩
  have HS1 := Lib.hid hs1
  have HZ1 : Hid (s1.size ≤ 12) := Lib.hid (by rw [← hs1]; exact took (by omega))
  have H1 := Lib.hid h1
  rw [hn1] at H1 ⊢
  clear hs1 h1 hc1 hn1
  obtain ⟨p2, c2, rfl, hc2, -⟩ := id h2
  obtain ⟨n2, hn2⟩ : ∃ n, z.length = n := ⟨_, rfl⟩
  obtain ⟨k2, hk2⟩ : ∃ k : Nat, min (n2 : Int) 24 = (k : Int) := ⟨(min (n2 : Int) 24).toNat, by omega⟩
  have hkc2 : (k2 : Int) ≤ (c2 : Int) := by omega
  have HK2 : Hid (k2 ≤ z.length) := Lib.hid (by omega)
  obtain ⟨s2, hs2⟩ : ∃ s, (⟨(z.take k2).toArray⟩ : ByteArray) = s := ⟨_, rfl⟩
  have HS2 := Lib.hid hs2
  have HZ2 : Hid (s2.size ≤ 24) := Lib.hid (by rw [← hs2]; exact took (by omega))
  have H2 := Lib.hid h2
  rw [hn2] at H2 ⊢
  clear hs2 h2 hc2 hn2
  clear htab
  go_enter Tryz.func5, Tryz.ntmps5
  go_wp2_with fail
  refine (HSAN.out).mono ?_
  rintro e wo ⟨rfl, hb⟩
  have HB := Lib.hid hb
  have H0 := Lib.hid (H0.out.up hb); have H1 := Lib.hid (H1.out.up hb); have H2 := Lib.hid (H2.out.up hb)
  clear hb
  go_wp2_with fail
  refine wp_region_vals (w := wo) (by kernel_rfl) (SPO p0 p1 p2 n0 n1 n2 c0 c1 c2 k0 k1 k2 s0 s1 s2) (fun t => (decide (8 ≤ t) && decide (t < 11)) || (decide (18 ≤ t) && decide (t < 36))) (by kernel_rfl) (by kernel_rfl) (by kernel_rfl) (SPO_up p0 p1 p2 n0 n1 n2 c0 c1 c2 k0 k1 k2 s0 s1 s2) ?_ ?_
  · intro i hi o listed a w hR K hK
    have ho := hR.at_
    have hi : i < 21 := hi
    have hii : i = 0 ∨ i = 1 ∨ i = 2 ∨ i = 3 ∨ i = 4 ∨ i = 5 ∨ i = 6 ∨ i = 7 ∨ i = 8 ∨ i = 9 ∨ i = 10 ∨ i = 11 ∨ i = 12 ∨ i = 13 ∨ i = 14 ∨ i = 15 ∨ i = 16 ∨ i = 17 ∨ i = 18 ∨ i = 19 ∨ i = 20 := by omega
    rcases hii with rfl | rfl | rfl | rfl | rfl | rfl | rfl | rfl | rfl | rfl | rfl | rfl | rfl | rfl | rfl | rfl | rfl | rfl | rfl | rfl | rfl
    · simp at ho
      subst ho
      have b0 : a.tmps.getD 0 undef = .slice p0 n0 c0 := hR.base 0 (by kernel_rfl)
      refine plain_step rfl rfl ?_
      go_simp
      exact hK _ _ (rfl) (Below.refl _ _)
    · simp at ho
      subst ho
      have b0 : a.tmps.getD 0 undef = .slice p0 n0 c0 := hR.base 0 (by kernel_rfl)
      refine plain_step rfl rfl ?_
      go_simp
      exact hK _ _ (rfl) (Below.refl _ _)
    · simp at ho
      subst ho
      have e1 : a.tmps.getD 19 undef = .slice p0 n0 c0 := hR.dep ⟨1, .data⟩ (by simp) rfl
      refine plain_step rfl rfl ?_
      go_simp
      exact hK _ _ (rfl) (Below.refl _ _)
    · simp at ho
      subst ho
      have e2 : a.tmps.getD 20 undef = .int .i64 (n0 : Int) := hR.dep ⟨2, .data⟩ (by simp) rfl
      refine plain_step rfl rfl ?_
      go_simp
      exact hK _ _ (rfl) (Below.refl _ _)
    · simp at ho
      subst ho
      have e0 : a.tmps.getD 18 undef = .slice p0 n0 c0 := hR.dep ⟨0, .data⟩ (by simp) rfl
      have e3 : a.tmps.getD 21 undef = .int .i64 (k0 : Int) := hR.dep ⟨3, .data⟩ (by simp) rfl
      refine plain_step rfl rfl ?_
      go_simp
      exact hK _ _ (rfl) (Below.refl _ _)
    · simp at ho
      subst ho
      have e4 : a.tmps.getD 22 undef = .slice p0 k0 c0 := hR.dep ⟨4, .data⟩ (by simp) rfl
      refine plain_step rfl rfl ?_
      go_simp
      rw [conv_by Tryz.underlying24 (H0.out.up hR.below) HK0.out]
      go_simp
      rw [HS0.out]
      exact hK _ _ (rfl) (Below.refl _ _)
    · simp at ho
      subst ho
      have b1 : a.tmps.getD 1 undef = .slice p1 n1 c1 := hR.base 1 (by kernel_rfl)
      refine plain_step rfl rfl ?_
      go_simp
      exact hK _ _ (rfl) (Below.refl _ _)
    · simp at ho
      subst ho
      have b1 : a.tmps.getD 1 undef = .slice p1 n1 c1 := hR.base 1 (by kernel_rfl)
      refine plain_step rfl rfl ?_
      go_simp
      exact hK _ _ (rfl) (Below.refl _ _)
    · simp at ho
      subst ho
      have e7 : a.tmps.getD 25 undef = .slice p1 n1 c1 := hR.dep ⟨7, .data⟩ (by simp) rfl
      refine plain_step rfl rfl ?_
      go_simp
      exact hK _ _ (rfl) (Below.refl _ _)
    · simp at ho
      subst ho
      have e8 : a.tmps.getD 26 undef = .int .i64 (n1 : Int) := hR.dep ⟨8, .data⟩ (by simp) rfl
      refine plain_step rfl rfl ?_
      go_simp
      exact hK _ _ (rfl) (Below.refl _ _)
    · simp at ho
      subst ho
      have e6 : a.tmps.getD 24 undef = .slice p1 n1 c1 := hR.dep ⟨6, .data⟩ (by simp) rfl
      have e9 : a.tmps.getD 27 undef = .int .i64 (k1 : Int) := hR.dep ⟨9, .data⟩ (by simp) rfl
      refine plain_step rfl rfl ?_
      go_simp
      exact hK _ _ (rfl) (Below.refl _ _)
    · simp at ho
      subst ho
      have e10 : a.tmps.getD 28 undef = .slice p1 k1 c1 := hR.dep ⟨10, .data⟩ (by simp) rfl
      refine plain_step rfl rfl ?_
      go_simp
      rw [conv_by Tryz.underlying24 (H1.out.up hR.below) HK1.out]
      go_simp
      rw [HS1.out]
      exact hK _ _ (rfl) (Below.refl _ _)
    · simp at ho
      subst ho
      have b2 : a.tmps.getD 2 undef = .slice p2 n2 c2 := hR.base 2 (by kernel_rfl)
      refine plain_step rfl rfl ?_
      go_simp
      exact hK _ _ (rfl) (Below.refl _ _)
    · simp at ho
      subst ho
      have b2 : a.tmps.getD 2 undef = .slice p2 n2 c2 := hR.base 2 (by kernel_rfl)
      refine plain_step rfl rfl ?_
      go_simp
      exact hK _ _ (rfl) (Below.refl _ _)
    · simp at ho
      subst ho
      have e13 : a.tmps.getD 31 undef = .slice p2 n2 c2 := hR.dep ⟨13, .data⟩ (by simp) rfl
      refine plain_step rfl rfl ?_
      go_simp
      exact hK _ _ (rfl) (Below.refl _ _)
    · simp at ho
      subst ho
      have e14 : a.tmps.getD 32 undef = .int .i64 (n2 : Int) := hR.dep ⟨14, .data⟩ (by simp) rfl
      refine plain_step rfl rfl ?_
      go_simp
      exact hK _ _ (rfl) (Below.refl _ _)
    · simp at ho
      subst ho
      have e12 : a.tmps.getD 30 undef = .slice p2 n2 c2 := hR.dep ⟨12, .data⟩ (by simp) rfl
      have e15 : a.tmps.getD 33 undef = .int .i64 (k2 : Int) := hR.dep ⟨15, .data⟩ (by simp) rfl
      refine plain_step rfl rfl ?_
      go_simp
      exact hK _ _ (rfl) (Below.refl _ _)
    · simp at ho
      subst ho
      have e16 : a.tmps.getD 34 undef = .slice p2 k2 c2 := hR.dep ⟨16, .data⟩ (by simp) rfl
      refine plain_step rfl rfl ?_
      go_simp
      rw [conv_by Tryz.underlying24 (H2.out.up hR.below) HK2.out]
      go_simp
      rw [HS2.out]
      exact hK _ _ (rfl) (Below.refl _ _)
    · simp at ho
      subst ho
      have e5 : a.tmps.getD 23 undef = .string s0 := hR.dep ⟨5, .data⟩ (by simp) rfl
      refine plain_step rfl rfl ?_
      go_simp
      exact hK _ _ (rfl) (Below.refl _ _)
    · simp at ho
      subst ho
      have e11 : a.tmps.getD 29 undef = .string s1 := hR.dep ⟨11, .data⟩ (by simp) rfl
      refine plain_step rfl rfl ?_
      go_simp
      exact hK _ _ (rfl) (Below.refl _ _)
    · simp at ho
      subst ho
      have e17 : a.tmps.getD 35 undef = .string s2 := hR.dep ⟨17, .data⟩ (by simp) rfl
      refine plain_step rfl rfl ?_
      go_simp
      exact hK _ _ (rfl) (Below.refl _ _)
  · intro s w hS hb
    have e18 : s 8 = .string s0 := hS 18 (by decide)
    have e19 : s 9 = .string s1 := hS 19 (by decide)
    have e20 : s 10 = .string s2 := hS 20 (by decide)
    simp only [over, Nat.zero_add, Nat.reduceAdd, Nat.reduceLeDiff, Nat.reduceLT, decide_true, decide_false, Bool.and_true, Bool.and_false, Bool.or_false, Bool.or_true, cond_true, cond_false]
    rw [e18, e19, e20]
    have HBR := Lib.hid (HB.out.trans (hb.mono HB.out.size))
    clear hS hb e18 e19 e20 HB
    go_wp2_with fail
    refine (rAdd_any s2 ⟨#[1]⟩ _ (Nat.le_trans HZ2.out (by decide)) (by decide)).mono ?_
    rintro e w2 ⟨rfl, hb⟩
    have HB := Lib.hid (HBR.out.trans (hb.mono HBR.out.size))
    clear hb
    obtain ⟨d, hd⟩ : ∃ d, encS (numS s2 + numS ⟨#[1]⟩) = d := ⟨_, rfl⟩
    have hds : d.size ≤ 100 := by
      rw [← hd]
      exact Nat.le_trans (encS_size_lt (((Sz.num s2).mono HZ2.out).add ((Sz.num ⟨#[1]⟩).mono (by decide)))) (by decide)
    rw [hd]
    have HSTR := Lib.hid (show ∀ j, j < 3 → ∃ t : ByteArray, (Strs s2 d ⟨#[138, 0, 176, 218, 162, 135, 68, 214, 164, 195, 198, 36, 84, 110, 75, 89]⟩)[j]? = some (.string t) ∧ t.size ≤ 100 from fun j h => strs_at (Nat.le_trans HZ2.out (by decide)) hds (by decide) h)
    clear hd hds
    go_wp2_with fail
    obtain ⟨U, hU⟩ : ∃ U, w2.alloc (.cells (Strs s2 d ⟨#[138, 0, 176, 218, 162, 135, 68, 214, 164, 195, 198, 36, 84, 110, 75, 89]⟩) 24) = U := ⟨_, rfl⟩
    have hU' : w2.alloc (Obj.cells #[Value.string s2, Value.string d, Value.string { data := #[138, 0, 176, 218, 162, 135, 68, 214, 164, 195, 198, 36, 84, 110, 75, 89] }] 24) = U := hU
    rw [hU']
    have HT := Lib.hid (show U.heap[w2.heap.size]? = some (.cells (Strs s2 d ⟨#[138, 0, 176, 218, 162, 135, 68, 214, 164, 195, 198, 36, 84, 110, 75, 89]⟩) 24 (0, 0)) by rw [← hU]; exact heap_alloc_new w2 _)
    have hbu := HB.out.alloc HB.out.size (.cells (Strs s2 d ⟨#[138, 0, 176, 218, 162, 135, 68, 214, 164, 195, 198, 36, 84, 110, 75, 89]⟩) 24)
    rw [hU] at hbu
    have HBU := Lib.hid hbu
    clear hbu
    have HSU := Lib.hid (show U.heap.size = w2.heap.size + 1 by rw [← hU]; simp)
    clear hU hU'
    go_loopw [41] (fun i wr => ∃ q : Nat, q ≤ 3 ∧ i = .int .i64 (q : Int) ∧ Hid (Below (w2.heap.size + 1) U wr)) (fun i _ => 3 - (intOf i).toNat)
    case atStart => exact ⟨0, by omega, rfl, Lib.hid (Below.refl _ _)⟩
    case round =>
      obtain ⟨q, hq, rfl, HBQ⟩ := hrel
      have hs : wr.heap[w2.heap.size]? = some (.cells (Strs s2 d ⟨#[138, 0, 176, 218, 162, 135, 68, 214, 164, 195, 198, 36, 84, 110, 75, 89]⟩) 24 (0, 0)) := by rw [HBQ.out.block _ (by omega)]; exact HT.out
      by_cases hlt : q < 3
      · obtain ⟨t, hx, hz⟩ := HSTR.out q hlt
        have cx : wr.cell? ⟨w2.heap.size, q, none⟩ = some (.string t) := by rw [Lib.cell_of_heap hs]; exact hx
        have HSZ := Lib.hid (show w2.heap.size + 1 ≤ wr.heap.size by have := HBQ.out.size; have := HSU.out; omega)
        have STT : Hid (t.size ≤ 100) := Lib.hid hz
        have hlt' : (q : Int) < 3 := by omega
        clear hs hx hz hlt
        go_wp2_with fail
        refine (Pow_any s0 s1 t _ (Nat.le_trans HZ0.out (by decide)) (Nat.le_trans HZ1.out (by decide)) (Nat.le_trans STT.out (by decide))).mono ?_
        rintro e w3 ⟨rfl, hb⟩
        have HB3 := Lib.hid (HBQ.out.trans (hb.mono HSZ.out))
        have HZ3 := Lib.hid (Nat.le_trans HSZ.out hb.size)
        clear hb cx
        go_wp2_with fail
        refine (rPow_any s0 s1 t _ (Nat.le_trans HZ0.out (by decide)) (Nat.le_trans HZ1.out (by decide)) (Nat.le_trans STT.out (by decide))).mono ?_
        rintro e w4 ⟨rfl, hb⟩
        have HB4 := Lib.hid (HB3.out.trans (hb.mono HZ3.out))
        clear hb
        go_wp2_with fail
        go_roundw
        case rel => exact ⟨q + 1, by omega, rfl, HB4⟩
        case measure => simp [intOf]; omega
      · have hj5 : ¬ (q : Int) < 3 := by omega
        clear hs hlt
        go_wp2_with fail
        go_ret
        exact ⟨rfl, HBU.out.trans (HBQ.out.mono (Nat.le_trans HB.out.size (Nat.le_succ _)))⟩
end Go.Proofs.YtakbkbmjeanboaaGreatDoor.natPows
