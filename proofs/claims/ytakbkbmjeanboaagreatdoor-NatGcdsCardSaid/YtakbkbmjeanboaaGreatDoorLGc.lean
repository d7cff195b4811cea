/- NatGcds: the walk. Each theorem names its conditions. -/
import Derived.Test.YtakbkbmjeanboaaGreatDoorSanA
import Derived.Test.YtakbkbmjeanboaaGreatDoorArgB
import Derived.Test.YtakbkbmjeanboaaGreatDoorApiE
import Derived.Test.YtakbkbmjeanboaaGreatDoorRefJ
namespace Go.Proofs.YtakbkbmjeanboaaGreatDoor.natGcds
open Go.RowKit Go.Shelf
open Dgt
set_option linter.unusedVariables false

theorem ByR.take {W : World} {a : Option Addr} {n cap k : Nat} {l : List UInt8} (h : ByR W (.slice a n cap) l) (hk : k ≤ l.length) : ByR W (.slice a k cap) (l.take k) := by
  obtain ⟨a', cap', e, h1, h3⟩ := h
  injection e with e1 e2 e3
  subst e1; subst e2; subst e3
  have hl : (l.take k).length = k := by rw [List.length_take, Nat.min_eq_left hk]
  refine ⟨a, cap, by rw [hl], by omega, fun i hi => ?_⟩
  rw [hl] at hi
  obtain ⟨g, off, e1, e2, e3⟩ := h3 i (by omega)
  exact ⟨g, off, e1, e2, by rw [List.getElem_take]; exact e3⟩
theorem made20 {l : List UInt8} {k : Nat} (hk : k ≤ 20) : (⟨((l.take k).take 40).toArray⟩ : ByteArray).size ≤ 20 := by
  show ((l.take k).take 40).toArray.size ≤ 20
  rw [List.size_toArray, List.length_take, List.length_take]; omega
def EGC (p0 p1 p2 : Option Addr) (n0 n1 n2 c0 c1 c2 k0 k1 k2 : Nat) (s0 s1 s2 : ByteArray) : Nat → Value
  | 0 => .slice p0 n0 c0
  | 1 => .slice p0 n0 c0
  | 2 => .int .i64 (n0 : Int)
  | 3 => .int .i64 (k0 : Int)
  | 4 => .slice p0 k0 c0
  | 5 => .string s0
  | 6 => .slice p1 n1 c1
  | 7 => .slice p1 n1 c1
  | 8 => .int .i64 (n1 : Int)
  | 9 => .int .i64 (k1 : Int)
  | 10 => .slice p1 k1 c1
  | 11 => .string s1
  | 12 => .slice p2 n2 c2
  | 13 => .slice p2 n2 c2
  | 14 => .int .i64 (n2 : Int)
  | 15 => .int .i64 (k2 : Int)
  | 16 => .slice p2 k2 c2
  | 17 => .string s2
  | 18 => .string s0
  | 19 => .string s1
  | 20 => .string s2
  | _ => undef
def SGC (p0 p1 p2 : Option Addr) (n0 n1 n2 c0 c1 c2 k0 k1 k2 : Nat) (s0 s1 s2 : ByteArray) (ix : Nat) (v : Value) (w : World) : Prop :=
  match ix with
  | ix => v = EGC p0 p1 p2 n0 n1 n2 c0 c1 c2 k0 k1 k2 s0 s1 s2 ix
theorem SGC_up (p0 p1 p2 : Option Addr) (n0 n1 n2 c0 c1 c2 k0 k1 k2 : Nat) (s0 s1 s2 : ByteArray) (ix : Nat) (v : Value) (w w' : World) (hb : Below w.heap.size w w') (h : SGC p0 p1 p2 n0 n1 n2 c0 c1 c2 k0 k1 k2 s0 s1 s2 ix v w) : SGC p0 p1 p2 n0 n1 n2 c0 c1 c2 k0 k1 k2 s0 s1 s2 ix v w' := by
  exact h
theorem gcd_sz {A B k : Nat} (ha : Sz A k) (hb : Sz B k) : Sz (Nat.gcd A B) k := by
  rcases Nat.eq_zero_or_pos A with rfl | h
  · rw [Nat.gcd_zero_left]; exact hb
  · exact ha.le (Nat.gcd_le_left B h)
set_option maxHeartbeats 4000000 in
set_option maxRecDepth 100000 in
theorem walk (v0 v1 v2 : Value) (x y z : List UInt8) (w : World) (h0 : ByR w v0 x) (h1 : ByR w v1 y) (h2 : ByR w v2 z) (htab : Lib.TabIs Tryz.prog w "internal/strconv.uint64pow10" .u64 Lib.pow10Tab) :
    Calls Tryz.prog 4 #[v0, v1, v2] w fun e w' => e = .returned (.bool true) ∧ Below w.heap.size w w' := by
  have HSAN := Lib.hid (sanity_any w htab)
  obtain ⟨p0, c0, rfl, hc0, -⟩ := id h0
  obtain ⟨n0, hn0⟩ : ∃ n, x.length = n := ⟨_, rfl⟩
  obtain ⟨k0, hk0⟩ : ∃ k : Nat, min (n0 : Int) 20 = (k : Int) := ⟨(min (n0 : Int) 20).toNat, by omega⟩
  have H0 := Lib.hid (ByR.take (k := k0) h0 (by omega))
  have hkc0 : (k0 : Int) ≤ (c0 : Int) := by omega
  obtain ⟨s0, hs0⟩ : ∃ s, (⟨((x.take k0).take 40).toArray⟩ : ByteArray) = s := ⟨_, rfl⟩
  have HS0 := Lib.hid hs0
  have HZ0 : Hid (s0.size ≤ 20) := Lib.hid (by rw [← hs0]; exact made20 (by omega))
  rw [hn0]
  clear hs0 h0 hc0 hn0
  obtain ⟨p1, c1, rfl, hc1, -⟩ := id h1
  obtain ⟨n1, hn1⟩ : ∃ n, y.length = n := ⟨_, rfl⟩
  obtain ⟨k1, hk1⟩ : ∃ k : Nat, min (n1 : Int) 20 = (k : Int) := ⟨(min (n1 : Int) 20).toNat, by omega⟩
  have H1 := Lib.hid (ByR.take (k := k1) h1 (by omega))
  have hkc1 : (k1 : Int) ≤ (c1 : Int) := by omega
  obtain ⟨s1, hs1⟩ : ∃ s, (⟨((y.take k1).take 40).toArray⟩ : ByteArray) = s := ⟨_, rfl⟩
  have HS1 := Lib.hid hs1
  have HZ1 : Hid (s1.size ≤ 20) := Lib.hid (by rw [← hs1]; exact made20 (by omega))
  rw [hn1]
  clear hs1 h1 hc1 hn1
  obtain ⟨p2, c2, rfl, hc2, -⟩ := id h2
  obtain ⟨n2, hn2⟩ : ∃ n, z.length = n := ⟨_, rfl⟩
  obtain ⟨k2, hk2⟩ : ∃ k : Nat, min (n2 : Int) 20 = (k : Int) := ⟨(min (n2 : Int) 20).toNat, by omega⟩
  have H2 := Lib.hid (ByR.take (k := k2) h2 (by omega))
  have hkc2 : (k2 : Int) ≤ (c2 : Int) := by omega
  obtain ⟨s2, hs2⟩ : ∃ s, (⟨((z.take k2).take 40).toArray⟩ : ByteArray) = s := ⟨_, rfl⟩
  have HS2 := Lib.hid hs2
  have HZ2 : Hid (s2.size ≤ 20) := Lib.hid (by rw [← hs2]; exact made20 (by omega))
  rw [hn2]
  clear hs2 h2 hc2 hn2
  have SA : Hid (s0.size ≤ 100000000) := Lib.hid (Nat.le_trans HZ0.out (by decide)); have RA : Hid (s0.size ≤ 1000000) := Lib.hid (Nat.le_trans HZ0.out (by decide))
  obtain ⟨A, hA⟩ : ∃ A, numS s0 = A := ⟨_, rfl⟩
  have NA := Lib.hid hA
  have ZA : Hid (Sz A 20) := Lib.hid (by rw [← hA]; exact (Sz.num s0).mono HZ0.out)
  clear hA
  have SB : Hid (s1.size ≤ 100000000) := Lib.hid (Nat.le_trans HZ1.out (by decide)); have RB : Hid (s1.size ≤ 1000000) := Lib.hid (Nat.le_trans HZ1.out (by decide))
  obtain ⟨B, hB⟩ : ∃ B, numS s1 = B := ⟨_, rfl⟩
  have NB := Lib.hid hB
  have ZB : Hid (Sz B 20) := Lib.hid (by rw [← hB]; exact (Sz.num s1).mono HZ1.out)
  clear hB
  have SC : Hid (s2.size ≤ 100000000) := Lib.hid (Nat.le_trans HZ2.out (by decide)); have RC : Hid (s2.size ≤ 1000000) := Lib.hid (Nat.le_trans HZ2.out (by decide))
  obtain ⟨C, hC⟩ : ∃ C, numS s2 = C := ⟨_, rfl⟩
  have NC := Lib.hid hC
  have ZC : Hid (Sz C 20) := Lib.hid (by rw [← hC]; exact (Sz.num s2).mono HZ2.out)
  clear hC
  clear htab
  go_enter Tryz.func4, Tryz.ntmps4
  go_wp2_with fail
  refine (HSAN.out).mono ?_
  rintro e wo ⟨rfl, hb⟩
  have HB := Lib.hid hb
  have H0 := Lib.hid (H0.out.up hb); have H1 := Lib.hid (H1.out.up hb); have H2 := Lib.hid (H2.out.up hb)
  clear hb
  go_wp2_with fail
  refine wp_region_vals (w := wo) (by kernel_rfl) (SGC p0 p1 p2 n0 n1 n2 c0 c1 c2 k0 k1 k2 s0 s1 s2) (fun t => (decide (8 ≤ t) && decide (t < 11)) || (decide (13 ≤ t) && decide (t < 31))) (by kernel_rfl) (by kernel_rfl) (by kernel_rfl) (SGC_up p0 p1 p2 n0 n1 n2 c0 c1 c2 k0 k1 k2 s0 s1 s2) ?_ ?_
  · intro i hi o listed a w hR K hK
    have ho := hR.at_
    have hi : i < 21 := hi
    have hii : i = 0 ∨ i = 1 ∨ i = 2 ∨ i = 3 ∨ i = 4 ∨ i = 5 ∨ i = 6 ∨ i = 7 ∨ i = 8 ∨ i = 9 ∨ i = 10 ∨ i = 11 ∨ i = 12 ∨ i = 13 ∨ i = 14 ∨ i = 15 ∨ i = 16 ∨ i = 17 ∨ i = 18 ∨ i = 19 ∨ i = 20 := by omega
    rcases hii with rfl | rfl | rfl | rfl | rfl | rfl | rfl | rfl | rfl | rfl | rfl | rfl | rfl | rfl | rfl | rfl | rfl | rfl | rfl | rfl | rfl
    · simp at ho
      subst ho
      have b0 : a.tmps.getD 0 undef = .slice p0 n0 c0 := hR.base 0 (by kernel_rfl)
      refine plain_step rfl rfl ?_
      go_simp
      exact hK _ _ (rfl) (Below.refl _ _)
    · simp at ho
      subst ho
      have b0 : a.tmps.getD 0 undef = .slice p0 n0 c0 := hR.base 0 (by kernel_rfl)
      refine plain_step rfl rfl ?_
      go_simp
      exact hK _ _ (rfl) (Below.refl _ _)
    · simp at ho
      subst ho
      have e1 : a.tmps.getD 14 undef = .slice p0 n0 c0 := hR.dep ⟨1, .data⟩ (by simp) rfl
      refine plain_step rfl rfl ?_
      go_simp
      exact hK _ _ (rfl) (Below.refl _ _)
    · simp at ho
      subst ho
      have e2 : a.tmps.getD 15 undef = .int .i64 (n0 : Int) := hR.dep ⟨2, .data⟩ (by simp) rfl
      refine plain_step rfl rfl ?_
      go_simp
      exact hK _ _ (rfl) (Below.refl _ _)
    · simp at ho
      subst ho
      have e0 : a.tmps.getD 13 undef = .slice p0 n0 c0 := hR.dep ⟨0, .data⟩ (by simp) rfl
      have e3 : a.tmps.getD 16 undef = .int .i64 (k0 : Int) := hR.dep ⟨3, .data⟩ (by simp) rfl
      refine plain_step rfl rfl ?_
      go_simp
      exact hK _ _ (rfl) (Below.refl _ _)
    · simp at ho
      subst ho
      have e4 : a.tmps.getD 17 undef = .slice p0 k0 c0 := hR.dep ⟨4, .data⟩ (by simp) rfl
      refine plain_step rfl rfl ?_
      go_simp
      refine (Made_any _ _ _ (H0.out.up hR.below)).mono ?_
      rintro e w' ⟨rfl, rfl⟩
      rw [HS0.out]
      exact hK _ _ (rfl) (Below.refl _ _)
    · simp at ho
      subst ho
      have b1 : a.tmps.getD 1 undef = .slice p1 n1 c1 := hR.base 1 (by kernel_rfl)
      refine plain_step rfl rfl ?_
      go_simp
      exact hK _ _ (rfl) (Below.refl _ _)
    · simp at ho
      subst ho
      have b1 : a.tmps.getD 1 undef = .slice p1 n1 c1 := hR.base 1 (by kernel_rfl)
      refine plain_step rfl rfl ?_
      go_simp
      exact hK _ _ (rfl) (Below.refl _ _)
    · simp at ho
      subst ho
      have e7 : a.tmps.getD 20 undef = .slice p1 n1 c1 := hR.dep ⟨7, .data⟩ (by simp) rfl
      refine plain_step rfl rfl ?_
      go_simp
      exact hK _ _ (rfl) (Below.refl _ _)
    · simp at ho
      subst ho
      have e8 : a.tmps.getD 21 undef = .int .i64 (n1 : Int) := hR.dep ⟨8, .data⟩ (by simp) rfl
      refine plain_step rfl rfl ?_
      go_simp
      exact hK _ _ (rfl) (Below.refl _ _)
    · simp at ho
      subst ho
      have e6 : a.tmps.getD 19 undef = .slice p1 n1 c1 := hR.dep ⟨6, .data⟩ (by simp) rfl
      have e9 : a.tmps.getD 22 undef = .int .i64 (k1 : Int) := hR.dep ⟨9, .data⟩ (by simp) rfl
      refine plain_step rfl rfl ?_
      go_simp
      exact hK _ _ (rfl) (Below.refl _ _)
    · simp at ho
      subst ho
      have e10 : a.tmps.getD 23 undef = .slice p1 k1 c1 := hR.dep ⟨10, .data⟩ (by simp) rfl
      refine plain_step rfl rfl ?_
      go_simp
      refine (Made_any _ _ _ (H1.out.up hR.below)).mono ?_
      rintro e w' ⟨rfl, rfl⟩
      rw [HS1.out]
      exact hK _ _ (rfl) (Below.refl _ _)
    · simp at ho
      subst ho
      have b2 : a.tmps.getD 2 undef = .slice p2 n2 c2 := hR.base 2 (by kernel_rfl)
      refine plain_step rfl rfl ?_
      go_simp
      exact hK _ _ (rfl) (Below.refl _ _)
    · simp at ho
      subst ho
      have b2 : a.tmps.getD 2 undef = .slice p2 n2 c2 := hR.base 2 (by kernel_rfl)
      refine plain_step rfl rfl ?_
      go_simp
      exact hK _ _ (rfl) (Below.refl _ _)
    · simp at ho
      subst ho
      have e13 : a.tmps.getD 26 undef = .slice p2 n2 c2 := hR.dep ⟨13, .data⟩ (by simp) rfl
      refine plain_step rfl rfl ?_
      go_simp
      exact hK _ _ (rfl) (Below.refl _ _)
    · simp at ho
      subst ho
      have e14 : a.tmps.getD 27 undef = .int .i64 (n2 : Int) := hR.dep ⟨14, .data⟩ (by simp) rfl
      refine plain_step rfl rfl ?_
      go_simp
      exact hK _ _ (rfl) (Below.refl _ _)
    · simp at ho
      subst ho
      have e12 : a.tmps.getD 25 undef = .slice p2 n2 c2 := hR.dep ⟨12, .data⟩ (by simp) rfl
      have e15 : a.tmps.getD 28 undef = .int .i64 (k2 : Int) := hR.dep ⟨15, .data⟩ (by simp) rfl
      refine plain_step rfl rfl ?_
      go_simp
      exact hK _ _ (rfl) (Below.refl _ _)
    · simp at ho
      subst ho
      have e16 : a.tmps.getD 29 undef = .slice p2 k2 c2 := hR.dep ⟨16, .data⟩ (by simp) rfl
      refine plain_step rfl rfl ?_
      go_simp
      refine (Made_any _ _ _ (H2.out.up hR.below)).mono ?_
      rintro e w' ⟨rfl, rfl⟩
      rw [HS2.out]
      exact hK _ _ (rfl) (Below.refl _ _)
    · simp at ho
      subst ho
      have e5 : a.tmps.getD 18 undef = .string s0 := hR.dep ⟨5, .data⟩ (by simp) rfl
      refine plain_step rfl rfl ?_
      go_simp
      exact hK _ _ (rfl) (Below.refl _ _)
    · simp at ho
      subst ho
      have e11 : a.tmps.getD 24 undef = .string s1 := hR.dep ⟨11, .data⟩ (by simp) rfl
      refine plain_step rfl rfl ?_
      go_simp
      exact hK _ _ (rfl) (Below.refl _ _)
    · simp at ho
      subst ho
      have e17 : a.tmps.getD 30 undef = .string s2 := hR.dep ⟨17, .data⟩ (by simp) rfl
      refine plain_step rfl rfl ?_
      go_simp
      exact hK _ _ (rfl) (Below.refl _ _)
  · intro s w hS hb
    have e18 : s 8 = .string s0 := hS 18 (by decide)
    have e19 : s 9 = .string s1 := hS 19 (by decide)
    have e20 : s 10 = .string s2 := hS 20 (by decide)
    simp only [over, Nat.zero_add, Nat.reduceAdd, Nat.reduceLeDiff, Nat.reduceLT, decide_true, decide_false, Bool.and_true, Bool.and_false, Bool.or_false, Bool.or_true, cond_true, cond_false]
    rw [e18, e19, e20]
    have HBR := Lib.hid (HB.out.trans (hb.mono HB.out.size))
    have HB := HBR
    clear hS hb e18 e19 e20
    have HGZ : Hid (Sz (Nat.gcd A B) 20) := Lib.hid (gcd_sz ZA.out ZB.out)
    go_wp2_with fail
    refine (Gcd_n NA.out NB.out SA.out SB.out _).mono ?_
    rintro e w11 ⟨rfl, hb⟩
    have HB := Lib.hid (HB.out.trans (hb.mono HB.out.size))
    clear hb
    go_wp2_with fail
    refine (rGcd_any _ _ _ RA.out RB.out).mono ?_
    rintro e w12 ⟨rfl, hb⟩
    have HB := Lib.hid (HB.out.trans (hb.mono HB.out.size))
    clear hb
    rw [NA.out, NB.out]
    go_wp2_with fail
    refine (Gcd_n NB.out NA.out SB.out SA.out _).mono ?_
    rintro e w13 ⟨rfl, hb⟩
    have HB := Lib.hid (HB.out.trans (hb.mono HB.out.size))
    clear hb
    rw [Nat.gcd_comm B A]
    go_wp2_with fail
    refine (rMul_any _ _ _ RA.out RC.out).mono ?_
    rintro e w14 ⟨rfl, hb⟩
    have HB := Lib.hid (HB.out.trans (hb.mono HB.out.size))
    clear hb
    rw [NA.out, NC.out]
    go_wp2_with fail
    refine (rMul_any _ _ _ RB.out RC.out).mono ?_
    rintro e w15 ⟨rfl, hb⟩
    have HB := Lib.hid (HB.out.trans (hb.mono HB.out.size))
    clear hb
    rw [NB.out, NC.out]
    go_wp2_with fail
    refine (Gcd_n (numS_encS _) (numS_encS _) ((ZA.out.mul ZC.out).enc (by decide)) ((ZB.out.mul ZC.out).enc (by decide)) _).mono ?_
    rintro e w16 ⟨rfl, hb⟩
    have HB := Lib.hid (HB.out.trans (hb.mono HB.out.size))
    clear hb
    rw [Nat.gcd_mul_right]
    go_wp2_with fail
    refine (rMul_any _ _ _ (Nat.le_trans (encS_size_lt HGZ.out) (by decide)) RC.out).mono ?_
    rintro e w17 ⟨rfl, hb⟩
    have HB := Lib.hid (HB.out.trans (hb.mono HB.out.size))
    clear hb
    rw [numS_encS, NC.out]
    go_wp2_with fail
    go_ret
    exact ⟨by simp, HB.out⟩
end Go.Proofs.YtakbkbmjeanboaaGreatDoor.natGcds
