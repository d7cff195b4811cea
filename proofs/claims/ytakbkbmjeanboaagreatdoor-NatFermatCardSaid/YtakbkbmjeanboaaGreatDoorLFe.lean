/- NatFermat: the walk. Each theorem names its conditions. -/
import Derived.Test.YtakbkbmjeanboaaGreatDoorSanA
import Derived.Test.YtakbkbmjeanboaaGreatDoorArgB
import Derived.Test.YtakbkbmjeanboaaGreatDoorPowC
import Derived.Test.YtakbkbmjeanboaaGreatDoorRefZ
import Derived.Test.YtakbkbmjeanboaaGreatDoorFer
namespace Go.Proofs.YtakbkbmjeanboaaGreatDoor.natFermat
open Go.ChangeShapes Go.WideShapes Go.ChangeAt Go.RowKit Go.Shelf
open Dgt
set_option linter.unusedVariables false

theorem took {l : List UInt8} {k N : Nat} (hk : k ≤ N) : (⟨(l.take k).toArray⟩ : ByteArray).size ≤ N := by
  show (l.take k).toArray.size ≤ N
  rw [List.size_toArray, List.length_take]; omega
theorem encS_one : encS 1 = ⟨#[1]⟩ := by
  have : digs 256 1 = [1] := by rw [digs_pos (by decide) (by decide)]; rw [show 1 / 256 = 0 from rfl, digs_zero]
  unfold encS encL; rw [this]; rfl
theorem encS_ne {n : Nat} (h : n ≠ 0) : encS n ≠ ⟨#[]⟩ := fun e => h (by
  have := congrArg numS e
  rw [numS_encS] at this
  exact this)
theorem enc_some {n : Nat} (h : n ≠ 0) : (encS n).toList.isEmpty = false := by
  have h1 := encS_ne h
  rw [ByteArray.toList_eq]
  cases hl : (encS n).data.toList with
  | nil => exact absurd (by
      have : (encS n).data = #[] := Array.toList_eq_nil_iff.1 hl
      cases he : encS n with
      | mk d => rw [he] at this; simp at this; rw [this]) h1
  | cons _ _ => rfl
/-- powers with exponents that are added are multiplied -/
theorem pow_both (a m n z : Nat) (hz : z ≠ 0) : remS (powS a m z * powS a n z) z = powS a (m + n) z := by
  unfold remS powS
  rw [if_neg hz, if_neg hz, if_neg hz, if_neg hz, ← Nat.mul_mod, ← Nat.pow_add]
/-- the power whose exponent is one less than the prime number -/
theorem pow_prime (a p e : Nat) (h : Fer.Prim p) (he : p - 1 = e) : powS a e p = if remS a p = 0 then 0 else 1 := by
  have h2 := h.two
  unfold powS remS
  have hp0 : p ≠ 0 := by omega
  simp only [if_neg hp0, ← he]
  split
  · rename_i h
    rw [Nat.pow_mod, h, Nat.zero_pow (by omega), Nat.zero_mod]
  · rename_i h0
    exact Fer.fermat_one h (fun hd => h0 (Nat.mod_eq_zero_of_dvd hd))
theorem prime_two (a : Nat) : (remS a 2305843009213691579 = 0 ∧ powS a 2305843009213691578 2305843009213691579 = 0) ∨ (remS a 2305843009213691579 ≠ 0 ∧ powS a 2305843009213691578 2305843009213691579 = 1) := by
  have h := pow_prime a 2305843009213691579 2305843009213691578 Fer.prim_large (by decide)
  by_cases h0 : remS a 2305843009213691579 = 0
  · exact .inl ⟨h0, by rw [h, if_pos h0]⟩
  · exact .inr ⟨h0, by rw [h, if_neg h0]⟩
theorem powS_sz {a e z k : Nat} (h : Sz z k) : Sz (powS a e z) k := h.le (by
  unfold powS
  split
  · omega
  · exact Nat.le_of_lt (Nat.mod_lt _ (by omega)))
def EFE (p0 p1 : Option Addr) (n0 n1 c0 c1 k0 k1 : Nat) (s0 s1 : ByteArray) : Nat → Value
  | 0 => .slice p0 n0 c0
  | 1 => .slice p0 n0 c0
  | 2 => .int .i64 (n0 : Int)
  | 3 => .int .i64 (k0 : Int)
  | 4 => .slice p0 k0 c0
  | 5 => .string s0
  | 6 => .slice p1 n1 c1
  | 7 => .slice p1 n1 c1
  | 8 => .int .i64 (n1 : Int)
  | 9 => .int .i64 (k1 : Int)
  | 10 => .slice p1 k1 c1
  | 11 => .string s1
  | 12 => .string s0
  | 13 => .string s1
  | _ => undef
def SFE (p0 p1 : Option Addr) (n0 n1 c0 c1 k0 k1 : Nat) (s0 s1 : ByteArray) (ix : Nat) (v : Value) (w : World) : Prop :=
  match ix with
  | ix => v = EFE p0 p1 n0 n1 c0 c1 k0 k1 s0 s1 ix
theorem SFE_up (p0 p1 : Option Addr) (n0 n1 c0 c1 k0 k1 : Nat) (s0 s1 : ByteArray) (ix : Nat) (v : Value) (w w' : World) (hb : Below w.heap.size w w') (h : SFE p0 p1 n0 n1 c0 c1 k0 k1 s0 s1 ix v w) : SFE p0 p1 n0 n1 c0 c1 k0 k1 s0 s1 ix v w' := by
  exact h
def EFO (bx m0 m1 : Nat) : Nat → Value
  | 0 => .pointer (some ⟨bx, 0, none⟩)
  | 1 => .int .u32 (m0 : Int)
  | 2 => .int .i64 (m0 : Int)
  | 3 => .string (encS m0)
  | 4 => .pointer (some ⟨bx, 1, none⟩)
  | 5 => .int .u32 (m1 : Int)
  | 6 => .int .i64 (m1 : Int)
  | 7 => .string (encS m1)
  | 8 => .string (encS m0)
  | 9 => .string (encS m1)
  | _ => undef
def SFO (bx m0 m1 : Nat) (ix : Nat) (v : Value) (w : World) : Prop :=
  match ix with
  | ix => v = EFO bx m0 m1 ix
theorem SFO_up (bx m0 m1 : Nat) (ix : Nat) (v : Value) (w w' : World) (hb : Below w.heap.size w w') (h : SFO bx m0 m1 ix v w) : SFO bx m0 m1 ix v w' := by
  exact h
set_option maxHeartbeats 4000000 in
set_option maxRecDepth 100000 in
theorem walk (v0 v2 : Value) (x z : List UInt8) (q0 q1 : Int) (z0 : (Lit.int .u32 q0).wf = true) (z1 : (Lit.int .u32 q1).wf = true) (w : World) (h0 : ByR w v0 x) (h1 : ByR w v2 z) (htab : Lib.TabIs Tryz.prog w "internal/strconv.uint64pow10" .u64 Lib.pow10Tab) :
    Calls Tryz.prog 10 #[v0, .agg #[.int .u32 q0, .int .u32 q1], v2] w fun e w' => e = .returned (.bool true) ∧ Below w.heap.size w w' := by
  obtain ⟨l0, l1⟩ := bounds_u32 z0
  obtain ⟨l2, l3⟩ := bounds_u32 z1
  obtain ⟨m0, rfl⟩ : ∃ m : Nat, q0 = (m : Int) := ⟨q0.toNat, by omega⟩
  obtain ⟨m1, rfl⟩ : ∃ m : Nat, q1 = (m : Int) := ⟨q1.toNat, by omega⟩
  have HOF0 := Lib.hid (fun w => rOf_any (m0 : Int) w (by omega)); have HOF1 := Lib.hid (fun w => rOf_any (m1 : Int) w (by omega))
  simp only [Int.toNat_natCast] at HOF0 HOF1
  have hwr0 : IntKind.i64.wrap (m0 : Int) = (m0 : Int) := by rw [IntKind.wrap_i64]; omega
  have hwr1 : IntKind.i64.wrap (m1 : Int) = (m1 : Int) := by rw [IntKind.wrap_i64]; omega
  have HM0 : Hid (m0 ≤ 4294967295) := Lib.hid (by omega); have HM1 : Hid (m1 ≤ 4294967295) := Lib.hid (by omega)
  have HTB := Lib.hid (Lib.tabBelow_of_tabIs htab)
  have HBX0 := Lib.hid ((Below.refl w.heap.size w).alloc (Nat.le_refl _) (.cells #[.int .u32 (m0 : Int), .int .u32 (m1 : Int)] 53))
  have HQX0 := Lib.hid (heap_alloc_new w (.cells #[.int .u32 (m0 : Int), .int .u32 (m1 : Int)] 53))
  obtain ⟨p0, c0, rfl, hc0, -⟩ := id h0
  obtain ⟨n0, hn0⟩ : ∃ n, x.length = n := ⟨_, rfl⟩
  obtain ⟨k0, hk0⟩ : ∃ k : Nat, min (n0 : Int) 24 = (k : Int) := ⟨(min (n0 : Int) 24).toNat, by omega⟩
  have hkc0 : (k0 : Int) ≤ (c0 : Int) := by omega
  have HK0 : Hid (k0 ≤ x.length) := Lib.hid (by omega)
  obtain ⟨s0, hs0⟩ : ∃ s, (⟨(x.take k0).toArray⟩ : ByteArray) = s := ⟨_, rfl⟩
  have HS0 := Lib.hid hs0
  have HZ0 : Hid (s0.size ≤ 24) := Lib.hid (by rw [← hs0]; exact took (by omega))
  have H0 := Lib.hid (h0.up HBX0.out)
  rw [hn0] at H0 ⊢
  clear hs0 h0 hc0 hn0
  obtain ⟨p1, c1, rfl, hc1, -⟩ := id h1
  obtain ⟨n1, hn1⟩ : ∃ n, z.length = n := ⟨_, rfl⟩
  obtain ⟨k1, hk1⟩ : ∃ k : Nat, min (n1 : Int) 24 = (k : Int) := ⟨(min (n1 : Int) 24).toNat, by omega⟩
  have hkc1 : (k1 : Int) ≤ (c1 : Int) := by omega
  have HK1 : Hid (k1 ≤ z.length) := Lib.hid (by omega)
  obtain ⟨s1, hs1⟩ : ∃ s, (⟨(z.take k1).toArray⟩ : ByteArray) = s := ⟨_, rfl⟩
  have HS1 := Lib.hid hs1
  have HZ1 : Hid (s1.size ≤ 24) := Lib.hid (by rw [← hs1]; exact took (by omega))
  have H1 := Lib.hid (h1.up HBX0.out)
  rw [hn1] at H1 ⊢
  clear hs1 h1 hc1 hn1
  obtain ⟨A, hA⟩ : ∃ A, numS s0 = A := ⟨_, rfl⟩
  obtain ⟨M, hM⟩ : ∃ M, numS s1 = M := ⟨_, rfl⟩
  have NA := Lib.hid hA; have NM := Lib.hid hM
  have ZM : Hid (Sz M 24) := Lib.hid (by rw [← hM]; exact (Sz.num s1).mono HZ1.out)
  have S0 : Hid (s0.size ≤ 100000000) := Lib.hid (Nat.le_trans HZ0.out (by decide)); have S1 : Hid (s1.size ≤ 100000000) := Lib.hid (Nat.le_trans HZ1.out (by decide))
  clear htab hA hM l0 l2 z0 z1
  go_enter Tryz.func10, Tryz.ntmps10
  go_wp2_with fail
  obtain ⟨wx, hwx⟩ : ∃ wx, w.alloc (.cells #[.int .u32 (m0 : Int), .int .u32 (m1 : Int)] 53) = wx := ⟨_, rfl⟩
  obtain ⟨bx, hbx⟩ : ∃ b, w.heap.size = b := ⟨_, rfl⟩
  have HTX := Lib.hid (HTB.out.on HBX0.out).here
  rw [hwx] at HBX0 HQX0 H0 H1 HTX ⊢
  rw [hbx] at HQX0 ⊢
  have HBXE := Lib.hid hbx
  clear hwx hbx HTB
  refine (sanity_any _ HTX.out).mono ?_
  rintro e wo ⟨rfl, hb⟩
  have HB := Lib.hid (HBX0.out.trans (hb.mono HBX0.out.size))
  have H0 := Lib.hid (H0.out.up hb); have H1 := Lib.hid (H1.out.up hb)
  have HQO := Lib.hid (heap_up hb HQX0.out)
  clear hb
  go_wp2_with fail
  refine wp_region_vals (w := wo) (by kernel_rfl) (SFE p0 p1 n0 n1 c0 c1 k0 k1 s0 s1) (fun t => (decide (8 ≤ t) && decide (t < 10)) || (decide (28 ≤ t) && decide (t < 40))) (by kernel_rfl) (by kernel_rfl) (by kernel_rfl) (SFE_up p0 p1 n0 n1 c0 c1 k0 k1 s0 s1) ?_ ?_
  · intro i hi o listed a w hR K hK
    have ho := hR.at_
    have hi : i < 14 := hi
    have hii : i = 0 ∨ i = 1 ∨ i = 2 ∨ i = 3 ∨ i = 4 ∨ i = 5 ∨ i = 6 ∨ i = 7 ∨ i = 8 ∨ i = 9 ∨ i = 10 ∨ i = 11 ∨ i = 12 ∨ i = 13 := by omega
    rcases hii with rfl | rfl | rfl | rfl | rfl | rfl | rfl | rfl | rfl | rfl | rfl | rfl | rfl | rfl
    · simp at ho
      subst ho
      have b0 : a.tmps.getD 0 undef = .slice p0 n0 c0 := hR.base 0 (by kernel_rfl)
      refine plain_step rfl rfl ?_
      go_simp
      exact hK _ _ (rfl) (Below.refl _ _)
    · simp at ho
      subst ho
      have b0 : a.tmps.getD 0 undef = .slice p0 n0 c0 := hR.base 0 (by kernel_rfl)
      refine plain_step rfl rfl ?_
      go_simp
      exact hK _ _ (rfl) (Below.refl _ _)
    · simp at ho
      subst ho
      have e1 : a.tmps.getD 29 undef = .slice p0 n0 c0 := hR.dep ⟨1, .data⟩ (by simp) rfl
      refine plain_step rfl rfl ?_
      go_simp
      exact hK _ _ (rfl) (Below.refl _ _)
    · simp at ho
      subst ho
      have e2 : a.tmps.getD 30 undef = .int .i64 (n0 : Int) := hR.dep ⟨2, .data⟩ (by simp) rfl
      refine plain_step rfl rfl ?_
      go_simp
      exact hK _ _ (rfl) (Below.refl _ _)
    · simp at ho
      subst ho
      have e0 : a.tmps.getD 28 undef = .slice p0 n0 c0 := hR.dep ⟨0, .data⟩ (by simp) rfl
      have e3 : a.tmps.getD 31 undef = .int .i64 (k0 : Int) := hR.dep ⟨3, .data⟩ (by simp) rfl
      refine plain_step rfl rfl ?_
      go_simp
      exact hK _ _ (rfl) (Below.refl _ _)
    · simp at ho
      subst ho
      have e4 : a.tmps.getD 32 undef = .slice p0 k0 c0 := hR.dep ⟨4, .data⟩ (by simp) rfl
      refine plain_step rfl rfl ?_
      go_simp
      rw [conv_by Tryz.underlying24 (H0.out.up hR.below) HK0.out]
      go_simp
      rw [HS0.out]
      exact hK _ _ (rfl) (Below.refl _ _)
    · simp at ho
      subst ho
      have b2 : a.tmps.getD 2 undef = .slice p1 n1 c1 := hR.base 2 (by kernel_rfl)
      refine plain_step rfl rfl ?_
      go_simp
      exact hK _ _ (rfl) (Below.refl _ _)
    · simp at ho
      subst ho
      have b2 : a.tmps.getD 2 undef = .slice p1 n1 c1 := hR.base 2 (by kernel_rfl)
      refine plain_step rfl rfl ?_
      go_simp
      exact hK _ _ (rfl) (Below.refl _ _)
    · simp at ho
      subst ho
      have e7 : a.tmps.getD 35 undef = .slice p1 n1 c1 := hR.dep ⟨7, .data⟩ (by simp) rfl
      refine plain_step rfl rfl ?_
      go_simp
      exact hK _ _ (rfl) (Below.refl _ _)
    · simp at ho
      subst ho
      have e8 : a.tmps.getD 36 undef = .int .i64 (n1 : Int) := hR.dep ⟨8, .data⟩ (by simp) rfl
      refine plain_step rfl rfl ?_
      go_simp
      exact hK _ _ (rfl) (Below.refl _ _)
    · simp at ho
      subst ho
      have e6 : a.tmps.getD 34 undef = .slice p1 n1 c1 := hR.dep ⟨6, .data⟩ (by simp) rfl
      have e9 : a.tmps.getD 37 undef = .int .i64 (k1 : Int) := hR.dep ⟨9, .data⟩ (by simp) rfl
      refine plain_step rfl rfl ?_
      go_simp
      exact hK _ _ (rfl) (Below.refl _ _)
    · simp at ho
      subst ho
      have e10 : a.tmps.getD 38 undef = .slice p1 k1 c1 := hR.dep ⟨10, .data⟩ (by simp) rfl
      refine plain_step rfl rfl ?_
      go_simp
      rw [conv_by Tryz.underlying24 (H1.out.up hR.below) HK1.out]
      go_simp
      rw [HS1.out]
      exact hK _ _ (rfl) (Below.refl _ _)
    · simp at ho
      subst ho
      have e5 : a.tmps.getD 33 undef = .string s0 := hR.dep ⟨5, .data⟩ (by simp) rfl
      refine plain_step rfl rfl ?_
      go_simp
      exact hK _ _ (rfl) (Below.refl _ _)
    · simp at ho
      subst ho
      have e11 : a.tmps.getD 39 undef = .string s1 := hR.dep ⟨11, .data⟩ (by simp) rfl
      refine plain_step rfl rfl ?_
      go_simp
      exact hK _ _ (rfl) (Below.refl _ _)
  · intro s w hS hb
    have e12 : s 8 = .string s0 := hS 12 (by decide)
    have e13 : s 9 = .string s1 := hS 13 (by decide)
    simp only [over, Nat.zero_add, Nat.reduceAdd, Nat.reduceLeDiff, Nat.reduceLT, decide_true, decide_false, Bool.and_true, Bool.and_false, Bool.or_false, Bool.or_true, cond_true, cond_false]
    rw [e12, e13]
    have HB7 := Lib.hid (HB.out.trans (hb.mono HB.out.size))
    have HCX : Hid (∀ W', Below w.heap.size w W' → W'.cell? ⟨bx, 0, none⟩ = some (.int .u32 (m0 : Int)) ∧ W'.cell? ⟨bx, 1, none⟩ = some (.int .u32 (m1 : Int))) := Lib.hid fun W' h => by
      have := heap_up h (heap_up hb HQO.out)
      exact ⟨by rw [Lib.cell_of_heap this]; rfl, by rw [Lib.cell_of_heap this]; rfl⟩
    obtain ⟨w7, hw7⟩ : ∃ w7, w7 = w := ⟨_, rfl⟩
    subst hw7
    clear hS hb e12 e13 HB HQO HQX0
    go_wp2_with fail
    refine wp_region_vals (w := w7) (by kernel_rfl) (SFO bx m0 m1) (fun t => (decide (10 ≤ t) && decide (t < 12)) || (decide (40 ≤ t) && decide (t < 48))) (by kernel_rfl) (by kernel_rfl) (by kernel_rfl) (SFO_up bx m0 m1) ?_ ?_
    · intro i hi o listed a w hR K hK
      have ho := hR.at_
      have hi : i < 10 := hi
      have hii : i = 0 ∨ i = 1 ∨ i = 2 ∨ i = 3 ∨ i = 4 ∨ i = 5 ∨ i = 6 ∨ i = 7 ∨ i = 8 ∨ i = 9 := by omega
      rcases hii with rfl | rfl | rfl | rfl | rfl | rfl | rfl | rfl | rfl | rfl
      · simp at ho
        subst ho
        have b4 : a.tmps.getD 4 undef = .pointer (some ⟨bx, 0, none⟩) := hR.base 4 (by kernel_rfl)
        refine plain_step rfl rfl ?_
        go_simp
        exact hK _ _ (rfl) (Below.refl _ _)
      · simp at ho
        subst ho
        have e0 : a.tmps.getD 40 undef = .pointer (some ⟨bx, 0, none⟩) := hR.dep ⟨0, .data⟩ (by simp) rfl
        obtain ⟨cx0, cx1⟩ := HCX.out w hR.below
        refine plain_step rfl rfl ?_
        go_simp
        exact hK _ _ (rfl) (Below.refl _ _)
      · simp at ho
        subst ho
        have e1 : a.tmps.getD 41 undef = .int .u32 (m0 : Int) := hR.dep ⟨1, .data⟩ (by simp) rfl
        refine plain_step rfl rfl ?_
        go_simp
        exact hK _ _ (rfl) (Below.refl _ _)
      · simp at ho
        subst ho
        have e2 : a.tmps.getD 42 undef = .int .i64 (m0 : Int) := hR.dep ⟨2, .data⟩ (by simp) rfl
        refine plain_step rfl rfl ?_
        go_simp
        refine (HOF0.out w).mono ?_
        rintro e w' ⟨rfl, hb⟩
        exact hK _ _ (rfl) hb
      · simp at ho
        subst ho
        have b4 : a.tmps.getD 4 undef = .pointer (some ⟨bx, 0, none⟩) := hR.base 4 (by kernel_rfl)
        refine plain_step rfl rfl ?_
        go_simp
        exact hK _ _ (rfl) (Below.refl _ _)
      · simp at ho
        subst ho
        have e4 : a.tmps.getD 44 undef = .pointer (some ⟨bx, 1, none⟩) := hR.dep ⟨4, .data⟩ (by simp) rfl
        obtain ⟨cx0, cx1⟩ := HCX.out w hR.below
        refine plain_step rfl rfl ?_
        go_simp
        exact hK _ _ (rfl) (Below.refl _ _)
      · simp at ho
        subst ho
        have e5 : a.tmps.getD 45 undef = .int .u32 (m1 : Int) := hR.dep ⟨5, .data⟩ (by simp) rfl
        refine plain_step rfl rfl ?_
        go_simp
        exact hK _ _ (rfl) (Below.refl _ _)
      · simp at ho
        subst ho
        have e6 : a.tmps.getD 46 undef = .int .i64 (m1 : Int) := hR.dep ⟨6, .data⟩ (by simp) rfl
        refine plain_step rfl rfl ?_
        go_simp
        refine (HOF1.out w).mono ?_
        rintro e w' ⟨rfl, hb⟩
        exact hK _ _ (rfl) hb
      · simp at ho
        subst ho
        have e3 : a.tmps.getD 43 undef = .string (encS m0) := hR.dep ⟨3, .data⟩ (by simp) rfl
        refine plain_step rfl rfl ?_
        go_simp
        exact hK _ _ (rfl) (Below.refl _ _)
      · simp at ho
        subst ho
        have e7 : a.tmps.getD 47 undef = .string (encS m1) := hR.dep ⟨7, .data⟩ (by simp) rfl
        refine plain_step rfl rfl ?_
        go_simp
        exact hK _ _ (rfl) (Below.refl _ _)
    · intro s w hS hb
      have e8 : s 10 = .string (encS m0) := hS 8 (by decide)
      have e9 : s 11 = .string (encS m1) := hS 9 (by decide)
      simp only [over, Nat.zero_add, Nat.reduceAdd, Nat.reduceLeDiff, Nat.reduceLT, decide_true, decide_false, Bool.and_true, Bool.and_false, Bool.or_false, Bool.or_true, cond_true, cond_false]
      rw [e8, e9]
      have HB := Lib.hid (HB7.out.trans (hb.mono HB7.out.size))
      clear hS hb e8 e9
      go_wp2_with fail
      refine (Pow_any s0 (encS (m0)) s1 _ S0.out (((show Sz m0 8 from Nat.lt_of_le_of_lt HM0.out (by decide))).enc (by decide)) S1.out).mono ?_
      rintro e w21 ⟨rfl, hb⟩
      have HB := Lib.hid (HB.out.trans (hb.mono HB.out.size))
      clear hb
      rw [NA.out, NM.out, numS_encS]
      go_wp2_with fail
      refine (Pow_any s0 (encS (m1)) s1 _ S0.out (((show Sz m1 8 from Nat.lt_of_le_of_lt HM1.out (by decide))).enc (by decide)) S1.out).mono ?_
      rintro e w22 ⟨rfl, hb⟩
      have HB := Lib.hid (HB.out.trans (hb.mono HB.out.size))
      clear hb
      rw [NA.out, NM.out, numS_encS]
      go_wp2_with fail
      refine (Add_n (numS_encS _) (numS_encS _) (((show Sz m0 8 from Nat.lt_of_le_of_lt HM0.out (by decide))).enc (by decide)) (((show Sz m1 8 from Nat.lt_of_le_of_lt HM1.out (by decide))).enc (by decide)) _).mono ?_
      rintro e w23 ⟨rfl, hb⟩
      have HB := Lib.hid (HB.out.trans (hb.mono HB.out.size))
      clear hb
      go_wp2_with fail
      refine (Pow_any s0 (encS (m0 + m1)) s1 _ S0.out ((Sz.add (show Sz m0 8 from Nat.lt_of_le_of_lt HM0.out (by decide)) (show Sz m1 8 from Nat.lt_of_le_of_lt HM1.out (by decide))).enc (by decide)) S1.out).mono ?_
      rintro e w24 ⟨rfl, hb⟩
      have HB := Lib.hid (HB.out.trans (hb.mono HB.out.size))
      clear hb
      rw [NA.out, NM.out, numS_encS]
      go_wp2_with fail
      refine (Bits_n NM.out S1.out _).mono ?_
      rintro e w25 ⟨rfl, hb⟩
      have HB := Lib.hid (HB.out.trans (hb.mono HB.out.size))
      clear hb
      by_cases hM : M ≠ 0
      · have HMN := Lib.hid hM
        obtain ⟨bn, hbn⟩ : ∃ n : Nat, bitsN M = n := ⟨_, rfl⟩
        have hb1 : (0 : Int) < (bn : Int) := by have := bitsN_pos (n := M) (by omega); omega
        have hb2 : 0 < bn := by omega
        rw [hbn, show decide (M = 0) = false by simp [hM]]
        clear hM hbn
        go_wp2_with fail
        refine (Mul_n (numS_encS _) (numS_encS _) ((powS_sz ZM.out).enc (by decide)) ((powS_sz ZM.out).enc (by decide)) _).mono ?_
        rintro e we ⟨rfl, hb⟩
        have HB := Lib.hid (HB.out.trans (hb.mono HB.out.size))
        clear hb
        go_wp2_with fail
        refine (Quo_n (numS_encS _) NM.out ((Sz.mul (powS_sz ZM.out) (powS_sz ZM.out)).enc (by decide)) S1.out _).mono ?_
        rintro e wf ⟨rfl, hb⟩
        have HB := Lib.hid (HB.out.trans (hb.mono HB.out.size))
        clear hb
        rw [pow_both _ _ _ _ HMN.out]
        go_wp2_with fail
        refine (rOf_any 2305843009213691579 _ (by decide)).mono ?_
        rintro e wa ⟨rfl, hb⟩
        have HB := Lib.hid (HB.out.trans (hb.mono HB.out.size))
        clear hb
        rw [show (2305843009213691579 : Int).toNat = 2305843009213691579 from rfl]
        go_wp2_with fail
        refine (rOf_any 2305843009213691578 _ (by decide)).mono ?_
        rintro e wb ⟨rfl, hb⟩
        have HB := Lib.hid (HB.out.trans (hb.mono HB.out.size))
        clear hb
        rw [show (2305843009213691578 : Int).toNat = 2305843009213691578 from rfl]
        go_wp2_with fail
        refine (Pow_any s0 (encS 2305843009213691578) (encS 2305843009213691579) _ S0.out ((show Sz 2305843009213691578 8 by unfold Sz; decide).enc (by decide)) ((show Sz 2305843009213691579 8 by unfold Sz; decide).enc (by decide))).mono ?_
        rintro e wc ⟨rfl, hb⟩
        have HB := Lib.hid (HB.out.trans (hb.mono HB.out.size))
        clear hb
        rw [NA.out, numS_encS, numS_encS, show decide ((2305843009213691579 : Nat) ≠ 0) = true from rfl]
        go_wp2_with fail
        refine (Quo_n NA.out (numS_encS 2305843009213691579) S0.out ((show Sz 2305843009213691579 8 by unfold Sz; decide).enc (by decide)) _).mono ?_
        rintro e wd ⟨rfl, hb⟩
        have HB := Lib.hid (HB.out.trans (hb.mono HB.out.size))
        clear hb
        rcases prime_two A with ⟨hr, hp⟩ | ⟨hr, hp⟩
        · rw [hr, hp, encS_zero]
          clear hr hp
          go_wp2_with fail
          go_ret
          exact ⟨by simp, HB.out⟩
        · rw [hp, encS_one]
          have hne := enc_some hr
          obtain ⟨rs, hrs⟩ : ∃ rs, encS (remS A 2305843009213691579) = rs := ⟨_, rfl⟩
          rw [hrs] at hne ⊢
          have hne2 : ¬ rs.toList = [] := fun h => by rw [h] at hne; cases hne
          clear hr hp hrs
          go_wp2_with fail
          go_ret
          exact ⟨by simp, HB.out⟩
      · rw [show bitsN M = 0 by rw [show M = 0 by omega]; exact bitsN_zero, show decide (M = 0) = true by simp; omega]
        clear hM
        go_wp2_with fail
        refine (rOf_any 2305843009213691579 _ (by decide)).mono ?_
        rintro e wa ⟨rfl, hb⟩
        have HB := Lib.hid (HB.out.trans (hb.mono HB.out.size))
        clear hb
        rw [show (2305843009213691579 : Int).toNat = 2305843009213691579 from rfl]
        go_wp2_with fail
        refine (rOf_any 2305843009213691578 _ (by decide)).mono ?_
        rintro e wb ⟨rfl, hb⟩
        have HB := Lib.hid (HB.out.trans (hb.mono HB.out.size))
        clear hb
        rw [show (2305843009213691578 : Int).toNat = 2305843009213691578 from rfl]
        go_wp2_with fail
        refine (Pow_any s0 (encS 2305843009213691578) (encS 2305843009213691579) _ S0.out ((show Sz 2305843009213691578 8 by unfold Sz; decide).enc (by decide)) ((show Sz 2305843009213691579 8 by unfold Sz; decide).enc (by decide))).mono ?_
        rintro e wc ⟨rfl, hb⟩
        have HB := Lib.hid (HB.out.trans (hb.mono HB.out.size))
        clear hb
        rw [NA.out, numS_encS, numS_encS, show decide ((2305843009213691579 : Nat) ≠ 0) = true from rfl]
        go_wp2_with fail
        refine (Quo_n NA.out (numS_encS 2305843009213691579) S0.out ((show Sz 2305843009213691579 8 by unfold Sz; decide).enc (by decide)) _).mono ?_
        rintro e wd ⟨rfl, hb⟩
        have HB := Lib.hid (HB.out.trans (hb.mono HB.out.size))
        clear hb
        rcases prime_two A with ⟨hr, hp⟩ | ⟨hr, hp⟩
        · rw [hr, hp, encS_zero]
          clear hr hp
          go_wp2_with fail
          go_ret
          exact ⟨by simp, HB.out⟩
        · rw [hp, encS_one]
          have hne := enc_some hr
          obtain ⟨rs, hrs⟩ : ∃ rs, encS (remS A 2305843009213691579) = rs := ⟨_, rfl⟩
          rw [hrs] at hne ⊢
          have hne2 : ¬ rs.toList = [] := fun h => by rw [h] at hne; cases hne
          clear hr hp hrs
          go_wp2_with fail
          go_ret
          exact ⟨by simp, HB.out⟩
end Go.Proofs.YtakbkbmjeanboaaGreatDoor.natFermat
