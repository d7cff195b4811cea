/- Int of package nat. Each theorem names its conditions. -/
import Derived.Test.YtakbkbmjeanboaaGreatDoorApiC
namespace Go.Proofs.YtakbkbmjeanboaaGreatDoor
open Go.RowKit Go.Shelf
open Dgt
set_option linter.unusedVariables false

def intOk (m : Nat) : Bool := decide (m < 9223372036854775808)
def intV (m : Nat) : Nat := if intOk m = true then m else 0
theorem int_no {m : Nat} (h : 9223372036854775808 ≤ m) : intOk m = false ∧ intV m = 0 := by
  have h1 : intOk m = false := by simp only [intOk, decide_eq_false_iff_not]; omega
  exact ⟨h1, by rw [intV, h1]; rfl⟩
theorem int_yes {m : Nat} (h : m < 9223372036854775808) : intOk m = true ∧ intV m = m := by
  have h1 : intOk m = true := by simp only [intOk, decide_eq_true_eq]; exact h
  exact ⟨h1, by rw [intV, if_pos h1]⟩
theorem ofInt_i64 (a : Nat) (ha : a < 9223372036854775808) : (BitVec.ofInt 64 (a : Int)).toNat = a := by
  rw [BitVec.ofInt_natCast, BitVec.toNat_ofNat]; exact Nat.mod_eq_of_lt (by omega)
theorem i64_or_nat (a b : Nat) (ha : a < 9223372036854775808) (hb : b < 9223372036854775808) : bits .or .i64 (a : Int) (b : Int) = ((a ||| b : Nat) : Int) := by
  have hx : a ||| b < 2 ^ 63 := Nat.or_lt_two_pow (by omega) (by omega)
  show IntKind.i64.wrap ((BitVec.ofInt 64 (a : Int) ||| BitVec.ofInt 64 (b : Int)).toNat : Int) = _
  rw [BitVec.toNat_or, ofInt_i64 a ha, ofInt_i64 b hb, IntKind.wrap_i64]
  omega
theorem join32 {x y : Nat} (hx : x < 4294967296) : x ||| y * 4294967296 = x + y * 4294967296 := by
  have := shl_join (b := y) (s := 32) (x := x) (by simpa using hx)
  simpa using this
theorem or_xy {x y z : Nat} (hx : x < 4294967296) (hy : y ≤ 2147483647) (hz : y * 4294967296 = z) : bits .or .i64 (x : Int) (z : Int) = ((x + z : Nat) : Int) := by
  have h1 : x < 9223372036854775808 := Nat.lt_trans hx (by decide)
  have h2 : z < 9223372036854775808 := by
    rw [← hz]
    exact Nat.lt_of_le_of_lt (Nat.mul_le_mul_right 4294967296 hy) (by decide)
  rw [i64_or_nat x z h1 h2, ← hz, join32 hx]
set_option maxHeartbeats 800000 in
set_option maxRecDepth 100000 in
theorem Int_any (a : ByteArray) (w : World) (ha : a.size ≤ 100000000) :
    Calls Tryz.prog 32 #[.string a] w fun e w' => e = .returned (.tuple #[.int .i64 ((intV (numS a) : Nat) : Int), .bool (intOk (numS a))]) ∧ Below w.heap.size w w' := by
  have la := len32 a
  obtain ⟨n, hn⟩ : ∃ n, numS a = n := ⟨_, rfl⟩
  have OA := Lib.hid (of_any a · (by omega))
  rw [hn] at la OA ⊢
  have LA := Lib.hid (show (digs 4294967296 n).length ≤ 100000000 by omega)
  clear la ha hn
  go_enter Tryz.func32, Tryz.ntmps32
  go_wp2_with fail
  refine (OA.out _).mono ?_
  rintro e w1 ⟨v1, rfl, hl, hb⟩
  obtain ⟨p, k, cp, rfl, hk, -, -⟩ := hl.open_
  have hv := valB_digs (B := 4294967296) (by decide) n
  have hge := fun h0 => digs_ge (B := 4294967296) (by decide) (n := n) h0
  have hll := hl
  obtain ⟨l, hdl⟩ : ∃ l, digs 4294967296 n = l := ⟨_, rfl⟩
  rw [hdl] at hk hl hv
  have HB := Lib.hid hb
  have hk9 : (k : Int) ≤ 100000000 := by have := LA.out; rw [hdl] at this; omega
  by_cases h3 : 3 ≤ k
  · have hbig : 9223372036854775808 ≤ n := by
      have h0 : 0 < n := by
        rcases Nat.eq_zero_or_pos n with rfl | h
        · rw [digs_zero] at hdl; rw [← hdl] at hk; simp at hk; omega
        · exact h
      have h1 := hge h0
      rw [hdl] at h1
      have h2 : 4294967296 ^ 2 ≤ 4294967296 ^ (l.length - 1) := Nat.pow_le_pow_right (by decide) (by omega)
      have h4 : (4294967296 : Nat) ^ 2 = 18446744073709551616 := by decide
      omega
    have HE := Lib.hid (int_no hbig)
    have h3' : 2 < (k : Int) := by omega
    clear hb hl hll hv hge hk hdl hbig h3
    go_wp2_with fail
    go_ret2
    exact ⟨by rw [HE.out.1, HE.out.2]; rfl, HB.out⟩
  · match l, hk, hl, hv, hdl with
    | [], hk, hl, hv, hdl =>
      have hk0 : k = 0 := by simpa using hk
      have a1 : ¬ 2 < (k : Int) := by omega
      have a2 : ((k : Int) == 2) = false := by rw [beq_eq_false_iff_ne]; omega
      have a3 : ¬ (k : Int) = 2 := by omega
      have a4 : ¬ 0 < (k : Int) := by omega
      have a5 : ¬ 0 < k := by omega
      have hn0 : n = 0 := by rw [← hv]; rfl
      have HE := Lib.hid (int_yes (m := n) (by omega))
      have HN := Lib.hid hn0
      clear hb hl hll hv hge hk hdl h3 hn0 hk0
      go_wp2_with fail
      refine wp_loop_rounds 1 ?_
      rw [rounds_succ]
      go_wp2_with fail
      go_ret2
      exact ⟨by rw [HE.out.1, HE.out.2, HN.out]; rfl, HB.out⟩
    | [x], hk, hl, hv, hdl =>
      have hk0 : k = 1 := by simpa using hk
      have a1 : ¬ 2 < (k : Int) := by omega
      have a2 : ((k : Int) == 2) = false := by rw [beq_eq_false_iff_ne]; omega
      have a3 : ¬ (k : Int) = 2 := by omega
      have a4 : 0 < (k : Int) := by omega
      have a5 : 0 < k := by omega
      have a6 : ¬ 1 < (k : Int) := by omega
      have a7 : ¬ 1 < k := by omega
      obtain ⟨g, off, rfl, hg, hc⟩ := hl.cell (i := 0) (by simp)
      have hx := hl.ok.get (i := 0) (by simp)
      simp only [List.getElem_cons_zero, Nat.add_zero] at hc hx
      have hn0 : n = x := by rw [← hv, valB_one]
      have HE := Lib.hid (int_yes (m := n) (by omega))
      have HN := Lib.hid hn0
      have q1 : bits .or .i64 0 (x : Int) = (x : Int) := by
        have := i64_or_nat 0 x (by omega) (by omega)
        rw [Nat.zero_or] at this; exact this
      have wx : wrap64 (x : Int) = (x : Int) := by unfold wrap64; omega
      clear hb hl hll hv hge hk hdl h3 hn0 hx hk0
      go_wp2_with fail
      refine wp_loop_rounds 2 ?_
      rw [rounds_succ]
      go_wp2_with fail
      rw [rounds_succ]
      go_wp2_with fail
      go_ret2
      exact ⟨by rw [HE.out.1, HE.out.2, HN.out]; rfl, HB.out⟩
    | [x, y], hk, hl, hv, hdl =>
      have hk0 : k = 2 := by simpa using hk
      have a1 : ¬ 2 < (k : Int) := by omega
      have a2 : ((k : Int) == 2) = true := by rw [beq_iff_eq]; omega
      have a4 : 0 < (k : Int) := by omega
      have a5 : 0 < k := by omega
      have a6 : 1 < (k : Int) := by omega
      have a7 : 1 < k := by omega
      have a8 : ¬ 2 < k := by omega
      obtain ⟨g, off, rfl, hg, hc⟩ := hl.cell (i := 0) (by simp)
      obtain ⟨g2, off2, hp2, hg2, hc2⟩ := hl.cell (i := 1) (by simp)
      obtain ⟨rfl, rfl⟩ : g = g2 ∧ off = off2 := by injection hp2 with e; injection e with e1 e2 _; exact ⟨e1, e2⟩
      have hx := hl.ok.get (i := 0) (by simp)
      have hy := hl.ok.get (i := 1) (by simp)
      simp only [List.getElem_cons_zero, List.getElem_cons_succ, Nat.add_zero] at hc hc2 hx hy
      have hn0 : n = x + 4294967296 * y := by rw [← hv]; simp [valB]
      by_cases hy2 : y ≤ 2147483647
      · have HE := Lib.hid (int_yes (m := n) (by omega))
        obtain ⟨z, hz⟩ : ∃ z, y * 4294967296 = z := ⟨_, rfl⟩
        have HN := Lib.hid (show n = x + z by omega)
        have q1 : bits .or .i64 0 (x : Int) = (x : Int) := by
          have := i64_or_nat 0 x (by omega) (by omega)
          rw [Nat.zero_or] at this; exact this
        have q2 : (y : Int) * 4294967296 = (z : Int) := by omega
        have wx : wrap64 (x : Int) = (x : Int) := by unfold wrap64; omega
        have q3 := or_xy hx hy2 hz
        obtain ⟨u, hu⟩ : ∃ u, x + z = u := ⟨_, rfl⟩
        rw [hu] at q3 HN
        have hyi : (y : Int) ≤ 2147483647 := by omega
        have hyi2 : ¬ 2147483647 < (y : Int) := by omega
        clear hb hl hll hv hge hk hdl h3 hn0 hx hy hz hu hp2 hy2 hk0
        go_wp2_with fail
        refine wp_loop_rounds 3 ?_
        rw [rounds_succ]
        go_wp2_with fail
        rw [rounds_succ]
        go_wp2_with fail
        rw [rounds_succ]
        go_wp2_with fail
        go_ret2
        exact ⟨by rw [HE.out.1, HE.out.2, HN.out]; rfl, HB.out⟩
      · have HE := Lib.hid (int_no (m := n) (by omega))
        have hyi2 : 2147483647 < (y : Int) := by omega
        clear hb hl hll hv hge hk hdl h3 hn0 hx hy hp2 hy2 hk0
        go_wp2_with fail
        go_ret2
        exact ⟨by rw [HE.out.1, HE.out.2]; rfl, HB.out⟩
    | x :: y :: z :: r, hk, hl, hv, hdl => exfalso; simp at hk; omega
end Go.Proofs.YtakbkbmjeanboaaGreatDoor
