/- The functions of package nat: Bits, Of. Each theorem names its conditions. -/
import Derived.Test.YtakbkbmjeanboaaGreatDoorApiB
namespace Go.Proofs.YtakbkbmjeanboaaGreatDoor
open Go.RowKit Go.Shelf
open Dgt
set_option linter.unusedVariables false

def bitsN (n : Nat) : Nat := (digs 2 n).length
theorem digs_len_eq {B n k : Nat} (hB : 2 ≤ B) (h1 : B ^ k ≤ n) (h2 : n < B ^ (k + 1)) : (digs B n).length = k + 1 := by
  apply Nat.le_antisymm (digs_len_le hB h2)
  rcases Nat.lt_or_ge (digs B n).length (k + 1) with h | h
  · have h3 := digs_lt hB n
    have h4 : B ^ (digs B n).length ≤ B ^ k := Nat.pow_le_pow_right (by omega) (by omega)
    omega
  · exact h
theorem bits_of {n nb top : Nat} (hl : (digs 4294967296 n).length = nb + 1) (ht : (digs 4294967296 n)[nb]? = some top) : bitsN n = 32 * nb + Lib.bitLen top ∧ 0 < top ∧ top < 4294967296 := by
  have ho := okB_digs (B := 4294967296) (by decide) n
  have hz := nzL_digs (B := 4294967296) (by decide) n
  have hv := valB_digs (B := 4294967296) (by decide) n
  obtain ⟨l, hll⟩ : ∃ l, digs 4294967296 n = l := ⟨_, rfl⟩
  rw [hll] at hl ht ho hz hv
  obtain ⟨hi, hg⟩ := List.getElem?_eq_some_iff.1 ht
  have hne : l ≠ [] := by rintro rfl; simp at hi
  have ht0 : 0 < top := by
    have := hz hne
    rw [List.getLast_eq_getElem] at this
    simp only [hl, Nat.add_sub_cancel] at this
    rw [hg] at this; omega
  have htl : top < 4294967296 := by rw [← hg]; exact ho.get hi
  obtain ⟨b1, b2, b3⟩ := bitLen_bd ht0 (by omega)
  have hsp := valB_split 4294967296 l nb
  rw [Nat.min_eq_left (by omega), List.drop_eq_getElem_cons hi, hg, List.drop_eq_nil_of_le (by omega)] at hsp
  simp only [valB, Nat.mul_zero, Nat.add_zero] at hsp
  rw [hv] at hsp
  have hlo := valB_lt (ho.take nb)
  rw [List.length_take, Nat.min_eq_left (by omega)] at hlo
  have e32 : (4294967296 : Nat) ^ nb = 2 ^ (32 * nb) := by rw [Nat.pow_mul]
  refine ⟨?_, ht0, htl⟩
  have h1 : 2 ^ (32 * nb + (Lib.bitLen top - 1)) ≤ n := by
    rw [Nat.pow_add, ← e32]
    have := Nat.mul_le_mul_left (4294967296 ^ nb) b2
    omega
  have h2 : n < 2 ^ (32 * nb + (Lib.bitLen top - 1) + 1) := by
    rw [show 32 * nb + (Lib.bitLen top - 1) + 1 = 32 * nb + Lib.bitLen top by omega, Nat.pow_add, ← e32]
    have := Nat.mul_le_mul_left (4294967296 ^ nb) (show top + 1 ≤ 2 ^ Lib.bitLen top from b3)
    rw [Nat.mul_add, Nat.mul_one] at this
    omega
  have := digs_len_eq (by decide) h1 h2
  unfold bitsN
  omega
set_option maxHeartbeats 1000000 in
set_option maxRecDepth 100000 in
theorem Bits_any (a : ByteArray) (w : World) (ha : a.size ≤ 100000000) :
    Calls Tryz.prog 34 #[.string a] w fun e w' => e = .returned (.int .i64 ((bitsN (numS a) : Nat) : Int)) ∧ Below w.heap.size w w' := by
  have la := len32 a
  obtain ⟨n, hn⟩ : ∃ n, numS a = n := ⟨_, rfl⟩
  have OA := Lib.hid (of_any a · (by omega))
  rw [hn] at la OA ⊢
  have LA := Lib.hid (show (digs 4294967296 n).length ≤ 100000000 by omega)
  clear la ha hn
  go_enter Tryz.func34, Tryz.ntmps34
  go_wp2_with fail
  refine (OA.out _).mono ?_
  rintro e w1 ⟨v1, rfl, hl, hb⟩
  obtain ⟨p, k, cp, rfl, hk, -, -⟩ := hl.open_
  rcases k with _ | j
  · have HE : Hid (bitsN n = 0) := Lib.hid (by
      have h0 : digs 4294967296 n = [] := List.eq_nil_of_length_eq_zero hk.symm
      rw [digs_eq_nil (by decide)] at h0
      rw [h0, bitsN, digs_zero]; rfl)
    have HB := Lib.hid hb
    clear hb hl hk
    go_wp2_with fail
    go_ret
    exact ⟨by rw [HE.out]; rfl, HB.out⟩
  · have hj : j < (digs 4294967296 n).length := by omega
    obtain ⟨g, off, rfl, hg, hc⟩ := hl.cell hj
    obtain ⟨top, ht⟩ : ∃ t, (digs 4294967296 n)[j] = t := ⟨_, rfl⟩
    have hbs := bits_of hk.symm (List.getElem?_eq_some_iff.2 ⟨hj, ht⟩)
    rw [ht] at hc
    have HE := Lib.hid hbs.1
    have h0 := hbs.2.1
    have htl : (top : Int) ≤ 4294967295 := by omega
    have hbl : (Lib.bitLen ((top : Int)).toNat : Int) = (Lib.bitLen top : Int) := by rw [Int.toNat_natCast]
    have hb64 : (Lib.bitLen top : Int) ≤ 64 := by have := Lib.bitLen_le top 64 (by decide) (by omega); omega
    have hj9 : (j : Int) ≤ 100000000 := by have := LA.out; omega
    have HB := Lib.hid hb; have HBL := Lib.hid hbl
    clear hb hl hk hj ht hbs hbl
    go_wp2_with fail
    refine (Tryz.bits_Len32 (top : Int) _ (by omega) htl).mono ?_
    rintro e w2 ⟨rfl, rfl⟩
    rw [HBL.out]
    go_wp2_with fail
    go_ret
    exact ⟨by rw [HE.out]; go_num, HB.out⟩
theorem lim_two (W : World) {x y : Nat} (hx : x < 4294967296) (hy : y < 4294967296) : Lim (W.alloc (.cells #[.int .u32 (x : Int), .int .u32 (y : Int)] 52)) (.slice (some ⟨W.heap.size, 0, none⟩) 2 2) [x, y] := by
  refine LimK.block (kd := .u32) (B := 4294967296) (g := W.heap.size) (cap := 2) (t := 52) (l := [x, y]) (fun z hz => ?_) (cs := #[.int .u32 (x : Int), .int .u32 (y : Int)]) (heap_alloc_new W _) (fun i h => ?_) (by simp) (by omega)
  · simp only [List.mem_cons, List.mem_nil_iff, or_false] at hz
    rcases hz with rfl | rfl
    · exact hx
    · exact hy
  · have h0 : i = 0 ∨ i = 1 := by simp at h; omega
    rcases h0 with rfl | rfl <;> rfl
set_option maxHeartbeats 1000000 in
theorem Of_any (n : Int) (w : World) (h9 : n ≤ 9223372036854775807) :
    Calls Tryz.prog 31 #[.int .i64 n] w fun e w' => e = .returned (.string (encS n.toNat)) ∧ Below w.heap.size w w' := by
  by_cases hn : n ≤ 0
  · have HE := Lib.hid (show encS n.toNat = ⟨#[]⟩ by rw [show n.toNat = 0 by omega]; exact encS_zero)
    clear h9
    go_enter Tryz.func31, Tryz.ntmps31
    go_wp2_with fail
    go_ret
    exact ⟨by rw [HE.out]; rfl, Below.refl _ _⟩
  · obtain ⟨m, rfl⟩ : ∃ m : Nat, n = m := ⟨n.toNat, by omega⟩
    obtain ⟨x, hx⟩ : ∃ x, m % 4294967296 = x := ⟨_, rfl⟩
    obtain ⟨y, hy⟩ : ∃ y, m / 4294967296 = y := ⟨_, rfl⟩
    have hxl : x < 4294967296 := by omega
    have hyl : y < 4294967296 := by omega
    have q1 : bits .and .i64 (m : Int) 4294967295 = (x : Int) := by
      have h : (BitVec.ofInt 64 (m : Int) &&& BitVec.ofInt 64 4294967295).toNat = x := by
        rw [BitVec.toNat_and, BitVec.ofInt_natCast, BitVec.toNat_ofNat, show (BitVec.ofInt 64 4294967295).toNat = 4294967295 from rfl, Nat.mod_eq_of_lt (by omega), ← hx]
        exact Nat.and_two_pow_sub_one_eq_mod m 32
      show IntKind.i64.wrap ((BitVec.ofInt 64 (m : Int) &&& BitVec.ofInt 64 4294967295).toNat : Int) = _
      rw [h, IntKind.wrap_i64]; omega
    have q2 : (m : Int) / 4294967296 = (y : Int) := by omega
    have q3 : (x : Int) % 4294967296 = (x : Int) := by omega
    have q4 : (y : Int) % 4294967296 = (y : Int) := by omega
    have HV := Lib.hid (show valB 4294967296 [x, y] = m by simp only [valB]; omega)
    have hm : ¬ (m : Int) ≤ 0 := hn
    have HL := Lib.hid (lim_two w hxl hyl)
    have HB := Lib.hid ((Below.refl w.heap.size w).alloc (Nat.le_refl _) (.cells #[.int .u32 (x : Int), .int .u32 (y : Int)] 52))
    clear hx hy hxl hyl hn h9
    go_enter Tryz.func31, Tryz.ntmps31
    go_wp2_with fail
    refine (number_any _ _ _ HL.out (by simp)).mono ?_
    rintro e w2 ⟨rfl, hb⟩
    rw [HV.out]
    have HB := Lib.hid (HB.out.trans (hb.mono HB.out.size))
    clear hb
    go_wp2_with fail
    go_ret
    exact ⟨by rw [Int.toNat_natCast]; rfl, HB.out⟩
end Go.Proofs.YtakbkbmjeanboaaGreatDoor
