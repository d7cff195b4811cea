/- up and down of package nat. Each theorem names its conditions. -/
import Derived.Test.YtakbkbmjeanboaaGreatDoorLimF
import Derived.Test.YtakbkbmjeanboaaGreatDoorLimE
namespace Go.Proofs.YtakbkbmjeanboaaGreatDoor
open Go.RowKit Go.Shelf
open Dgt
set_option linter.unusedVariables false

theorem pow_split {n : Nat} (hn : n ≤ 32) : (4294967296 : Nat) = 2 ^ n * 2 ^ (32 - n) := by
  rw [← Nat.pow_add, show n + (32 - n) = 32 by omega]
/-- a digit shifted: its low part leaves room for what was carried -/
theorem shift_room {x n t : Nat} (hn : n ≤ 32) (hx : x < 4294967296) (ht : t < 2 ^ n) : t + x * 2 ^ n % 4294967296 < 4294967296 ∧ x * 2 ^ n / 4294967296 < 2 ^ n ∧ ∃ y, x * 2 ^ n % 4294967296 = y * 2 ^ n := by
  have hs := pow_split hn
  have hp : 0 < 2 ^ n := Nat.pow_pos (by decide)
  have hq : 0 < 2 ^ (32 - n) := Nat.pow_pos (by decide)
  have e : x * 2 ^ n % 4294967296 = (x % 2 ^ (32 - n)) * 2 ^ n := by
    rw [hs, Nat.mul_comm x, Nat.mul_mod_mul_left, Nat.mul_comm]
  have h1 : x % 2 ^ (32 - n) < 2 ^ (32 - n) := Nat.mod_lt _ hq
  have h2 : (x % 2 ^ (32 - n)) * 2 ^ n + 2 ^ n ≤ 2 ^ (32 - n) * 2 ^ n := by rw [← Nat.succ_mul]; exact Nat.mul_le_mul_right _ h1
  have h3 : 2 ^ (32 - n) * 2 ^ n = 4294967296 := by rw [Nat.mul_comm, ← hs]
  refine ⟨by rw [e]; omega, ?_, _, e⟩
  rw [Nat.div_lt_iff_lt_mul (by decide), Nat.mul_comm]
  exact Nat.mul_lt_mul_of_pos_left hx hp
theorem up_step {S la : List Nat} {k n x t : Nat} (hS : S.length = k) (hk : k < la.length) (hx : la[k] = x) (hv : valB 4294967296 (S ++ [t]) = valB 4294967296 (la.take k) * 2 ^ n) :
    valB 4294967296 ((S ++ [t + x * 2 ^ n % 4294967296]) ++ [x * 2 ^ n / 4294967296]) = valB 4294967296 (la.take (k + 1)) * 2 ^ n := by
  rw [valB_snoc, hS] at hv
  rw [valB_snoc, valB_snoc, hS, List.length_append, hS, List.length_singleton, valB_take_succ hk, hx, Nat.add_mul, ← hv, Nat.mul_add, Nat.pow_succ, Nat.mul_assoc (4294967296 ^ k) 4294967296, Nat.add_assoc, Nat.add_assoc, ← Nat.mul_add (4294967296 ^ k), Nat.mod_add_div, Nat.mul_assoc (4294967296 ^ k) x]
  omega
theorem set_two (S : List Nat) (x y t m : Nat) : ((S ++ t :: List.replicate (m + 1) 0).set S.length x).set (S.length + 1) y = (S ++ [x]) ++ y :: List.replicate m 0 := by
  rw [set_here]
  have := set_zeros (S ++ [x]) y m
  rw [List.length_append, List.length_singleton] at this
  rw [this]
  simp
set_option maxHeartbeats 8000000 in
set_option maxRecDepth 100000 in
theorem up_any (va : Value) (la : List Nat) (n : Nat) (w : World) (ha : Lim w va la) (hla : la.length ≤ 1000000000) (hn : n < 32) :
    Calls Tryz.prog 69 #[va, .int .i64 (n : Int)] w fun e w' => ∃ g, e = .returned (.slice (some ⟨g, 0, none⟩) (la.length + 1) (la.length + 1)) ∧ w.heap.size ≤ g ∧
      w'.heap[g]? = some (.cells (cellsK .u32 (fixd 4294967296 (la.length + 1) (valB 4294967296 la * 2 ^ n))) 52 (0, 0)) ∧ Below w.heap.size w w' := by
  obtain ⟨pa, na, ca, rfl, hna, hca, hcma⟩ := ha.open_
  rw [← hna]
  have HLA := Lib.hid ha
  have hna1 : (na : Int) ≤ 1000000000 := by omega
  have HNA := Lib.hid hna
  have hmk := mk_limbs (na + 1) ((na : Int) + 1) (by omega) (by omega)
  have hn' : (n : Int) ≤ 64 := by omega
  clear ha hna hla hca hcma
  go_enter Tryz.func69, Tryz.ntmps69
  go_wp2_with fail
  clear hmk
  have HB := Lib.hid ((Below.refl w.heap.size w).alloc (Nat.le_refl _) (.cells (cellsK .u32 (List.replicate (na + 1) 0)) 52))
  have HK := Lib.hid (heap_alloc_new w (.cells (cellsK .u32 (List.replicate (na + 1) 0)) 52))
  obtain ⟨w0, hw0⟩ : ∃ w0, w.alloc (.cells (cellsK .u32 (List.replicate (na + 1) 0)) 52) = w0 := ⟨_, rfl⟩
  rw [hw0] at HB HK ⊢
  obtain ⟨g, hg⟩ : ∃ g, w.heap.size = g := ⟨_, rfl⟩
  have hgw : w.heap.size ≤ g := Nat.le_of_eq hg
  rw [hg] at HK ⊢
  have HG := Lib.hid hg
  clear hw0 hg
  go_loopw [15, 6, 7, 8] (fun i _ _ _ wr => ∃ (k t : Nat) (S : List Nat), k ≤ na ∧ i = .int .i64 (k : Int) ∧ Hid (t < 2 ^ n) ∧ Hid (S.length = k) ∧ Hid (okB 4294967296 S) ∧ Hid (valB 4294967296 (S ++ [t]) = valB 4294967296 (la.take k) * 2 ^ n) ∧
      Hid (wr.heap[g]? = some (.cells (cellsK .u32 (S ++ t :: List.replicate (na - k) 0)) 52 (0, 0))) ∧ Hid (Below w.heap.size w wr)) (fun i _ _ _ _ => na - (intOf i).toNat)
  case atStart => exact ⟨0, 0, [], by omega, rfl, Lib.hid (Nat.pow_pos (by decide)), Lib.hid rfl, Lib.hid (okB_nil _), Lib.hid (by simp [valB]), Lib.hid (by simpa [List.replicate_succ] using HK.out), HB⟩
  case round =>
    obtain ⟨k, t, S, hk, rfl, HT, HS, HO, HV, HC, HBW⟩ := hrel
    obtain ⟨wo, hwo⟩ : ∃ wo, wo = wr := ⟨_, rfl⟩
    subst hwo
    by_cases hlt : k < na
    · have hlt' : (k : Int) < (na : Int) := by omega
      have hkA : k < la.length := by have := HNA.out; omega
      obtain ⟨g1, off1, hp1, hg1, hc1⟩ := HLA.out.cell hkA
      have cA : wo.cell? ⟨g1, off1 + k, none⟩ = some (.int .u32 (la[k] : Int)) := by rw [cell_up2 HBW.out hg1 hg1]; exact hc1
      obtain ⟨x, hx⟩ : ∃ x, la[k] = x := ⟨_, rfl⟩
      have hxl : x < 4294967296 := by rw [← hx]; exact HLA.out.ok.get hkA
      rw [hx] at cA
      subst hp1
      have htp : t < 2 ^ n := HT.out
      have hp32 : 2 ^ n ≤ 4294967296 := by
        rw [show (4294967296 : Nat) = 2 ^ 32 by decide]; exact Nat.pow_le_pow_right (by decide) (by omega)
      obtain ⟨h1, h2, y, h3⟩ := shift_room (by omega) hxl htp
      have hst := up_step HS.out hkA hx HV.out
      obtain ⟨z, hz⟩ : ∃ z, x * 2 ^ n = z := ⟨_, rfl⟩
      have hzl : z < 18446744073709551616 := by
        rw [← hz]
        have := Nat.mul_le_mul (show x ≤ 4294967295 by omega) hp32
        omega
      have qz : IntKind.u64.wrap ((x : Int) * 2 ^ n) = (z : Int) := by
        have e : (x : Int) * 2 ^ n = (z : Int) := by rw [← hz]; simp
        rw [e, IntKind.wrap_u64]; omega
      rw [hz] at h1 h2 h3 hst
      obtain ⟨lo, hlo⟩ : ∃ lo, z % 4294967296 = lo := ⟨_, rfl⟩
      obtain ⟨hi, hhi⟩ : ∃ hi, z / 4294967296 = hi := ⟨_, rfl⟩
      rw [hlo] at h1 h3 hst
      rw [hhi] at h2 hst
      obtain ⟨s, hs⟩ : ∃ s, t + lo = s := ⟨_, rfl⟩
      rw [hs] at h1 hst
      have q1 : (z : Int) % 4294967296 = (lo : Int) := by omega
      have q2 : (z : Int) / 4294967296 = (hi : Int) := by omega
      have q3 : bits .or .u32 (t : Int) (lo : Int) = (s : Int) := by rw [u32_or_nat _ _ (by omega) (by omega), h3, shl_join htp, ← h3, hs]
      have q4 : (hi : Int) % 4294967296 = (hi : Int) := by omega
      obtain ⟨m, hm⟩ : ∃ m, na - k = m + 1 := ⟨na - k - 1, by omega⟩
      have hm2 : na - (k + 1) = m := by omega
      have HC2 : Hid (wo.heap[g]? = some (.cells (cellsK .u32 (S ++ t :: List.replicate (m + 1) 0)) 52 (0, 0))) := Lib.hid (by rw [← hm]; exact HC.out)
      have c1 : wo.cell? ⟨g, k, none⟩ = some (.int .u32 (t : Int)) := by rw [Lib.cell_of_heap HC2.out]; exact cellsK_some (by rw [← HS.out]; simp)
      have hfr : ∀ j, wo.frozen? ⟨g, j, none⟩ = false := fun j => Lib.frozen_of_heap HC.out _
      have hf1 := hfr k; have hf2 := hfr (k + 1)
      have HC3 := Lib.hid (set_block (i := k) (x := s) HC2.out)
      obtain ⟨z2, hz2⟩ : ∃ z, (wo.setCell ⟨g, k, none⟩ (.int .u32 (s : Int))).cell? ⟨g, k + 1, none⟩ = some z := by rw [Lib.cell_of_heap HC3.out]; exact ⟨_, cellsK_get (by simp [HS.out])⟩
      have hf3 : (wo.setCell ⟨g, k, none⟩ (.int .u32 (s : Int))).frozen? ⟨g, k + 1, none⟩ = false := Lib.frozen_of_heap HC3.out _
      have HST := Lib.hid hst
      have HSS := Lib.hid (set_two S s hi t m)
      have HM := Lib.hid hm2; have H1 := Lib.hid h1; have H2 := Lib.hid h2
      clear hst hz hlo hhi hs hx hc1 h1 h2 h3 hm hm2 htp hp32 hfr hzl
      go_wp2_with fail
      go_roundw
      case rel => exact ⟨k + 1, hi, S ++ [s], by omega, by go_num, H2, Lib.hid (by simp [HS.out]), Lib.hid (okB_snoc HO.out H1.out), Lib.hid HST.out, Lib.hid (by rw [HM.out, ← HSS.out, HS.out]; exact set_block HC3.out), Lib.hid ((HBW.out.setCell (p := ⟨g, k, none⟩) hgw _).setCell (p := ⟨g, k + 1, none⟩) hgw _)⟩
      case measure => simp [intOf]; omega
    · have hge : (na : Int) ≤ (k : Int) := by omega
      obtain rfl : k = na := by omega
      have HF : Hid (S ++ [t] = fixd 4294967296 (k + 1) (valB 4294967296 la * 2 ^ n)) := Lib.hid (by
        have hp32 : 2 ^ n ≤ 4294967296 := by
          rw [show (4294967296 : Nat) = 2 ^ 32 by decide]; exact Nat.pow_le_pow_right (by decide) (by omega)
        have h := fixd_of (B := 4294967296) (by decide) (okB_snoc HO.out (show t < 4294967296 by have := HT.out; omega))
        rw [HV.out, List.take_of_length_le (by have := HNA.out; omega), List.length_append, HS.out] at h
        exact h)
      go_wp2_with fail
      go_ret
      exact ⟨g, rfl, hgw, by have := HC.out; rw [Nat.sub_self, List.replicate_zero, HF.out] at this; exact this, HG.out ▸ HBW.out⟩
end Go.Proofs.YtakbkbmjeanboaaGreatDoor
