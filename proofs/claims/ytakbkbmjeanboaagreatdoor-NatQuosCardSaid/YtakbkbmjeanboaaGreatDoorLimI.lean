/- down of package nat. Each theorem names its conditions. -/
import Derived.Test.YtakbkbmjeanboaaGreatDoorLimH
import Derived.Test.YtakbkbmjeanboaaGreatDoorLimC
namespace Go.Proofs.YtakbkbmjeanboaaGreatDoor
open Go.RowKit Go.Shelf
open Dgt
set_option linter.unusedVariables false

theorem down_digit {la : List Nat} (ho : okB 4294967296 la) {k n : Nat} (hk : k < la.length) (hn : n ≤ 32) :
    valB 4294967296 la / 2 ^ n / 4294967296 ^ k % 4294967296 = (la[k] / 2 ^ n + 2 ^ (32 - n) * valB 4294967296 (la.drop (k + 1))) % 4294967296 := by
  have h := valB_split 4294967296 la k
  rw [Nat.min_eq_left (Nat.le_of_lt hk)] at h
  have h1 : valB 4294967296 (la.take k) < 4294967296 ^ k := by
    have := valB_lt (ho.take k)
    rwa [List.length_take, Nat.min_eq_left (Nat.le_of_lt hk)] at this
  have e1 : valB 4294967296 la / 4294967296 ^ k = valB 4294967296 (la.drop k) := by
    rw [h, Nat.add_mul_div_left _ _ (Nat.pow_pos (by decide)), Nat.div_eq_of_lt h1, Nat.zero_add]
  rw [Nat.div_div_eq_div_mul, Nat.mul_comm, ← Nat.div_div_eq_div_mul, e1, List.drop_eq_getElem_cons hk, valB]
  congr 1
  rw [show 4294967296 * valB 4294967296 (la.drop (k + 1)) = 2 ^ n * (2 ^ (32 - n) * valB 4294967296 (la.drop (k + 1))) by rw [← Nat.mul_assoc, ← pow_split hn], Nat.add_mul_div_left _ _ (Nat.pow_pos (by decide))]
theorem down_small {x n : Nat} (hn : n ≤ 32) (hx : x < 4294967296) : x / 2 ^ n < 2 ^ (32 - n) := by
  rw [Nat.div_lt_iff_lt_mul (Nat.pow_pos (by decide)), Nat.mul_comm, ← pow_split hn]; exact hx
theorem down_mid {la : List Nat} (ho : okB 4294967296 la) {k n x y : Nat} (hk : k + 1 < la.length) (hn : n ≤ 32) (hx : la[k] = x) (hy : la[k + 1] = y) :
    valB 4294967296 la / 2 ^ n / 4294967296 ^ k % 4294967296 = x / 2 ^ n + y * 2 ^ (32 - n) % 4294967296 ∧ x / 2 ^ n + y * 2 ^ (32 - n) % 4294967296 < 4294967296 ∧ ∃ z, y * 2 ^ (32 - n) % 4294967296 = z * 2 ^ (32 - n) := by
  have hxl : x < 4294967296 := by rw [← hx]; exact ho.get (by omega)
  have hyl : y < 4294967296 := by rw [← hy]; exact ho.get hk
  obtain ⟨h1, -, h3⟩ := shift_room (x := y) (n := 32 - n) (t := x / 2 ^ n) (by omega) hyl (down_small hn hxl)
  refine ⟨?_, h1, h3⟩
  rw [down_digit ho (by omega) hn, hx, List.drop_eq_getElem_cons hk, valB, hy, Nat.mul_add, Nat.mul_left_comm, ← Nat.add_assoc, Nat.add_mul_mod_self_left, Nat.mul_comm _ y, Nat.add_mod, Nat.mod_eq_of_lt (Nat.lt_of_lt_of_le (down_small hn hxl) (by rw [show (4294967296 : Nat) = 2 ^ 32 by decide]; exact Nat.pow_le_pow_right (by decide) (by omega))), Nat.mod_eq_of_lt h1]
theorem down_last {la : List Nat} (ho : okB 4294967296 la) {k n x : Nat} (hk : k + 1 = la.length) (hn : n ≤ 32) (hx : la[k] = x) :
    valB 4294967296 la / 2 ^ n / 4294967296 ^ k % 4294967296 = x / 2 ^ n := by
  have hxl : x < 4294967296 := by rw [← hx]; exact ho.get (by omega)
  rw [down_digit ho (by omega) hn, hx, List.drop_eq_nil_of_le (by omega), valB, Nat.mul_zero, Nat.add_zero, Nat.mod_eq_of_lt (Nat.lt_of_le_of_lt (Nat.div_le_self _ _) hxl)]
/-- the digits so far, zeros behind -/
theorem set_fix {R : List Nat} {n k x m : Nat} (hR : R.length = n) (hk : k < n) (hm : n - k = m + 1) (hx : R[k]'(by omega) = x) : (R.take k ++ List.replicate (n - k) 0).set k x = R.take (k + 1) ++ List.replicate m 0 := by
  have h := set_zeros (R.take k) x m
  rw [List.length_take, Nat.min_eq_left (by omega)] at h
  rw [hm, h, List.take_succ_eq_append_getElem (by omega), hx]
set_option maxHeartbeats 8000000 in
set_option maxRecDepth 100000 in
theorem down_any (va : Value) (la : List Nat) (n : Nat) (w : World) (ha : Lim w va la) (hla : la.length ≤ 1000000000) (hn : n < 32) :
    Calls Tryz.prog 73 #[va, .int .i64 (n : Int)] w fun e w' => ∃ v', e = .returned v' ∧ Lim w' v' (digs 4294967296 (valB 4294967296 la / 2 ^ n)) ∧ Below w.heap.size w w' := by
  obtain ⟨pa, na, ca, rfl, hna, hca, hcma⟩ := ha.open_
  have HLA := Lib.hid ha
  have hna1 : (na : Int) ≤ 1000000000 := by omega
  have HNA := Lib.hid hna
  have hmk := mk_limbs na (na : Int) rfl (by omega)
  have hn' : (n : Int) ≤ 32 := by omega
  clear ha hna hla hca hcma
  go_enter Tryz.func73, Tryz.ntmps73
  go_wp2_with fail
  clear hmk
  have HB := Lib.hid ((Below.refl w.heap.size w).alloc (Nat.le_refl _) (.cells (cellsK .u32 (List.replicate na 0)) 52))
  have HK := Lib.hid (heap_alloc_new w (.cells (cellsK .u32 (List.replicate na 0)) 52))
  obtain ⟨w0, hw0⟩ : ∃ w0, w.alloc (.cells (cellsK .u32 (List.replicate na 0)) 52) = w0 := ⟨_, rfl⟩
  rw [hw0] at HB HK ⊢
  obtain ⟨g, hg⟩ : ∃ g, w.heap.size = g := ⟨_, rfl⟩
  have hgw : w.heap.size ≤ g := Nat.le_of_eq hg
  rw [hg] at HK ⊢
  have HG := Lib.hid hg
  clear hw0 hg
  obtain ⟨R, hR⟩ : ∃ R, fixd 4294967296 na (valB 4294967296 la / 2 ^ n) = R := ⟨_, rfl⟩
  have hRl : R.length = na := by rw [← hR, fixd_len]
  have HRL := Lib.hid hRl
  have HR := Lib.hid hR
  clear hR hRl
  go_loopw [13, 6, 7] (fun i _ _ wr => ∃ k : Nat, k ≤ na ∧ i = .int .i64 (k : Int) ∧
      Hid (wr.heap[g]? = some (.cells (cellsK .u32 (R.take k ++ List.replicate (na - k) 0)) 52 (0, 0))) ∧ Hid (Below w.heap.size w wr)) (fun i _ _ _ => na - (intOf i).toNat)
  case atStart => exact ⟨0, by omega, rfl, Lib.hid (by simpa using HK.out), HB⟩
  case round =>
    obtain ⟨k, hk, rfl, HC, HBW⟩ := hrel
    obtain ⟨wo, hwo⟩ : ∃ wo, wo = wr := ⟨_, rfl⟩
    subst hwo
    by_cases hlt : k < na
    · have hlt' : (k : Int) < (na : Int) := by omega
      have hkA : k < la.length := by have := HNA.out; omega
      obtain ⟨g1, off1, hp1, hg1, hc1⟩ := HLA.out.cell hkA
      have cA : wo.cell? ⟨g1, off1 + k, none⟩ = some (.int .u32 (la[k] : Int)) := by rw [cell_up2 HBW.out hg1 hg1]; exact hc1
      obtain ⟨x, hx⟩ : ∃ x, la[k] = x := ⟨_, rfl⟩
      have hxl : x < 4294967296 := by rw [← hx]; exact HLA.out.ok.get hkA
      rw [hx] at cA
      subst hp1
      obtain ⟨m, hm⟩ : ∃ m, na - k = m + 1 := ⟨na - k - 1, by omega⟩
      have hm2 : na - (k + 1) = m := by omega
      have hRk : R[k]'(by rw [HRL.out]; exact hlt) = valB 4294967296 la / 2 ^ n / 4294967296 ^ k % 4294967296 := by
        have h2 := fixd_get 4294967296 na (valB 4294967296 la / 2 ^ n) k (by rw [fixd_len]; exact hlt)
        simp only [HR.out] at h2
        exact h2
      obtain ⟨t, ht⟩ : ∃ t, x / 2 ^ n = t := ⟨_, rfl⟩
      have htl : t < 4294967296 := by rw [← ht]; exact Nat.lt_of_le_of_lt (Nat.div_le_self _ _) hxl
      have hts : t < 2 ^ (32 - n) := by rw [← ht]; exact down_small (by omega) hxl
      have q0 : (x : Int) / 2 ^ n = (t : Int) := by rw [← ht]; simp
      have hfr : wo.frozen? ⟨g, k, none⟩ = false := Lib.frozen_of_heap HC.out _
      obtain ⟨c0, hc0⟩ : ∃ z, wo.cell? ⟨g, k, none⟩ = some z := by rw [Lib.cell_of_heap HC.out]; exact ⟨_, cellsK_get (by simp [HRL.out]; omega)⟩
      have HC3 := Lib.hid (set_block (i := k) (x := t) HC.out)
      have HTS := Lib.hid hts
      by_cases hk1 : k + 1 < na
      · have hk1' : (k : Int) + 1 < (na : Int) := by omega
        have hkA1 : k + 1 < la.length := by have := HNA.out; omega
        obtain ⟨g2, off2, hp2, hg2, hc2⟩ := HLA.out.cell hkA1
        obtain ⟨rfl, rfl⟩ : g2 = g1 ∧ off2 = off1 := by injection hp2 with e; injection e with e1 e2 _; exact ⟨e1.symm, e2.symm⟩
        obtain ⟨y, hy⟩ : ∃ y, la[k + 1] = y := ⟨_, rfl⟩
        have hyl : y < 4294967296 := by rw [← hy]; exact HLA.out.ok.get hkA1
        rw [hy] at hc2
        obtain ⟨e1, e2, z, e3⟩ := down_mid HLA.out.ok hkA1 (n := n) (by omega) hx hy
        rw [ht] at e1 e2
        obtain ⟨sh, hsh⟩ : ∃ sh, 32 - n = sh := ⟨_, rfl⟩
        rw [hsh] at e1 e2 e3 hts
        have hp32 : 2 ^ sh ≤ 4294967296 := by
          rw [show (4294967296 : Nat) = 2 ^ 32 by decide]; exact Nat.pow_le_pow_right (by decide) (by omega)
        obtain ⟨u, hu⟩ : ∃ u, y * 2 ^ sh = u := ⟨_, rfl⟩
        have hul : u < 18446744073709551616 := by
          rw [← hu]
          have := Nat.mul_le_mul (show y ≤ 4294967295 by omega) hp32
          omega
        have qu : IntKind.u64.wrap ((y : Int) * 2 ^ sh) = (u : Int) := by
          have e : (y : Int) * 2 ^ sh = (u : Int) := by rw [← hu]; simp
          rw [e, IntKind.wrap_u64]; omega
        rw [hu] at e1 e2 e3
        obtain ⟨lo, hlo⟩ : ∃ lo, u % 4294967296 = lo := ⟨_, rfl⟩
        rw [hlo] at e1 e2 e3
        obtain ⟨s, hs⟩ : ∃ s, t + lo = s := ⟨_, rfl⟩
        rw [hs] at e1 e2
        have q1 : IntKind.u32.wrap (u : Int) = (lo : Int) := by rw [IntKind.wrap_u32']; omega
        have q3 : bits .or .u32 (t : Int) (lo : Int) = (s : Int) := by rw [u32_or_nat _ _ (by omega) (by omega), e3, shl_join hts, ← e3, hs]
        have q4 : IntKind.i64.wrap ((k : Int) + 1) = ((k + 1 : Nat) : Int) := by rw [IntWalk.i64_in _ (by omega)]; omega
        have q5 : IntKind.i64.wrap (32 - (n : Int)) = (sh : Int) := by rw [IntWalk.i64_in _ (by omega)]; omega
        have q6 : IntKind.u64.wrap (y : Int) = (y : Int) := by rw [IntKind.wrap_u64]; omega
        have hsh2 : sh ≤ 64 := by omega
        have HSS := Lib.hid (set_fix (x := s) HRL.out hlt hm (by rw [hRk]; exact e1))
        have HM := Lib.hid hm2
        clear e1 e2 e3 hu hlo hs hsh hx hy ht hts hp32 hul hRk hm hm2 hc1 htl hxl hyl
        go_wp2_with fail
        obtain ⟨V, hV⟩ : ∃ V, wo.setCell ⟨g, k, none⟩ (.int .u32 (t : Int)) = V := ⟨_, rfl⟩
        have HBV := Lib.hid (HBW.out.setCell (p := ⟨g, k, none⟩) hgw (.int .u32 (t : Int)))
        rw [hV] at HBV HC3 ⊢
        have HRk := Lib.hid HRL.out
        have c1 : V.cell? ⟨g, k, none⟩ = some (.int .u32 (t : Int)) := by
          rw [Lib.cell_of_heap HC3.out]; exact cellsK_some (List.getElem?_set_self (by rw [List.length_append, List.length_take, List.length_replicate, HRL.out]; omega))
        have c2 : V.cell? ⟨g2, off2 + (k + 1), none⟩ = some (.int .u32 (y : Int)) := by rw [cell_up2 HBV.out hg2 hg2]; exact hc2
        have hf2 : V.frozen? ⟨g, k, none⟩ = false := Lib.frozen_of_heap HC3.out _
        have q7 : (0 : Int) ≤ (k : Int) + 1 := by omega
        clear hV cA hc2 hc0 hfr
        refine wp_region_still_tail 16 (by kernel_rfl) (by kernel_rfl) ?_
        simp only [List.take_succ_cons, List.take_zero, List.drop_succ_cons, List.drop_zero]
        iterate 16 still_step
        refine wpStill_nil ?_
        clear q0 q1 q3 q4 q5 q6 q7 qu
        change wpList _ _ _ _ _ V.drew
        go_wp2_with fail
        go_roundw
        case rel => exact ⟨k + 1, by omega, by go_num, Lib.hid (by have h := set_block (i := k) (x := s) HC3.out; rw [List.set_set] at h; rw [HM.out, ← HSS.out]; exact h), Lib.hid (HBV.out.setCell (p := ⟨g, k, none⟩) hgw _).drew⟩
        case measure => simp [intOf]; omega
      · have hk1' : ¬ (k : Int) + 1 < (na : Int) := by omega
        have HSS := Lib.hid (set_fix (x := t) HRL.out hlt hm (by rw [hRk, down_last HLA.out.ok (by have := HNA.out; omega) (by omega) hx, ht]))
        have HM := Lib.hid hm2
        clear hRk hx ht hm hm2 hc1 hts
        go_wp2_with fail
        go_roundw
        case rel => exact ⟨k + 1, by omega, by go_num, Lib.hid (by rw [HM.out, ← HSS.out]; exact HC3.out), Lib.hid (HBW.out.setCell (p := ⟨g, k, none⟩) hgw _)⟩
        case measure => simp [intOf]; omega
    · have hge : (na : Int) ≤ (k : Int) := by omega
      obtain rfl : k = na := by omega
      have HL : Hid (Lim wo (.slice (some ⟨g, 0, none⟩) k k) R) := Lib.hid (by
        have h := LimK.block (kd := .u32) (B := 4294967296) (W := wo) (g := g) (cap := k) (l := R) (by rw [← HR.out]; exact fixd_ok (by decide) _ _) (cs := cellsK .u32 R) (t := 52) (by
          have := HC.out
          rwa [Nat.sub_self, List.replicate_zero, List.append_nil, List.take_of_length_le (by rw [HRL.out]; omega)] at this) (fun i h => cellsK_get h) (by rw [HRL.out]; omega) (by omega)
        rwa [HRL.out] at h)
      have HV2 : Hid (trimL 4294967296 R = digs 4294967296 (valB 4294967296 la / 2 ^ n)) := Lib.hid (by
        rw [← HR.out]
        apply trimL_fixd
        have h1 := valB_lt HLA.out.ok
        rw [← HNA.out] at h1
        exact Nat.lt_of_le_of_lt (Nat.div_le_self _ _) h1)
      go_wp2_with fail
      refine (trim_any _ _ _ HL.out).mono ?_
      rintro e w' ⟨v', rfl, hv, rfl⟩
      go_wp2_with fail
      go_ret
      exact ⟨_, rfl, by rw [← HV2.out]; exact hv, HG.out ▸ HBW.out⟩
end Go.Proofs.YtakbkbmjeanboaaGreatDoor
