/- compare, sum and less of package nat. Each theorem names its conditions. -/
import Derived.Test.YtakbkbmjeanboaaGreatDoorLimC
import Derived.BigQuiet
namespace Go.Proofs.YtakbkbmjeanboaaGreatDoor
open Go.RowKit Go.Shelf
open Dgt
set_option linter.unusedVariables false

/-! ### carries -/
theorem carry_step {B : Nat} {S : List Nat} (s : Nat) : valB B (S ++ [s % B]) + B ^ (S.length + 1) * (s / B) = valB B S + B ^ S.length * s := by
  rw [valB_snoc, Nat.pow_succ, Nat.mul_assoc, Nat.add_assoc, ← Nat.mul_add, Nat.mod_add_div]
theorem set_here (S T : List Nat) (x y : Nat) : (S ++ y :: T).set S.length x = (S ++ [x]) ++ T := by simp
theorem set_zeros (S : List Nat) (x m : Nat) : (S ++ List.replicate (m + 1) 0).set S.length x = (S ++ [x]) ++ List.replicate m 0 := by
  rw [List.replicate_succ]; exact set_here S _ x 0
theorem take_all_succ {l : List Nat} {k : Nat} (h : l.length ≤ k) (B : Nat) : valB B (l.take (k + 1)) = valB B (l.take k) := by
  rw [List.take_of_length_le h, List.take_of_length_le (by omega)]
theorem sum_step {B k c x y : Nat} {S la lb : List Nat} (hB : 2 ≤ B) (hS : S.length = k) (ho : okB B S) (hv : valB B S + B ^ k * c = valB B (la.take k) + valB B (lb.take k)) (hc : c ≤ 1) (hk : k < la.length) (hx : la[k] = x) (hxl : x < B) (hyl : y < B)
    (hy : valB B (lb.take (k + 1)) = valB B (lb.take k) + B ^ k * y) :
    valB B (S ++ [(x + c + y) % B]) + B ^ (k + 1) * ((x + c + y) / B) = valB B (la.take (k + 1)) + valB B (lb.take (k + 1)) ∧ okB B (S ++ [(x + c + y) % B]) ∧ (x + c + y) / B ≤ 1 := by
  have h := carry_step (B := B) (S := S) (x + c + y)
  rw [hS] at h
  have e : B ^ k * (x + c + y) = B ^ k * x + B ^ k * c + B ^ k * y := by rw [Nat.mul_add, Nat.mul_add]
  rw [e] at h
  refine ⟨?_, ho.append fun z hz => ?_, ?_⟩
  · rw [valB_take_succ hk, hy, hx]; omega
  · simp only [List.mem_singleton] at hz
    subst hz; exact Nat.mod_lt _ (by omega)
  · have : (x + c + y) / B < 2 := by rw [Nat.div_lt_iff_lt_mul (by omega)]; omega
    omega
theorem less_step {k c x y r c' : Nat} {S la lb : List Nat} (hS : S.length = k) (ho : okB 4294967296 S) (hv : valB 4294967296 S + valB 4294967296 (lb.take k) = valB 4294967296 (la.take k) + 4294967296 ^ k * c) (hk : k < la.length) (hx : la[k] = x)
    (hr : r < 4294967296) (hy : valB 4294967296 (lb.take (k + 1)) = valB 4294967296 (lb.take k) + 4294967296 ^ k * y) (he : x + 4294967296 * c' = r + c + y) :
    valB 4294967296 (S ++ [r]) + valB 4294967296 (lb.take (k + 1)) = valB 4294967296 (la.take (k + 1)) + 4294967296 ^ (k + 1) * c' ∧ okB 4294967296 (S ++ [r]) := by
  refine ⟨?_, ho.append fun z hz => ?_⟩
  · rw [valB_take_succ hk, hx, hy, valB_snoc, hS, Nat.pow_succ, Nat.mul_assoc]
    have e := congrArg (4294967296 ^ k * ·) he
    simp only [Nat.mul_add] at e
    omega
  · simp only [List.mem_singleton] at hz
    subst hz; exact hr
set_option maxHeartbeats 4000000 in
set_option maxRecDepth 100000 in
theorem sum_any (va vb : Value) (la lb : List Nat) (w : World) (ha : Lim w va la) (hb : Lim w vb lb) (hla : la.length ≤ 1000000000) (hlb : lb.length ≤ 1000000000) :
    Calls Tryz.prog 63 #[va, vb] w fun e w' => ∃ v', e = .returned v' ∧ Lim w' v' (digs 4294967296 (valB 4294967296 la + valB 4294967296 lb)) ∧ Below w.heap.size w w' := by
  obtain ⟨pa, na, ca, rfl, hna, hca, hcma⟩ := ha.open_
  obtain ⟨pb, nb, cb, rfl, hnb, hcb, hcmb⟩ := hb.open_
  have HLA := Lib.hid ha; have HLB := Lib.hid hb
  have hna1 : na ≤ 1000000000 := by omega
  have hnb1 : nb ≤ 1000000000 := by omega
  have HNA := Lib.hid hna; have HNB := Lib.hid hnb
  clear ha hb hna hnb hla hlb
  by_cases hsw : na < nb
  · have hmk := mk_limbs (nb + 1) ((nb : Int) + 1) (by omega) (by omega)
    have hlt0 : (na : Int) < (nb : Int) := by omega
    have hle : na ≤ nb := by omega
    go_enter Tryz.func63, Tryz.ntmps63
    go_wp2_with fail
    clear hmk hlt0
    have HB := Lib.hid ((Below.refl w.heap.size w).alloc (Nat.le_refl _) (.cells (cellsK .u32 (List.replicate (nb + 1) 0)) 52))
    have HK := Lib.hid (heap_alloc_new w (.cells (cellsK .u32 (List.replicate (nb + 1) 0)) 52))
    obtain ⟨w0, hw0⟩ : ∃ w0, w.alloc (.cells (cellsK .u32 (List.replicate (nb + 1) 0)) 52) = w0 := ⟨_, rfl⟩
    rw [hw0] at HB HK ⊢
    obtain ⟨g, hg⟩ : ∃ g, w.heap.size = g := ⟨_, rfl⟩
    have hgw : w.heap.size ≤ g := Nat.le_of_eq hg
    rw [hg] at HK ⊢
    have HG := Lib.hid hg
    clear hw0 hg
    go_loopw [22, 7, 8, 6] (fun i _ _ cv wr => ∃ (k c : Nat) (S : List Nat), k ≤ nb ∧ i = .int .i64 (k : Int) ∧ cv = .int .u64 (c : Int) ∧ c ≤ 1 ∧ Hid (S.length = k) ∧ Hid (okB 4294967296 S) ∧ Hid (valB 4294967296 S + 4294967296 ^ k * c = valB 4294967296 (lb.take k) + valB 4294967296 (la.take k)) ∧
        Hid (wr.heap[g]? = some (.cells (cellsK .u32 (S ++ List.replicate (nb + 1 - k) 0)) 52 (0, 0))) ∧ Hid (Below w.heap.size w wr)) (fun i _ _ _ _ => nb - (intOf i).toNat)
    case atStart => exact ⟨0, 0, [], by omega, rfl, rfl, by omega, Lib.hid rfl, Lib.hid (okB_nil _), Lib.hid (by simp [valB]), Lib.hid (by simpa using HK.out), HB⟩
    case round =>
      obtain ⟨k, c, S, hk, rfl, rfl, hc, HS, HO, HV, HC, HBW⟩ := hrel
      by_cases hlt : k < nb
      · have hlt' : (k : Int) < (nb : Int) := by omega
        have hkA : k < lb.length := by have := HNB.out; omega
        obtain ⟨g1, off1, hp1, hg1, hc1⟩ := HLB.out.cell hkA
        have cA : wr.cell? ⟨g1, off1 + k, none⟩ = some (.int .u32 (lb[k] : Int)) := by rw [cell_up2 HBW.out hg1 hg1]; exact hc1
        obtain ⟨x, hx⟩ : ∃ x, lb[k] = x := ⟨_, rfl⟩
        have hxl : x < 4294967296 := by rw [← hx]; exact HLB.out.ok.get hkA
        rw [hx] at cA
        subst hp1
        obtain ⟨m, hm⟩ : ∃ m, nb - k = m := ⟨_, rfl⟩
        have hm1 : nb + 1 - k = m + 1 := by omega
        have hm2 : nb + 1 - (k + 1) = m := by omega
        have HC2 : Hid (wr.heap[g]? = some (.cells (cellsK .u32 (S ++ List.replicate (m + 1) 0)) 52 (0, 0))) := Lib.hid (by rw [← hm1]; exact HC.out)
        have hfr : wr.frozen? ⟨g, k, none⟩ = false := Lib.frozen_of_heap HC.out _
        obtain ⟨z, hz⟩ : ∃ z, wr.cell? ⟨g, k, none⟩ = some z := by rw [Lib.cell_of_heap HC2.out]; exact ⟨_, cellsK_get (by simp [HS.out])⟩
        by_cases hkb : k < na
        · have hkb' : (k : Int) < (na : Int) := by omega
          have hkB : k < la.length := by have := HNA.out; omega
          obtain ⟨g2, off2, hp2, hg2, hc2⟩ := HLA.out.cell hkB
          have cB : wr.cell? ⟨g2, off2 + k, none⟩ = some (.int .u32 (la[k] : Int)) := by rw [cell_up2 HBW.out hg2 hg2]; exact hc2
          obtain ⟨y, hy⟩ : ∃ y, la[k] = y := ⟨_, rfl⟩
          have hyl : y < 4294967296 := by rw [← hy]; exact HLA.out.ok.get hkB
          rw [hy] at cB
          subst hp2
          have hst := sum_step (by decide) HS.out HO.out HV.out hc hkA hx hxl hyl (by rw [valB_take_succ hkB, hy])
          obtain ⟨r, hr⟩ : ∃ r, (x + c + y) % 4294967296 = r := ⟨_, rfl⟩
          obtain ⟨c', hc'⟩ : ∃ c', (x + c + y) / 4294967296 = c' := ⟨_, rfl⟩
          rw [hr, hc'] at hst
          have q1 : ((x : Int) + (c : Int) + (y : Int)) % 4294967296 = (r : Int) := by omega
          have q2 : ((x : Int) + (c : Int) + (y : Int)) / 4294967296 = (c' : Int) := by omega
          have HST := Lib.hid hst
          have HM := Lib.hid hm2
          have HSS := Lib.hid (set_zeros S r m)
          clear hst hr hc' hx hy hm hm1 hm2 hc1 hc2
          go_wp2_with fail
          go_roundw
          case rel => exact ⟨k + 1, c', S ++ [r], by omega, by go_num, rfl, HST.out.2.2, Lib.hid (by simp [HS.out]), Lib.hid HST.out.2.1, Lib.hid HST.out.1, Lib.hid (by rw [HM.out, ← HSS.out, HS.out]; exact set_block HC2.out), Lib.hid (HBW.out.setCell (p := ⟨g, k, none⟩) hgw _)⟩
          case measure => simp [intOf]; omega
        · have hkb' : ¬ (k : Int) < (na : Int) := by omega
          have hst := sum_step (y := 0) (lb := la) (by decide) HS.out HO.out HV.out hc hkA hx hxl (by decide) (by rw [take_all_succ (by have := HNA.out; omega)]; simp)
          obtain ⟨r, hr⟩ : ∃ r, (x + c + 0) % 4294967296 = r := ⟨_, rfl⟩
          obtain ⟨c', hc'⟩ : ∃ c', (x + c + 0) / 4294967296 = c' := ⟨_, rfl⟩
          rw [hr, hc'] at hst
          have q1 : ((x : Int) + (c : Int)) % 4294967296 = (r : Int) := by omega
          have q2 : ((x : Int) + (c : Int)) / 4294967296 = (c' : Int) := by omega
          have HST := Lib.hid hst
          have HM := Lib.hid hm2
          have HSS := Lib.hid (set_zeros S r m)
          clear hst hr hc' hx hm hm1 hm2 hc1
          go_wp2_with fail
          go_roundw
          case rel => exact ⟨k + 1, c', S ++ [r], by omega, by go_num, rfl, HST.out.2.2, Lib.hid (by simp [HS.out]), Lib.hid HST.out.2.1, Lib.hid HST.out.1, Lib.hid (by rw [HM.out, ← HSS.out, HS.out]; exact set_block HC2.out), Lib.hid (HBW.out.setCell (p := ⟨g, k, none⟩) hgw _)⟩
          case measure => simp [intOf]; omega
      · have hge : (nb : Int) ≤ (k : Int) := by omega
        obtain rfl : k = nb := by omega
        have HC2 : Hid (wr.heap[g]? = some (.cells (cellsK .u32 (S ++ List.replicate (0 + 1) 0)) 52 (0, 0))) := Lib.hid (by
          have := HC.out
          rwa [show k + 1 - k = 0 + 1 by omega] at this)
        have HSS := Lib.hid (set_zeros S c 0)
        have hfr : wr.frozen? ⟨g, k, none⟩ = false := Lib.frozen_of_heap HC.out _
        obtain ⟨z, hz⟩ : ∃ z, wr.cell? ⟨g, k, none⟩ = some z := by rw [Lib.cell_of_heap HC2.out]; exact ⟨_, cellsK_get (by simp [HS.out])⟩
        have q1 : (c : Int) % 4294967296 = (c : Int) := by omega
        have HL : Hid (Lim (wr.setCell ⟨g, k, none⟩ (.int .u32 (c : Int))) (.slice (some ⟨g, 0, none⟩) (k + 1) (k + 1)) (S ++ [c])) := Lib.hid (by
          have h := LimK.block (kd := .u32) (B := 4294967296) (W := wr.setCell ⟨g, k, none⟩ (.int .u32 (c : Int))) (g := g) (cap := k + 1) (l := S ++ [c]) (HO.out.append fun y hy => by simp at hy; omega) (cs := cellsK .u32 (S ++ [c])) (t := 52) (by
            have h1 := HSS.out
            rw [HS.out] at h1
            have := set_block (i := k) (x := c) HC2.out
            rw [h1] at this
            simpa using this) (fun i h => cellsK_get h) (by simp [HS.out]) (by omega)
          rwa [show (S ++ [c]).length = k + 1 by simp [HS.out]] at h)
        have HBW := Lib.hid (HBW.out.setCell (p := ⟨g, k, none⟩) hgw (.int .u32 (c : Int)))
        have HV2 : Hid (trimL 4294967296 (S ++ [c]) = digs 4294967296 (valB 4294967296 la + valB 4294967296 lb)) := Lib.hid (by
          unfold trimL
          have h := HV.out
          rw [List.take_of_length_le (l := lb) (by have := HNB.out; omega), List.take_of_length_le (l := la) (by have := HNA.out; omega)] at h
          rw [valB_snoc, HS.out, h, Nat.add_comm])
        go_wp2_with fail
        refine (trim_any _ _ _ HL.out).mono ?_
        rintro e w' ⟨v', rfl, hv, rfl⟩
        go_wp2_with fail
        go_ret
        exact ⟨_, rfl, by rw [← HV2.out]; exact hv, HG.out ▸ HBW.out⟩
  · have hmk := mk_limbs (na + 1) ((na : Int) + 1) (by omega) (by omega)
    have hlt0 : ¬ (na : Int) < (nb : Int) := by omega
    have hle : nb ≤ na := by omega
    go_enter Tryz.func63, Tryz.ntmps63
    go_wp2_with fail
    clear hmk hlt0
    have HB := Lib.hid ((Below.refl w.heap.size w).alloc (Nat.le_refl _) (.cells (cellsK .u32 (List.replicate (na + 1) 0)) 52))
    have HK := Lib.hid (heap_alloc_new w (.cells (cellsK .u32 (List.replicate (na + 1) 0)) 52))
    obtain ⟨w0, hw0⟩ : ∃ w0, w.alloc (.cells (cellsK .u32 (List.replicate (na + 1) 0)) 52) = w0 := ⟨_, rfl⟩
    rw [hw0] at HB HK ⊢
    obtain ⟨g, hg⟩ : ∃ g, w.heap.size = g := ⟨_, rfl⟩
    have hgw : w.heap.size ≤ g := Nat.le_of_eq hg
    rw [hg] at HK ⊢
    have HG := Lib.hid hg
    clear hw0 hg
    go_loopw [22, 7, 8, 6] (fun i _ _ cv wr => ∃ (k c : Nat) (S : List Nat), k ≤ na ∧ i = .int .i64 (k : Int) ∧ cv = .int .u64 (c : Int) ∧ c ≤ 1 ∧ Hid (S.length = k) ∧ Hid (okB 4294967296 S) ∧ Hid (valB 4294967296 S + 4294967296 ^ k * c = valB 4294967296 (la.take k) + valB 4294967296 (lb.take k)) ∧
        Hid (wr.heap[g]? = some (.cells (cellsK .u32 (S ++ List.replicate (na + 1 - k) 0)) 52 (0, 0))) ∧ Hid (Below w.heap.size w wr)) (fun i _ _ _ _ => na - (intOf i).toNat)
    case atStart => exact ⟨0, 0, [], by omega, rfl, rfl, by omega, Lib.hid rfl, Lib.hid (okB_nil _), Lib.hid (by simp [valB]), Lib.hid (by simpa using HK.out), HB⟩
    case round =>
      obtain ⟨k, c, S, hk, rfl, rfl, hc, HS, HO, HV, HC, HBW⟩ := hrel
      by_cases hlt : k < na
      · have hlt' : (k : Int) < (na : Int) := by omega
        have hkA : k < la.length := by have := HNA.out; omega
        obtain ⟨g1, off1, hp1, hg1, hc1⟩ := HLA.out.cell hkA
        have cA : wr.cell? ⟨g1, off1 + k, none⟩ = some (.int .u32 (la[k] : Int)) := by rw [cell_up2 HBW.out hg1 hg1]; exact hc1
        obtain ⟨x, hx⟩ : ∃ x, la[k] = x := ⟨_, rfl⟩
        have hxl : x < 4294967296 := by rw [← hx]; exact HLA.out.ok.get hkA
        rw [hx] at cA
        subst hp1
        obtain ⟨m, hm⟩ : ∃ m, na - k = m := ⟨_, rfl⟩
        have hm1 : na + 1 - k = m + 1 := by omega
        have hm2 : na + 1 - (k + 1) = m := by omega
        have HC2 : Hid (wr.heap[g]? = some (.cells (cellsK .u32 (S ++ List.replicate (m + 1) 0)) 52 (0, 0))) := Lib.hid (by rw [← hm1]; exact HC.out)
        have hfr : wr.frozen? ⟨g, k, none⟩ = false := Lib.frozen_of_heap HC.out _
        obtain ⟨z, hz⟩ : ∃ z, wr.cell? ⟨g, k, none⟩ = some z := by rw [Lib.cell_of_heap HC2.out]; exact ⟨_, cellsK_get (by simp [HS.out])⟩
        by_cases hkb : k < nb
        · have hkb' : (k : Int) < (nb : Int) := by omega
          have hkB : k < lb.length := by have := HNB.out; omega
          obtain ⟨g2, off2, hp2, hg2, hc2⟩ := HLB.out.cell hkB
          have cB : wr.cell? ⟨g2, off2 + k, none⟩ = some (.int .u32 (lb[k] : Int)) := by rw [cell_up2 HBW.out hg2 hg2]; exact hc2
          obtain ⟨y, hy⟩ : ∃ y, lb[k] = y := ⟨_, rfl⟩
          have hyl : y < 4294967296 := by rw [← hy]; exact HLB.out.ok.get hkB
          rw [hy] at cB
          subst hp2
          have hst := sum_step (by decide) HS.out HO.out HV.out hc hkA hx hxl hyl (by rw [valB_take_succ hkB, hy])
          obtain ⟨r, hr⟩ : ∃ r, (x + c + y) % 4294967296 = r := ⟨_, rfl⟩
          obtain ⟨c', hc'⟩ : ∃ c', (x + c + y) / 4294967296 = c' := ⟨_, rfl⟩
          rw [hr, hc'] at hst
          have q1 : ((x : Int) + (c : Int) + (y : Int)) % 4294967296 = (r : Int) := by omega
          have q2 : ((x : Int) + (c : Int) + (y : Int)) / 4294967296 = (c' : Int) := by omega
          have HST := Lib.hid hst
          have HM := Lib.hid hm2
          have HSS := Lib.hid (set_zeros S r m)
          clear hst hr hc' hx hy hm hm1 hm2 hc1 hc2
          go_wp2_with fail
          go_roundw
          case rel => exact ⟨k + 1, c', S ++ [r], by omega, by go_num, rfl, HST.out.2.2, Lib.hid (by simp [HS.out]), Lib.hid HST.out.2.1, Lib.hid HST.out.1, Lib.hid (by rw [HM.out, ← HSS.out, HS.out]; exact set_block HC2.out), Lib.hid (HBW.out.setCell (p := ⟨g, k, none⟩) hgw _)⟩
          case measure => simp [intOf]; omega
        · have hkb' : ¬ (k : Int) < (nb : Int) := by omega
          have hst := sum_step (y := 0) (lb := lb) (by decide) HS.out HO.out HV.out hc hkA hx hxl (by decide) (by rw [take_all_succ (by have := HNB.out; omega)]; simp)
          obtain ⟨r, hr⟩ : ∃ r, (x + c + 0) % 4294967296 = r := ⟨_, rfl⟩
          obtain ⟨c', hc'⟩ : ∃ c', (x + c + 0) / 4294967296 = c' := ⟨_, rfl⟩
          rw [hr, hc'] at hst
          have q1 : ((x : Int) + (c : Int)) % 4294967296 = (r : Int) := by omega
          have q2 : ((x : Int) + (c : Int)) / 4294967296 = (c' : Int) := by omega
          have HST := Lib.hid hst
          have HM := Lib.hid hm2
          have HSS := Lib.hid (set_zeros S r m)
          clear hst hr hc' hx hm hm1 hm2 hc1
          go_wp2_with fail
          go_roundw
          case rel => exact ⟨k + 1, c', S ++ [r], by omega, by go_num, rfl, HST.out.2.2, Lib.hid (by simp [HS.out]), Lib.hid HST.out.2.1, Lib.hid HST.out.1, Lib.hid (by rw [HM.out, ← HSS.out, HS.out]; exact set_block HC2.out), Lib.hid (HBW.out.setCell (p := ⟨g, k, none⟩) hgw _)⟩
          case measure => simp [intOf]; omega
      · have hge : (na : Int) ≤ (k : Int) := by omega
        obtain rfl : k = na := by omega
        have HC2 : Hid (wr.heap[g]? = some (.cells (cellsK .u32 (S ++ List.replicate (0 + 1) 0)) 52 (0, 0))) := Lib.hid (by
          have := HC.out
          rwa [show k + 1 - k = 0 + 1 by omega] at this)
        have HSS := Lib.hid (set_zeros S c 0)
        have hfr : wr.frozen? ⟨g, k, none⟩ = false := Lib.frozen_of_heap HC.out _
        obtain ⟨z, hz⟩ : ∃ z, wr.cell? ⟨g, k, none⟩ = some z := by rw [Lib.cell_of_heap HC2.out]; exact ⟨_, cellsK_get (by simp [HS.out])⟩
        have q1 : (c : Int) % 4294967296 = (c : Int) := by omega
        have HL : Hid (Lim (wr.setCell ⟨g, k, none⟩ (.int .u32 (c : Int))) (.slice (some ⟨g, 0, none⟩) (k + 1) (k + 1)) (S ++ [c])) := Lib.hid (by
          have h := LimK.block (kd := .u32) (B := 4294967296) (W := wr.setCell ⟨g, k, none⟩ (.int .u32 (c : Int))) (g := g) (cap := k + 1) (l := S ++ [c]) (HO.out.append fun y hy => by simp at hy; omega) (cs := cellsK .u32 (S ++ [c])) (t := 52) (by
            have h1 := HSS.out
            rw [HS.out] at h1
            have := set_block (i := k) (x := c) HC2.out
            rw [h1] at this
            simpa using this) (fun i h => cellsK_get h) (by simp [HS.out]) (by omega)
          rwa [show (S ++ [c]).length = k + 1 by simp [HS.out]] at h)
        have HBW := Lib.hid (HBW.out.setCell (p := ⟨g, k, none⟩) hgw (.int .u32 (c : Int)))
        have HV2 : Hid (trimL 4294967296 (S ++ [c]) = digs 4294967296 (valB 4294967296 la + valB 4294967296 lb)) := Lib.hid (by
          unfold trimL
          have h := HV.out
          rw [List.take_of_length_le (l := la) (by have := HNA.out; omega), List.take_of_length_le (l := lb) (by have := HNB.out; omega)] at h
          rw [valB_snoc, HS.out, h])
        go_wp2_with fail
        refine (trim_any _ _ _ HL.out).mono ?_
        rintro e w' ⟨v', rfl, hv, rfl⟩
        go_wp2_with fail
        go_ret
        exact ⟨_, rfl, by rw [← HV2.out]; exact hv, HG.out ▸ HBW.out⟩
set_option maxHeartbeats 4000000 in
set_option maxRecDepth 100000 in
theorem less_any (va vb : Value) (la lb : List Nat) (w : World) (ha : Lim w va la) (hb : Lim w vb lb) (hla : la.length ≤ 1000000000) (hlb : lb.length ≤ la.length) (hle : valB 4294967296 lb ≤ valB 4294967296 la) :
    Calls Tryz.prog 67 #[va, vb] w fun e w' => ∃ v', e = .returned v' ∧ Lim w' v' (digs 4294967296 (valB 4294967296 la - valB 4294967296 lb)) ∧ Below w.heap.size w w' := by
  obtain ⟨pa, na, ca, rfl, hna, hca, hcma⟩ := ha.open_
  obtain ⟨pb, nb, cb, rfl, hnb, hcb, hcmb⟩ := hb.open_
  have HLA := Lib.hid ha; have HLB := Lib.hid hb
  have hna1 : na ≤ 1000000000 := by omega
  have hnn : nb ≤ na := by omega
  have HNA := Lib.hid hna; have HNB := Lib.hid hnb; have HLE := Lib.hid hle
  clear ha hb hna hnb hla hlb hle
  have hmk := mk_limbs na (na : Int) rfl (by omega)
  go_enter Tryz.func67, Tryz.ntmps67
  go_wp2_with fail
  clear hmk
  have HB := Lib.hid ((Below.refl w.heap.size w).alloc (Nat.le_refl _) (.cells (cellsK .u32 (List.replicate na 0)) 52))
  have HK := Lib.hid (heap_alloc_new w (.cells (cellsK .u32 (List.replicate na 0)) 52))
  obtain ⟨w0, hw0⟩ : ∃ w0, w.alloc (.cells (cellsK .u32 (List.replicate na 0)) 52) = w0 := ⟨_, rfl⟩
  rw [hw0] at HB HK ⊢
  obtain ⟨g, hg⟩ : ∃ g, w.heap.size = g := ⟨_, rfl⟩
  have hgw : w.heap.size ≤ g := Nat.le_of_eq hg
  rw [hg] at HK ⊢
  have HG := Lib.hid hg
  clear hw0 hg
  go_loopw [14, 7, 8, 6] (fun i _ _ cv wr => ∃ (k c : Nat) (S : List Nat), k ≤ na ∧ i = .int .i64 (k : Int) ∧ cv = .int .u64 (c : Int) ∧ c ≤ 1 ∧ Hid (S.length = k) ∧ Hid (okB 4294967296 S) ∧ Hid (valB 4294967296 S + valB 4294967296 (lb.take k) = valB 4294967296 (la.take k) + 4294967296 ^ k * c) ∧
      Hid (wr.heap[g]? = some (.cells (cellsK .u32 (S ++ List.replicate (na - k) 0)) 52 (0, 0))) ∧ Hid (Below w.heap.size w wr)) (fun i _ _ _ _ => na - (intOf i).toNat)
  case atStart => exact ⟨0, 0, [], by omega, rfl, rfl, by omega, Lib.hid rfl, Lib.hid (okB_nil _), Lib.hid (by simp [valB]), Lib.hid (by simpa using HK.out), HB⟩
  case round =>
    obtain ⟨k, c, S, hk, rfl, rfl, hc, HS, HO, HV, HC, HBW⟩ := hrel
    by_cases hlt : k < na
    · have hlt' : (k : Int) < (na : Int) := by omega
      have hkA : k < la.length := by have := HNA.out; omega
      obtain ⟨g1, off1, hp1, hg1, hc1⟩ := HLA.out.cell hkA
      have cA : wr.cell? ⟨g1, off1 + k, none⟩ = some (.int .u32 (la[k] : Int)) := by rw [cell_up2 HBW.out hg1 hg1]; exact hc1
      obtain ⟨x, hx⟩ : ∃ x, la[k] = x := ⟨_, rfl⟩
      have hxl : x < 4294967296 := by rw [← hx]; exact HLA.out.ok.get hkA
      rw [hx] at cA
      subst hp1
      obtain ⟨m, hm⟩ : ∃ m, na - k = m + 1 := ⟨na - k - 1, by omega⟩
      have hm2 : na - (k + 1) = m := by omega
      have HC2 : Hid (wr.heap[g]? = some (.cells (cellsK .u32 (S ++ List.replicate (m + 1) 0)) 52 (0, 0))) := Lib.hid (by rw [← hm]; exact HC.out)
      have hfr : wr.frozen? ⟨g, k, none⟩ = false := Lib.frozen_of_heap HC.out _
      obtain ⟨z, hz⟩ : ∃ z, wr.cell? ⟨g, k, none⟩ = some z := by rw [Lib.cell_of_heap HC2.out]; exact ⟨_, cellsK_get (by simp [HS.out])⟩
      by_cases hkb : k < nb
      · have hkb' : (k : Int) < (nb : Int) := by omega
        have hkB : k < lb.length := by have := HNB.out; omega
        obtain ⟨g2, off2, hp2, hg2, hc2⟩ := HLB.out.cell hkB
        have cB : wr.cell? ⟨g2, off2 + k, none⟩ = some (.int .u32 (lb[k] : Int)) := by rw [cell_up2 HBW.out hg2 hg2]; exact hc2
        obtain ⟨y, hy⟩ : ∃ y, lb[k] = y := ⟨_, rfl⟩
        have hyl : y < 4294967296 := by rw [← hy]; exact HLB.out.ok.get hkB
        rw [hy] at cB
        subst hp2
        obtain ⟨r, hr⟩ : ∃ r, (x + 8589934592 - c - y) % 4294967296 = r := ⟨_, rfl⟩
        obtain ⟨c', hc'⟩ : ∃ c', (if x < c + y then 1 else 0) = c' := ⟨_, rfl⟩
        have hc1' : c' ≤ 1 := by rw [← hc']; split <;> omega
        have he : x + 4294967296 * c' = r + c + y := by rw [← hc', ← hr]; split <;> omega
        have hst := less_step HS.out HO.out HV.out hkA hx (by omega) (by rw [valB_take_succ hkB, hy]) he
        have q1 : IntKind.u64.wrap (IntKind.u64.wrap ((x : Int) - (c : Int)) - (y : Int)) / 9223372036854775808 = (c' : Int) := by rw [IntKind.wrap_u64, IntKind.wrap_u64, ← hc']; split <;> omega
        have q2 : IntKind.u64.wrap (IntKind.u64.wrap ((x : Int) - (c : Int)) - (y : Int)) % 4294967296 = (r : Int) := by rw [IntKind.wrap_u64, IntKind.wrap_u64]; omega
        have HST := Lib.hid hst
        have HM := Lib.hid hm2
        have HSS := Lib.hid (set_zeros S r m)
        clear hst hr hc' hx hy hm hm2 hc1 hc2 he
        go_wp2_with fail
        go_roundw
        case rel => exact ⟨k + 1, c', S ++ [r], by omega, by go_num, rfl, hc1', Lib.hid (by simp [HS.out]), Lib.hid HST.out.2, Lib.hid HST.out.1, Lib.hid (by rw [HM.out, ← HSS.out, HS.out]; exact set_block HC2.out), Lib.hid (HBW.out.setCell (p := ⟨g, k, none⟩) hgw _)⟩
        case measure => simp [intOf]; omega
      · have hkb' : ¬ (k : Int) < (nb : Int) := by omega
        obtain ⟨r, hr⟩ : ∃ r, (x + 8589934592 - c) % 4294967296 = r := ⟨_, rfl⟩
        obtain ⟨c', hc'⟩ : ∃ c', (if x < c then 1 else 0) = c' := ⟨_, rfl⟩
        have hc1' : c' ≤ 1 := by rw [← hc']; split <;> omega
        have he : x + 4294967296 * c' = r + c + 0 := by rw [← hc', ← hr]; split <;> omega
        have hst := less_step (y := 0) (lb := lb) HS.out HO.out HV.out hkA hx (by omega) (by rw [take_all_succ (by have := HNB.out; omega)]; simp) he
        have q1 : IntKind.u64.wrap ((x : Int) - (c : Int)) / 9223372036854775808 = (c' : Int) := by rw [IntKind.wrap_u64, ← hc']; split <;> omega
        have q2 : IntKind.u64.wrap ((x : Int) - (c : Int)) % 4294967296 = (r : Int) := by rw [IntKind.wrap_u64]; omega
        have HST := Lib.hid hst
        have HM := Lib.hid hm2
        have HSS := Lib.hid (set_zeros S r m)
        clear hst hr hc' hx hm hm2 hc1 he
        go_wp2_with fail
        go_roundw
        case rel => exact ⟨k + 1, c', S ++ [r], by omega, by go_num, rfl, hc1', Lib.hid (by simp [HS.out]), Lib.hid HST.out.2, Lib.hid HST.out.1, Lib.hid (by rw [HM.out, ← HSS.out, HS.out]; exact set_block HC2.out), Lib.hid (HBW.out.setCell (p := ⟨g, k, none⟩) hgw _)⟩
        case measure => simp [intOf]; omega
    · have hge : (na : Int) ≤ (k : Int) := by omega
      obtain rfl : k = na := by omega
      have HV2 : Hid (trimL 4294967296 S = digs 4294967296 (valB 4294967296 la - valB 4294967296 lb)) := Lib.hid (by
        unfold trimL
        have h := HV.out
        rw [List.take_of_length_le (l := la) (by have := HNA.out; omega), List.take_of_length_le (l := lb) (by have := HNB.out; omega)] at h
        have h1 := valB_lt HO.out
        rw [HS.out] at h1
        have h2 := HLE.out
        have h3 : c = 0 := by
          rcases (by omega : c = 0 ∨ c = 1) with h | h
          · exact h
          · subst h; omega
        subst h3
        congr 1; omega)
      have HL : Hid (Lim wr (.slice (some ⟨g, 0, none⟩) k k) S) := Lib.hid (by
        have h := LimK.block (kd := .u32) (B := 4294967296) (W := wr) (g := g) (cap := k) (l := S) HO.out (cs := cellsK .u32 S) (t := 52) (by
          have := HC.out
          simpa using this) (fun i h => cellsK_get h) (by rw [HS.out]; omega) (by omega)
        rwa [HS.out] at h)
      go_wp2_with fail
      refine (trim_any _ _ _ HL.out).mono ?_
      rintro e w' ⟨v', rfl, hv, rfl⟩
      go_wp2_with fail
      go_ret
      exact ⟨_, rfl, by rw [← HV2.out]; exact hv, HG.out ▸ HBW.out⟩
end Go.Proofs.YtakbkbmjeanboaaGreatDoor
