/- Package nat: Montgomery's product (mul). Each theorem names its conditions. -/
import Derived.Test.YtakbkbmjeanboaaGreatDoorMonA
namespace Go.Proofs.YtakbkbmjeanboaaGreatDoor
open Go.RowKit Go.Shelf
open Dgt
set_option linter.unusedVariables false

theorem snoc_replicate (n x : Nat) : List.replicate n x ++ [x] = List.replicate (n + 1) x := by
  rw [List.replicate_succ']
theorem drop_two {P : List Nat} {k t : Nat} (hl : P.length = k + 1) (ht : P[k]'(by omega) = t) : P.drop k = [t] := by
  rw [List.drop_eq_getElem_cons (by omega), ht, List.drop_eq_nil_of_le (by omega)]
theorem set_two' {p : List Nat} {k : Nat} (hp : p.length = k) (t z x y : Nat) : ((p ++ [t, z]).set k x).set (k + 1) y = p ++ [x, y] := by
  subst hp
  simp
theorem set_end {r : List Nat} {k : Nat} (hr : r.length = k) (e x1 x2 d1 d2 : Nat) : ((r ++ [e, x1, x2]).set k d1).set (k + 1) d2 = (r ++ [d1, d2]) ++ [x2] := by
  subst hr
  simp
/-- what a round leaves modulo M -/
theorem mon_res {T M R A S Q : Nat} (h : T * R = A * S + Q * M) : T * R % M = A * S % M := by
  rw [h, Nat.add_mul_mod_self_right]
theorem mon_sub {T M R : Nat} (h : M ≤ T) : (T - M) * R % M = T * R % M := by
  obtain ⟨d, rfl⟩ : ∃ d, T = d + M := ⟨T - M, by omega⟩
  rw [Nat.add_sub_cancel, Nat.add_mul, Nat.add_mul_mod_self_left]
set_option maxHeartbeats 16000000 in
set_option maxRecDepth 100000 in
theorem mul_any (va vb vm : Value) (la lb : List Nat) (M minus m0 k : Nat) (w : World) (ha : Lim w va la) (hb : Lim w vb lb) (hm : Lim w vm (digs 4294967296 M)) (hk : (digs 4294967296 M).length = k) (hk0 : 0 < k) (hk9 : k ≤ 100000000) (hla : la.length = k) (hlb : lb.length = k)
    (hA : valB 4294967296 la < M) (hminus : minus < 4294967296) (hm0 : (digs 4294967296 M)[0]? = some m0) (hmi : (minus * m0 + 1) % 4294967296 = 0) :
    Calls Tryz.prog 76 #[.agg #[vm, .int .u32 (minus : Int)], va, vb] w fun e w' => ∃ v lr, e = .returned v ∧ Lim w' v lr ∧ lr.length = k ∧ valB 4294967296 lr < M ∧
      valB 4294967296 lr * 4294967296 ^ k % M = valB 4294967296 la * valB 4294967296 lb % M ∧ Below w.heap.size w w' := by
  obtain ⟨pa, na, ca, rfl, hna, hca, hcma⟩ := ha.open_
  obtain ⟨pb, nb, cb, rfl, hnb, hcb, hcmb⟩ := hb.open_
  obtain ⟨pm, nm, cm, rfl, hnm, hcm, hcmm⟩ := hm.open_
  obtain ⟨A, hAe⟩ : ∃ A, valB 4294967296 la = A := ⟨_, rfl⟩
  have hMB : M < 4294967296 ^ k := by rw [← hk]; exact digs_lt (by decide) M
  have hMv := valB_digs (B := 4294967296) (by decide) M
  have HDM := Lib.hid (rfl : digs 4294967296 M = digs 4294967296 M)
  obtain ⟨lm, hlm⟩ : ∃ l, digs 4294967296 M = l := ⟨_, rfl⟩
  have HDE := Lib.hid hlm
  rw [hlm] at hm hk hnm hm0 hMv
  rw [hAe] at hA ⊢
  obtain rfl : k = na := by omega
  obtain rfl : k = nb := by omega
  obtain rfl : k = nm := by omega
  obtain ⟨gm, om, rfl, hgm, hcm0⟩ := hm.cell (i := 0) (by omega)
  have hm0' : lm[0]'(by omega) = m0 := by
    have := List.getElem?_eq_getElem (l := lm) (i := 0) (by omega)
    rw [hm0] at this; exact (Option.some.inj this).symm
  rw [hm0', Nat.add_zero] at hcm0
  have hm0l : m0 < 4294967296 := by rw [← hm0']; exact hm.ok.get _
  have HLA := Lib.hid ha; have HLB := Lib.hid hb; have HLM := Lib.hid hm
  have HK0 := Lib.hid hk0; have HNA := Lib.hid hla; have HNB := Lib.hid hlb; have HNM := Lib.hid hk; have HAL := Lib.hid hA; have HMB := Lib.hid hMB; have HMV := Lib.hid hMv; have HMI := Lib.hid hmi; have HAE := Lib.hid hAe
  have HM0 := Lib.hid hm0
  have HM0L := Lib.hid hm0l; have HMN := Lib.hid hminus; have HGM := Lib.hid hgm; have HCM0 := Lib.hid hcm0
  have hk1 : (k : Int) ≤ 100000000 := by omega
  have hk2 : (0 : Int) < (k : Int) := by omega
  obtain ⟨N2, hN2⟩ : ∃ N, k + 2 = N := ⟨_, rfl⟩
  have hmk := mk_limbs N2 ((k : Int) + 2) (by omega) (by omega)
  have HN2 := Lib.hid hN2
  clear hN2
  clear ha hb hm hna hnb hnm hca hcb hcm hcma hcmb hcmm hla hlb hk hA hMB hMv hmi hAe hm0' hm0 hm0l hminus hgm hcm0 hlm hk9
  go_enter Tryz.func76, Tryz.ntmps76
  go_wp2_with fail
  clear hmk
  obtain ⟨W1, hW1⟩ : ∃ W1, w.alloc (.cells #[.slice (some ⟨gm, om, none⟩) k cm, .int .u32 (minus : Int)] 70) = W1 := ⟨_, rfl⟩
  obtain ⟨bx, hbx⟩ : ∃ b, w.heap.size = b := ⟨_, rfl⟩
  have hb1 : Below w.heap.size w W1 := by rw [← hW1]; exact (Below.refl _ w).alloc (Nat.le_refl _) _
  have hB1 : W1.heap[bx]? = some (.cells #[.slice (some ⟨gm, om, none⟩) k cm, .int .u32 (minus : Int)] 70 (0, 0)) := by rw [← hW1, ← hbx]; exact heap_alloc_new w _
  have hs1 : W1.heap.size = bx + 1 := by rw [← hW1, ← hbx]; simp
  obtain ⟨g, hg⟩ : ∃ g, bx + 1 = g := ⟨_, rfl⟩
  obtain ⟨w0, hw0⟩ : ∃ w0, W1.alloc (.cells (cellsK .u32 (List.replicate N2 0)) 52) = w0 := ⟨_, rfl⟩
  have hb0 : Below w.heap.size w w0 := by rw [← hw0]; exact hb1.alloc hb1.size _
  have hB0 : w0.heap[bx]? = some (.cells #[.slice (some ⟨gm, om, none⟩) k cm, .int .u32 (minus : Int)] 70 (0, 0)) := by rw [← hw0]; exact heap_up ((Below.refl _ W1).alloc (Nat.le_refl _) _) hB1
  have hC0 : w0.heap[g]? = some (.cells (cellsK .u32 (List.replicate N2 0)) 52 (0, 0)) := by rw [← hw0, ← hg, ← hs1]; exact heap_alloc_new W1 _
  have hgw : w.heap.size ≤ g := by omega
  have hgb : bx ≠ g := by omega
  simp only [hW1, hw0, hbx, hg]
  have HB0 := Lib.hid hb0; have HBX0 := Lib.hid hB0; have HC0 := Lib.hid hC0; have HGW := Lib.hid hgw; have HGB := Lib.hid hgb
  have HBS := Lib.hid hb0.size
  clear hW1 hb1 hB1 hs1 hg hw0 hb0 hB0 hC0 hgw hgb hbx
  go_loopw [28, 10, 11, 12, 13, 14, 15, 16, 17, 18, 34] (fun i _ _ _ _ _ _ _ _ _ _ wr => ∃ (j : Nat) (P : List Nat) (z Q : Nat), j ≤ k ∧ i = .int .i64 (j : Int) ∧ Hid (P.length = k + 1) ∧ Hid (okB 4294967296 P) ∧ z < 4294967296 ∧
      Hid (valB 4294967296 P * 4294967296 ^ j = A * valB 4294967296 (lb.take j) + Q * M) ∧ Hid (valB 4294967296 P < A + M) ∧ Hid (wr.heap[g]? = some (.cells (cellsK .u32 (P ++ [z])) 52 (0, 0))) ∧ Hid (Fr (fun b => b = g) w0 wr)) (fun i _ _ _ _ _ _ _ _ _ _ _ => k - (intOf i).toNat)
  case atStart => exact ⟨0, List.replicate (k + 1) 0, 0, 0, by omega, rfl, Lib.hid (by simp), Lib.hid (fun x hx => by rw [List.eq_of_mem_replicate hx]; decide), by omega, Lib.hid (by rw [valB_zeros]; simp [valB]), Lib.hid (by rw [valB_zeros]; have := HAL.out; omega), Lib.hid (by rw [snoc_replicate, HN2.out]; exact HC0.out), Lib.hid (Fr.refl _ _)⟩
  case round =>
    obtain ⟨j, P, z, Q, hj, rfl, HPL, HPO, hz, HPV, HPB, HC, HF⟩ := hrel
    obtain ⟨wo, hwo⟩ : ∃ wo, wo = wr := ⟨_, rfl⟩
    subst hwo
    by_cases hlt : j < k
    · have hlt' : (j : Int) < (k : Int) := by omega
      have hjB : j < lb.length := by have := HNB.out; omega
      obtain ⟨g2, off2, hp2, hg2, hc2⟩ := HLB.out.cell hjB
      have cB : wo.cell? ⟨g2, off2 + j, none⟩ = some (.int .u32 (lb[j] : Int)) := by
        rw [HF.out.cell (p := ⟨g2, off2 + j, none⟩) (Nat.lt_of_lt_of_le hg2 HBS.out) (by have := HGW.out; show g2 ≠ g; omega), cell_up2 HB0.out hg2 hg2]; exact hc2
      obtain ⟨y, hy⟩ : ∃ y, lb[j] = y := ⟨_, rfl⟩
      have hyl : y < 4294967296 := by rw [← hy]; exact HLB.out.ok.get hjB
      rw [hy] at cB
      subst hp2
      have HY := Lib.hid hy; have HYL := Lib.hid hyl
      clear hy hc2 hg2
      have hyl' : (y : Int) < 4294967296 := by omega
      clear hyl
      go_wp2_with fail
      go_loopw [34, 12, 13, 14, 11] (fun i _ _ _ cv wr => ∃ (n c : Nat) (p : List Nat), n ≤ k ∧ i = .int .i64 (n : Int) ∧ cv = .int .u64 (c : Int) ∧ (c : Int) < 4294967296 ∧ Hid (p.length = n) ∧ Hid (okB 4294967296 p) ∧
          Hid (valB 4294967296 p + c * 4294967296 ^ n = valB 4294967296 (P.take n) + y * valB 4294967296 (la.take n)) ∧
          Hid (wr.heap[g]? = some (.cells (cellsK .u32 (p ++ (P.drop n ++ [z]))) 52 (0, 0))) ∧ Hid (Fr (fun b => b = g) w0 wr)) (fun i _ _ _ _ _ => k - (intOf i).toNat)
      case atStart => exact ⟨0, 0, [], by omega, rfl, rfl, by omega, Lib.hid rfl, Lib.hid (okB_nil _), Lib.hid (by simp [valB]), Lib.hid (by simpa using HC.out), HF⟩
      case round =>
        obtain ⟨n, c1, p, hn, rfl, rfl, hc, HQ, HQO, HQV, HC, HF⟩ := hrel
        obtain ⟨wi, hwi⟩ : ∃ wi, wi = wr := ⟨_, rfl⟩
        subst hwi
        by_cases hnl : n < k
        · have hnl' : (n : Int) < (k : Int) := by omega
          have hnA : n < la.length := by have := HNA.out; omega
          have hnP : n < P.length := by have := HPL.out; omega
          obtain ⟨g1, off1, hp1, hg1, hc1⟩ := HLA.out.cell hnA
          have cA : wi.cell? ⟨g1, off1 + n, none⟩ = some (.int .u32 (la[n] : Int)) := by
            rw [HF.out.cell (p := ⟨g1, off1 + n, none⟩) (Nat.lt_of_lt_of_le hg1 HBS.out) (by have := HGW.out; show g1 ≠ g; omega), cell_up2 HB0.out hg1 hg1]; exact hc1
          obtain ⟨x, hx⟩ : ∃ x, la[n] = x := ⟨_, rfl⟩
          have hxl : x < 4294967296 := by rw [← hx]; exact HLA.out.ok.get hnA
          rw [hx] at cA
          subst hp1
          obtain ⟨u, hu⟩ : ∃ u, P[n] = u := ⟨_, rfl⟩
          have hul : u < 4294967296 := by rw [← hu]; exact HPO.out.get hnP
          have hget := get_mid (Z := [z]) HQ.out hnP
          rw [hu] at hget
          have cU : wi.cell? ⟨g, n, none⟩ = some (.int .u32 (u : Int)) := by rw [Lib.cell_of_heap HC.out]; exact cellsK_some hget
          have hfr : wi.frozen? ⟨g, n, none⟩ = false := Lib.frozen_of_heap HC.out _
          obtain ⟨s, hs⟩ : ∃ s, u + x * y + c1 = s := ⟨_, rfl⟩
          have hst := mon_step1 HQ.out HQV.out hs.symm
          have e1 := valB_take_succ (B := 4294967296) hnP
          have e2 := valB_take_succ (B := 4294967296) hnA
          rw [hu] at e1; rw [hx] at e2
          rw [← e1, ← e2] at hst
          obtain ⟨hsm, hsb⟩ := mon_carry (B := 4294967296) (by decide) hul hxl HYL.out (c := c1) (by omega)
          rw [hs] at hsm hsb
          obtain ⟨t, ht⟩ : ∃ t, x * y = t := ⟨_, rfl⟩
          rw [ht] at hs
          have qt : (x : Int) * (y : Int) = (t : Int) := by rw [← ht]; simp
          have htl' : (t : Int) ≤ 18446744065119617025 := by
            have : t ≤ 18446744065119617025 := by rw [← ht]; exact Nat.mul_le_mul (show x ≤ 4294967295 by omega) (show y ≤ 4294967295 by have := HYL.out; omega)
            omega
          have hul' : (u : Int) < 4294967296 := by omega
          have hxl' : (x : Int) < 4294967296 := by omega
          obtain ⟨r, hr⟩ : ∃ r, s % 4294967296 = r := ⟨_, rfl⟩
          obtain ⟨c', hc'⟩ : ∃ c', s / 4294967296 = c' := ⟨_, rfl⟩
          rw [hr, hc'] at hst
          rw [hc'] at hsm
          have hrl : r < 4294967296 := by rw [← hr]; exact Nat.mod_lt _ (by decide)
          have q1 : ((u : Int) + (t : Int) + (c1 : Int)) % 4294967296 = (r : Int) := by omega
          have q2 : ((u : Int) + (t : Int) + (c1 : Int)) / 4294967296 = (c' : Int) := by omega
          have HST := Lib.hid hst
          have HPM := Lib.hid (put_mid (Z := [z]) (x := r) HQ.out hnP)
          have hnk2 : n < N2 := by have := HN2.out; omega
          clear hst hr hc' hx hu hc1 hg1 hget ht hs hsb e1 e2 hul hxl hnA hnP
          go_wp2_with fail
          go_roundw
          case rel => exact ⟨n + 1, c', p ++ [r], by omega, by go_num, rfl, by omega, Lib.hid (by rw [List.length_append, HQ.out]; rfl), Lib.hid (okB_snoc HQO.out hrl), Lib.hid HST.out, Lib.hid (by rw [← HPM.out]; exact set_block HC.out), Lib.hid (HF.out.setCell (p := ⟨g, n, none⟩) (.inl rfl) _)⟩
          case measure => simp [intOf]; omega
        · have hge : (k : Int) ≤ (n : Int) := by omega
          obtain rfl : k = n := by omega
          have hnP : k < P.length := by have := HPL.out; omega
          obtain ⟨t1, ht1⟩ : ∃ t1, P[k] = t1 := ⟨_, rfl⟩
          have ht1l : t1 < 4294967296 := by rw [← ht1]; exact HPO.out.get hnP
          have HC2 : Hid (wi.heap[g]? = some (.cells (cellsK .u32 (p ++ [t1, z])) 52 (0, 0))) := Lib.hid (by
            have := HC.out
            rwa [drop_two HPL.out ht1] at this)
          have cK : wi.cell? ⟨g, k, none⟩ = some (.int .u32 (t1 : Int)) := by rw [Lib.cell_of_heap HC2.out]; exact cellsK_some (by rw [← HQ.out]; simp)
          have hfr : ∀ j, wi.frozen? ⟨g, j, none⟩ = false := fun j => Lib.frozen_of_heap HC.out _
          have hf1 := hfr k; have hf2 := hfr (k + 1)
          obtain ⟨s, hs⟩ : ∃ s, t1 + c1 = s := ⟨_, rfl⟩
          obtain ⟨x1, hx1⟩ : ∃ x1, s % 4294967296 = x1 := ⟨_, rfl⟩
          obtain ⟨x2, hx2⟩ : ∃ x2, s / 4294967296 = x2 := ⟨_, rfl⟩
          have hx1l : x1 < 4294967296 := by omega
          have hx2l : x2 < 4294967296 := by omega
          have q1 : ((t1 : Int) + (c1 : Int)) % 4294967296 = (x1 : Int) := by omega
          have q2 : ((t1 : Int) + (c1 : Int)) / 4294967296 = (x2 : Int) := by omega
          have q3 : (x2 : Int) % 4294967296 = (x2 : Int) := by omega
          have ht1l' : (t1 : Int) < 4294967296 := by omega
          have HC3 := Lib.hid (set_block (i := k) (x := x1) HC2.out)
          obtain ⟨z2, hz2⟩ : ∃ z, (wi.setCell ⟨g, k, none⟩ (.int .u32 (x1 : Int))).cell? ⟨g, k + 1, none⟩ = some z := by rw [Lib.cell_of_heap HC3.out]; exact ⟨_, cellsK_get (by simp [HQ.out])⟩
          have hf3 : (wi.setCell ⟨g, k, none⟩ (.int .u32 (x1 : Int))).frozen? ⟨g, k + 1, none⟩ = false := Lib.frozen_of_heap HC3.out _
          have HC4 := Lib.hid (set_block (i := k + 1) (x := x2) HC3.out)
          have HF4 := Lib.hid ((HF.out.setCell (p := ⟨g, k, none⟩) (.inl rfl) (.int .u32 (x1 : Int))).setCell (p := ⟨g, k + 1, none⟩) (.inl rfl) (.int .u32 (x2 : Int)))
          rw [set_two' HQ.out] at HC4
          have HT1 := Lib.hid ht1; have HS := Lib.hid hs; have HX1 := Lib.hid hx1; have HX2 := Lib.hid hx2; have HX1L := Lib.hid hx1l; have HX2L := Lib.hid hx2l
          have hk3 : k < N2 := by have := HN2.out; omega
          have hk4 : (k : Int) + 1 < (N2 : Int) := by have := HN2.out; omega
          have hk5 : k + 1 < N2 := by have := HN2.out; omega
          clear ht1 hs hx1 hx2 hx1l hx2l hfr ht1l
          go_wp2_with fail
          obtain ⟨W2, hW2⟩ : ∃ W2, (wi.setCell ⟨g, k, none⟩ (.int .u32 (x1 : Int))).setCell ⟨g, k + 1, none⟩ (.int .u32 (x2 : Int)) = W2 := ⟨_, rfl⟩
          rw [hW2] at HC4 HF4 ⊢
          clear hW2 cK hf1 hf2 hz2 hf3 HC3 HC2 HC HF q1 q2 q3 hk4 hk5
          have hp0 : 0 < p.length := by have := HQ.out; have := HK0.out; omega
          obtain ⟨u0, hu0⟩ : ∃ u0, p[0] = u0 := ⟨_, rfl⟩
          have hu0l : u0 < 4294967296 := by rw [← hu0]; exact HQO.out.get hp0
          have c0 : W2.cell? ⟨g, 0, none⟩ = some (.int .u32 (u0 : Int)) := by
            rw [Lib.cell_of_heap HC4.out]; exact cellsK_some (by rw [List.getElem?_append_left hp0, List.getElem?_eq_getElem hp0, hu0])
          have hbxm := HF4.out.heap HBX0.out HGB.out
          have b0 : W2.cell? ⟨bx, 0, none⟩ = some (.slice (some ⟨gm, om, none⟩) k cm) := by rw [Lib.cell_of_heap hbxm]; rfl
          have b1 : W2.cell? ⟨bx, 1, none⟩ = some (.int .u32 (minus : Int)) := by rw [Lib.cell_of_heap hbxm]; rfl
          have cm0 : W2.cell? ⟨gm, om, none⟩ = some (.int .u32 (m0 : Int)) := by
            rw [HF4.out.cell (p := ⟨gm, om, none⟩) (Nat.lt_of_lt_of_le HGM.out HBS.out) (by have := HGW.out; have := HGM.out; show gm ≠ g; omega), cell_up2 HB0.out HGM.out HGM.out]; exact HCM0.out
          obtain ⟨q, hq⟩ : ∃ q, u0 * minus % 4294967296 = q := ⟨_, rfl⟩
          have hql : q < 4294967296 := by rw [← hq]; exact Nat.mod_lt _ (by decide)
          have hmq := mon_q (B := 4294967296) (t0 := u0) (by decide) HMI.out
          obtain ⟨hcs, -⟩ := mon_carry (B := 4294967296) (c := 0) (by decide) hu0l hql HM0L.out (by decide)
          obtain ⟨t2, ht2⟩ : ∃ t2, q * m0 = t2 := ⟨_, rfl⟩
          have ht2l : t2 ≤ 18446744065119617025 := by rw [← ht2]; exact Nat.mul_le_mul (show q ≤ 4294967295 by omega) (show m0 ≤ 4294967295 by have := HM0L.out; omega)
          rw [hq, ht2] at hmq
          rw [ht2, Nat.add_zero] at hcs
          obtain ⟨e0, he0⟩ : ∃ e0, (u0 + t2) / 4294967296 = e0 := ⟨_, rfl⟩
          rw [he0] at hcs
          have qa : (u0 : Int) * (minus : Int) % 4294967296 = (q : Int) := by rw [← hq]; simp
          have qb : (q : Int) * (m0 : Int) = (t2 : Int) := by rw [← ht2]; simp
          have qc : ((u0 : Int) + (t2 : Int)) / 4294967296 = (e0 : Int) := by omega
          have hi1 : (u0 : Int) < 4294967296 := by omega
          have hi2 : (q : Int) < 4294967296 := by omega
          have hi3 : (t2 : Int) ≤ 18446744065119617025 := by omega
          have hi4 : (m0 : Int) < 4294967296 := by have := HM0L.out; omega
          have HE0 : Hid (4294967296 * e0 = u0 + q * m0) := Lib.hid (by rw [ht2]; omega)
          have HU0 : Hid (p[0]? = some u0) := Lib.hid (by rw [List.getElem?_eq_getElem hp0, hu0])
          have hN0 : (0 : Int) < (N2 : Int) := by omega
          have HQL := Lib.hid hql; have HES := Lib.hid hcs; have HP0 := Lib.hid hp0
          clear hq ht2 hu0 hmq he0 hql hcs hu0l ht2l hbxm hp0
          go_quiet (fail)
          go_wp2_with fail
          go_quiet (fail)
          go_wp2_with fail
          go_loopw [17, 18, 11] (fun jv _ cv wr => ∃ (n c : Nat) (r : List Nat), 1 ≤ n ∧ n ≤ k ∧ jv = .int .i64 (n : Int) ∧ cv = .int .u64 (c : Int) ∧ (c : Int) < 4294967296 ∧ Hid (r.length = n - 1) ∧ Hid (okB 4294967296 r) ∧
              Hid (4294967296 * (valB 4294967296 r + c * 4294967296 ^ (n - 1)) = valB 4294967296 (p.take n) + q * valB 4294967296 (lm.take n)) ∧
              Hid (wr.heap[g]? = some (.cells (cellsK .u32 (r ++ (p.drop (n - 1) ++ [x1, x2]))) 52 (0, 0))) ∧ Hid (Fr (fun b => b = g) w0 wr)) (fun jv _ _ _ => k - (intOf jv).toNat)
          case atStart => exact ⟨1, e0, [], by omega, by have := HK0.out; omega, rfl, rfl, by have := HES.out; omega, Lib.hid rfl, Lib.hid (okB_nil _), Lib.hid (by
              have a1 : p.take 1 = [u0] := by
                cases p with
                | nil => have := HU0.out; simp at this
                | cons a p => have := HU0.out; simp at this; simp [this]
              have a2 : lm.take 1 = [m0] := by
                have := HM0.out
                cases lm with
                | nil => simp at this
                | cons a p => simp at this; simp [this]
              rw [a1, a2]; simpa [valB] using HE0.out), Lib.hid (by simpa using HC4.out), Lib.hid (by first | exact HF4.out | exact fr_drewN HF4.out _ | exact fr_drewN (fr_drewN HF4.out _) _)⟩
          case round =>
            obtain ⟨n, c, r, hn1, hn, rfl, rfl, hc, HR, HRO, HRV, HC, HF⟩ := hrel
            obtain ⟨wl, hwl⟩ : ∃ wl, wl = wr := ⟨_, rfl⟩
            subst hwl
            obtain ⟨n1, hnn⟩ : ∃ n1, n = n1 + 1 := ⟨n - 1, by omega⟩
            have hnn1 : n - 1 = n1 := by omega
            rw [hnn1] at HR HRV HC
            have hni : (n : Int) - 1 = (n1 : Int) := by omega
            have HNN := Lib.hid hnn
            have hbxm := HF.out.heap HBX0.out HGB.out
            have b0 : wl.cell? ⟨bx, 0, none⟩ = some (.slice (some ⟨gm, om, none⟩) k cm) := by rw [Lib.cell_of_heap hbxm]; rfl
            have hfr : ∀ j, wl.frozen? ⟨g, j, none⟩ = false := fun j => Lib.frozen_of_heap HC.out _
            by_cases hnl : n < k
            · have hnl' : (n : Int) < (k : Int) := by omega
              have hnP : n < p.length := by have := HQ.out; omega
              have hnM : n < lm.length := by have := HNM.out; omega
              obtain ⟨g3, o3, hp3, hg3, hc3⟩ := HLM.out.cell hnM
              injection hp3 with hp3
              injection hp3 with hp3 hp4
              subst hp3; subst hp4
              have cM : wl.cell? ⟨gm, om + n, none⟩ = some (.int .u32 (lm[n] : Int)) := by
                rw [HF.out.cell (p := ⟨gm, om + n, none⟩) (Nat.lt_of_lt_of_le HGM.out HBS.out) (by have := HGW.out; have := HGM.out; show gm ≠ g; omega), cell_up2 HB0.out HGM.out HGM.out]; exact hc3
              obtain ⟨m, hm⟩ : ∃ m, lm[n] = m := ⟨_, rfl⟩
              have hml : m < 4294967296 := by rw [← hm]; exact HLM.out.ok.get hnM
              rw [hm] at cM
              obtain ⟨u, hu⟩ : ∃ u, p[n] = u := ⟨_, rfl⟩
              have hul : u < 4294967296 := by rw [← hu]; exact HQO.out.get hnP
              have cU : wl.cell? ⟨g, n, none⟩ = some (.int .u32 (u : Int)) := by
                rw [Lib.cell_of_heap HC.out]; exact cellsK_some (by
                  rw [List.getElem?_append_right (by rw [HR.out]; omega), HR.out, List.getElem?_append_left (by rw [List.length_drop]; omega), List.getElem?_drop, show n1 + (n - n1) = n by omega, List.getElem?_eq_getElem hnP, hu])
              have hf1 := hfr n1
              obtain ⟨z3, hz3⟩ : ∃ z, wl.cell? ⟨g, n1, none⟩ = some z := by rw [Lib.cell_of_heap HC.out]; exact ⟨_, cellsK_get (by simp [HR.out])⟩
              obtain ⟨s, hs⟩ : ∃ s, u + q * m + c = s := ⟨_, rfl⟩
              have hst := mon_step2 HR.out HRV.out hs.symm
              have e1 := valB_take_succ (B := 4294967296) hnP
              have e2 := valB_take_succ (B := 4294967296) hnM
              rw [hu] at e1; rw [hm] at e2
              rw [show n1 + 1 = n from hnn.symm, ← e1, ← e2] at hst
              obtain ⟨hsm, -⟩ := mon_carry (B := 4294967296) (by decide) hul HQL.out hml (c := c) (by omega)
              rw [hs] at hsm
              obtain ⟨t, ht⟩ : ∃ t, q * m = t := ⟨_, rfl⟩
              rw [ht] at hs
              have qt : (q : Int) * (m : Int) = (t : Int) := by rw [← ht]; simp
              have htl' : (t : Int) ≤ 18446744065119617025 := by
                have : t ≤ 18446744065119617025 := by rw [← ht]; exact Nat.mul_le_mul (show q ≤ 4294967295 by have := HQL.out; omega) (show m ≤ 4294967295 by omega)
                omega
              have hul' : (u : Int) < 4294967296 := by omega
              have hml' : (m : Int) < 4294967296 := by omega
              obtain ⟨d, hd⟩ : ∃ d, s % 4294967296 = d := ⟨_, rfl⟩
              obtain ⟨c', hc'⟩ : ∃ c', s / 4294967296 = c' := ⟨_, rfl⟩
              rw [hd, hc'] at hst
              rw [hc'] at hsm
              have hdl : d < 4294967296 := by rw [← hd]; exact Nat.mod_lt _ (by decide)
              have qq1 : ((u : Int) + (t : Int) + (c : Int)) % 4294967296 = (d : Int) := by omega
              have qq2 : ((u : Int) + (t : Int) + (c : Int)) / 4294967296 = (c' : Int) := by omega
              have HST := Lib.hid hst
              have HPM := Lib.hid (put_mid (Z := [x1, x2]) (x := d) HR.out (show n1 < p.length by omega))
              have hnk2 : n < N2 := by have := HN2.out; omega
              have hnk3 : n1 < N2 := by have := HN2.out; omega
              have hnk4 : (n : Int) < (N2 : Int) := by omega
              have hnk5 : (n1 : Int) < (N2 : Int) := by omega
              have hdl' : (d : Int) < 4294967296 := by omega
              clear hst hd hc' hm hu hc3 hg3 ht hs e1 e2 hul hml hnM hnP hbxm hfr hnn hnn1 c0 b1 cm0 qa qb qc
              go_wp2_with fail
              go_quiet (fail)
              go_wp2_with fail
              go_roundw
              case rel => exact ⟨n + 1, c', r ++ [d], by omega, by omega, by go_num, rfl, by omega, Lib.hid (by rw [List.length_append, HR.out]; have := HNN.out; simp; omega), Lib.hid (okB_snoc HRO.out hdl), Lib.hid (by rw [Nat.add_sub_cancel]; exact HST.out), Lib.hid (by
                  have := HNN.out
                  rw [Nat.add_sub_cancel, this, ← HPM.out]; first | exact set_block HC.out | (rw [← set_block_drewN]; exact set_block HC.out)), Lib.hid ((fr_drewN HF.out _).setCell (p := ⟨g, n1, none⟩) (.inl rfl) _)⟩
              case measure => simp [intOf]; omega
            · have hge : (k : Int) ≤ (n : Int) := by omega
              obtain rfl : k = n := by omega
              obtain ⟨e, he⟩ : ∃ e, p[n1]'(by have := HQ.out; omega) = e := ⟨_, rfl⟩
              have HC2 : Hid (wl.heap[g]? = some (.cells (cellsK .u32 (r ++ [e, x1, x2])) 52 (0, 0))) := Lib.hid (by
                have := HC.out
                rwa [drop_two (by have := HQ.out; omega) he] at this)
              have cK : wl.cell? ⟨g, k, none⟩ = some (.int .u32 (x1 : Int)) := by
                rw [Lib.cell_of_heap HC2.out]; exact cellsK_some (by rw [hnn, ← HR.out]; simp)
              have hf1 := hfr n1
              obtain ⟨z3, hz3⟩ : ∃ z, wl.cell? ⟨g, n1, none⟩ = some z := by rw [Lib.cell_of_heap HC2.out]; exact ⟨_, cellsK_get (by simp [HR.out])⟩
              obtain ⟨s2, hs2⟩ : ∃ s2, x1 + c = s2 := ⟨_, rfl⟩
              obtain ⟨hV, hVb, hd2⟩ := mon_whole (a := []) (b := []) (m := []) (i := 0) (z := 0) (B := 4294967296) (k := k) (P := P) (p := p) (r := r) (y := y) (c := c1) (c2 := c) (s := s) (s2 := s2) (q := q) (t1 := t1) (x1 := x1) (x2 := x2) (M := M) (A := A) (by decide) HK0.out HPL.out HQ.out
                (by have := HQV.out; rwa [List.take_of_length_le (l := la) (by have := HNA.out; omega), HAE.out] at this) HT1.out HS.out.symm HX1.out HX2.out (by rw [hnn1]; exact HR.out)
                (by rw [hnn1]; have := HRV.out; rwa [List.take_of_length_le (l := p) (by have := HQ.out; omega), List.take_of_length_le (l := lm) (by have := HNM.out; omega), HMV.out] at this) hs2.symm HPB.out HYL.out HQL.out (Nat.lt_trans HAL.out HMB.out) HMB.out
              obtain ⟨d1, hd1⟩ : ∃ d1, s2 % 4294967296 = d1 := ⟨_, rfl⟩
              obtain ⟨d3, hd3⟩ : ∃ d3, s2 / 4294967296 = d3 := ⟨_, rfl⟩
              obtain ⟨d2, hd2e⟩ : ∃ d2, x2 + d3 = d2 := ⟨_, rfl⟩
              rw [hd1, hd3, hd2e] at hV hVb
              rw [hd3, hd2e] at hd2
              have hMR := mon_round HPV.out hV
              have hts := valB_take_succ (B := 4294967296) hjB
              rw [HY.out] at hts
              rw [← hts] at hMR
              have hd1l : d1 < 4294967296 := by rw [← hd1]; exact Nat.mod_lt _ (by decide)
              have qq1 : ((x1 : Int) + (c : Int)) % 4294967296 = (d1 : Int) := by omega
              have qq2 : ((x1 : Int) + (c : Int)) / 4294967296 = (d3 : Int) := by omega
              have qq3 : (d3 : Int) % 4294967296 = (d3 : Int) := by omega
              have qq4 : ((x2 : Int) + (d3 : Int)) % 4294967296 = (d2 : Int) := by omega
              have hx1l : (x1 : Int) < 4294967296 := by have := HX1L.out; omega
              have HC3 := Lib.hid (set_block (i := n1) (x := d1) HC2.out)
              have c3 : (wl.setCell ⟨g, n1, none⟩ (.int .u32 (d1 : Int))).cell? ⟨g, k + 1, none⟩ = some (.int .u32 (x2 : Int)) := by
                rw [Lib.cell_of_heap HC3.out]; exact cellsK_some (by
                  rw [List.getElem?_set_ne (by omega), show k + 1 = r.length + 2 by have := HR.out; omega, List.getElem?_append_right (by omega), Nat.add_sub_cancel_left]; rfl)
              obtain ⟨z4, hz4⟩ : ∃ z, (wl.setCell ⟨g, n1, none⟩ (.int .u32 (d1 : Int))).cell? ⟨g, k, none⟩ = some z := by rw [Lib.cell_of_heap HC3.out]; exact ⟨_, cellsK_get (by simp [HR.out]; omega)⟩
              have hf3 : ∀ j, (wl.setCell ⟨g, n1, none⟩ (.int .u32 (d1 : Int))).frozen? ⟨g, j, none⟩ = false := fun j => Lib.frozen_of_heap HC3.out _
              have hf4 := hf3 k
              have HC4 := Lib.hid (set_block (i := k) (x := d2) HC3.out)
              rw [show k = n1 + 1 from hnn, set_end HR.out, ← show k = n1 + 1 from hnn] at HC4
              have HF4 := Lib.hid ((HF.out.setCell (p := ⟨g, n1, none⟩) (.inl rfl) (.int .u32 (d1 : Int))).setCell (p := ⟨g, k, none⟩) (.inl rfl) (.int .u32 (d2 : Int)))
              have hk4 : (k : Int) + 1 < (N2 : Int) := by have := HN2.out; omega
              have hk5 : k + 1 < N2 := by have := HN2.out; omega
              have hk6 : (n1 : Int) < (N2 : Int) := by have := HN2.out; omega
              have hk7 : n1 < N2 := by have := HN2.out; omega
              have hk8 : (k : Int) < (N2 : Int) := by omega
              have HMR := Lib.hid hMR; have HVB := Lib.hid hVb; have HD1 := Lib.hid hd1l; have HD2 : Hid (d2 < 4294967296) := Lib.hid (by omega)
              clear hMR hVb hV hd2 hd1 hd3 hd2e hs2 hts he hfr hf3 hbxm hnn hnn1 c0 b0 b1 cm0 qa qb qc hd1l
              go_wp2_with fail
              go_roundw
              case rel => exact ⟨j + 1, r ++ [d1, d2], x2, Q + 4294967296 ^ j * q, by omega, by go_num, Lib.hid (by rw [List.length_append, HR.out]; have := HNN.out; simp; omega), Lib.hid (HRO.out.append (fun z hz => by
                  rcases List.mem_cons.1 hz with rfl | hz
                  · exact HD1.out
                  · rcases List.mem_cons.1 hz with rfl | hz
                    · exact HD2.out
                    · cases hz)), HX2L.out, HMR, HVB, HC4, HF4⟩
              case measure => simp [intOf]; omega
    · have hge : (k : Int) ≤ (j : Int) := by omega
      obtain rfl : k = j := by omega
      have HL : Hid (Lim wo (.slice (some ⟨g, 0, none⟩) (k + 1) N2) P) := Lib.hid (by
        have h := LimK.block (kd := .u32) (B := 4294967296) (W := wo) (g := g) (cap := N2) (l := P) HPO.out (cs := cellsK .u32 (P ++ [z])) (t := 52) HC.out (fun i h => by
          have : (P ++ [z])[i]? = some P[i] := by rw [List.getElem?_append_left h, List.getElem?_eq_getElem h]
          exact cellsK_some this) (by rw [HPL.out]; have := HN2.out; omega) (by have := HN2.out; omega)
        rwa [HPL.out] at h)
      have hbxm := HF.out.heap HBX0.out HGB.out
      have b0 : ∀ W', Below wo.heap.size wo W' → W'.cell? ⟨bx, 0, none⟩ = some (.slice (some ⟨gm, om, none⟩) k cm) := fun W' h => by rw [Lib.cell_of_heap (heap_up h hbxm)]; rfl
      have b1 : ∀ W', Below wo.heap.size wo W' → W'.cell? ⟨bx, 1, none⟩ = some (.int .u32 (minus : Int)) := fun W' h => by rw [Lib.cell_of_heap (heap_up h hbxm)]; rfl
      have HBW : Hid (Below w.heap.size w wo) := Lib.hid (HB0.out.trans (HF.out.below HBS.out (fun b hb => by have := HGW.out; omega)))
      have HLMW : Hid (Lim wo (.slice (some ⟨gm, om, none⟩) k cm) lm) := Lib.hid (HLM.out.up (HBW.out.mono (Nat.le_refl _)))
      have HKT : Hid (valB 4294967296 P * 4294967296 ^ k % M = A * valB 4294967296 lb % M) := Lib.hid (by
        have := HPV.out
        rw [List.take_of_length_le (l := lb) (by have := HNB.out; omega)] at this
        exact mon_res this)
      have hk4 : (k : Int) + 1 ≤ (N2 : Int) := by have := HN2.out; omega
      have hk5 : k + 1 ≤ N2 := by have := HN2.out; omega
      have hb00 := b0 wo (Below.refl _ _)
      have HB0' := Lib.hid b0; have HB1' := Lib.hid b1
      clear b0 b1 hbxm
      go_wp2_with fail
      refine (trim_any _ _ _ HL.out).mono ?_
      rintro e w' ⟨v', rfl, hv, rfl⟩
      unfold trimL at hv
      obtain ⟨T, hT⟩ : ∃ T, valB 4294967296 P = T := ⟨_, rfl⟩
      rw [hT] at hv HKT HPB
      obtain ⟨pv, nv, cv, rfl, -⟩ := hv.open_
      have HV := Lib.hid hv
      clear hv hT
      go_wp2_with fail
      have hLMD : Lim wo (.slice (some ⟨gm, om, none⟩) k cm) (digs 4294967296 M) := by rw [HDE.out]; exact HLMW.out
      refine (compare_any _ _ T M wo HV.out hLMD).mono ?_
      rintro e w2 ⟨rfl, hb2⟩
      clear hLMD
      have hb00 := HB0'.out w2 hb2; have hb01 := HB1'.out w2 hb2
      have HV2 := Lib.hid (HV.out.up hb2); have HLM2 := Lib.hid (HLMW.out.up hb2); have HBW2 := Lib.hid (HBW.out.trans (hb2.mono HBW.out.size)); have HB2 := Lib.hid hb2
      clear hb2
      by_cases hTM : T < M
      · rw [cmpI_lt hTM]
        have HTM := Lib.hid hTM
        have HTL : Hid ((digs 4294967296 T).length ≤ k) := Lib.hid (by
          have := digs_len_mono (B := 4294967296) (by decide) (Nat.le_of_lt hTM)
          rw [HDE.out, HNM.out] at this; exact this)
        clear hTM
        go_wp2_with fail
        refine (full_any _ _ _ _ minus k _ HLM2.out HV2.out HNM.out (HTL.out) (by omega)).mono ?_
        rintro e w4 ⟨v4, rfl, h4, hb4⟩
        have HBZ := Lib.hid (HBW2.out.trans (hb4.mono HBW2.out.size))
        have H4 := Lib.hid h4
        clear hb4 h4
        go_wp2_with fail
        go_ret
        exact ⟨_, _, rfl, H4.out, by rw [List.length_append, List.length_replicate]; have := HTL.out; omega, by rw [valB_pad, valB_digs (by decide)]; exact HTM.out, by rw [valB_pad, valB_digs (by decide)]; exact HKT.out, HBZ.out⟩
      · obtain ⟨ci, hci, hc0⟩ := cmp_ge (m := T) (n := M) (by omega)
        rw [hci]
        have hTM2 : M ≤ T := by omega
        have HTM : Hid (T - M < M) := Lib.hid (by have := HPB.out; have := HAL.out; omega)
        have HTL : Hid ((digs 4294967296 (T - M)).length ≤ k) := Lib.hid (by
          have := digs_len_mono (B := 4294967296) (by decide) (Nat.le_of_lt HTM.out)
          rw [HDE.out, HNM.out] at this; exact this)
        have HMOD : Hid ((T - M) * 4294967296 ^ k % M = A * valB 4294967296 lb % M) := Lib.hid (by rw [mon_sub hTM2]; exact HKT.out)
        have HTM2 := Lib.hid hTM2
        have HT9 : Hid ((digs 4294967296 T).length ≤ k + 1) := Lib.hid (by
          refine digs_len_le (B := 4294967296) (by decide) ?_
          have h1 := HPB.out; have h2 := HAL.out; have h3 := HMB.out
          rw [Nat.pow_succ]
          omega)
        have HLL : Hid (lm.length ≤ (digs 4294967296 T).length) := Lib.hid (by
          have := digs_len_mono (B := 4294967296) (by decide) hTM2
          rw [HDE.out] at this; exact this)
        clear hTM hTM2 hci
        go_wp2_with fail
        have hls := less_any _ _ _ _ w2 HV2.out HLM2.out (by have := HT9.out; omega) HLL.out (by rw [valB_digs (by decide), HMV.out]; exact HTM2.out)
        rw [valB_digs (by decide), HMV.out] at hls
        refine hls.mono ?_
        clear hls
        rintro e w3 ⟨v3, rfl, h3, hb3⟩
        obtain ⟨p3, n3, c3, rfl, -⟩ := h3.open_
        have hb00 := HB0'.out w3 (HB2.out.trans (hb3.mono HB2.out.size)); have hb01 := HB1'.out w3 (HB2.out.trans (hb3.mono HB2.out.size))
        have HV3 := Lib.hid h3; have HLM3 := Lib.hid (HLM2.out.up hb3); have HBW3 := Lib.hid (HBW2.out.trans (hb3.mono HBW2.out.size))
        clear h3 hb3
        go_wp2_with fail
        refine (full_any _ _ _ _ minus k _ HLM3.out HV3.out HNM.out (HTL.out) (by omega)).mono ?_
        rintro e w4 ⟨v4, rfl, h4, hb4⟩
        have HBZ := Lib.hid (HBW3.out.trans (hb4.mono HBW3.out.size))
        have H4 := Lib.hid h4
        clear hb4 h4
        go_wp2_with fail
        go_ret
        exact ⟨_, _, rfl, H4.out, by rw [List.length_append, List.length_replicate]; have := HTL.out; omega, by rw [valB_pad, valB_digs (by decide)]; exact HTM.out, by rw [valB_pad, valB_digs (by decide)]; exact HMOD.out, HBZ.out⟩
end Go.Proofs.YtakbkbmjeanboaaGreatDoor
