/- Mul of the reference implementation. Each theorem names its conditions. -/
import Derived.Test.YtakbkbmjeanboaaGreatDoorRefY
import Derived.Test.YtakbkbmjeanboaaGreatDoorLimF
import Derived.Deep.QuietTactic
import Derived.BigQuiet
namespace Go.Proofs.YtakbkbmjeanboaaGreatDoor
open Go.RowKit Go.Shelf
open Dgt
set_option linter.unusedVariables false

theorem mk_ints (n : Nat) (x : Int) (hx : x = n) (hn : n ≤ 1000000000) (W : World) : (Instr.makeSlice 46 (.int .i64 x) (.int .i64 x)).run Tryz.prog W =
    .ok (.slice (some ⟨W.heap.size, 0, none⟩) n n) (W.alloc (.cells (cellsK .i64 (List.replicate n 0)) 3)) := by
  subst hx
  rw [run_make_row' 46 3 (.int .i64 0) 8 Tryz.underlying46 infoInt rfl _ _ n (by omega) (by omega) W, madeCells_rep, cellsK_zeros]
set_option maxHeartbeats 8000000 in
set_option maxRecDepth 100000 in
theorem rMul_any (a b : ByteArray) (w : World) (ha : a.size ≤ 1000000) (hb : b.size ≤ 1000000) :
    Calls Tryz.prog 16 #[.string a, .string b] w fun e w' => e = .returned (.string (encS (numS a * numS b))) ∧ Below w.heap.size w w' := by
  have SMA := Lib.hid (small_any a 3 · (by omega) (by decide)); have SMB := Lib.hid (small_any b 4 · (by omega) (by decide))
  have OA := Lib.hid (rof_any a · (by omega)); have OB := Lib.hid (rof_any b · (by omega))
  have la : (digs 16777216 (numS a)).length ≤ 1000000 := Nat.le_trans (digs_len_le (by decide) (Nat.lt_of_lt_of_le (numS_lt a) (Nat.pow_le_pow_left (by decide) _))) ha
  have lb : (digs 16777216 (numS b)).length ≤ 1000000 := Nat.le_trans (digs_len_le (by decide) (Nat.lt_of_lt_of_le (numS_lt b) (Nat.pow_le_pow_left (by decide) _))) hb
  obtain ⟨A, hA⟩ : ∃ A, numS a = A := ⟨_, rfl⟩
  obtain ⟨B, hB⟩ : ∃ B, numS b = B := ⟨_, rfl⟩
  rw [hA] at SMA OA la; rw [hB] at SMB OB lb
  rw [hA, hB]
  have LA := Lib.hid la; have LB := Lib.hid lb
  clear ha hb la lb hA hB
  by_cases hab : (encS A).size ≤ 3 ∧ (encS B).size ≤ 4
  · obtain ⟨a1, a2, a3, -⟩ := small_yes (m := A) hab.1 (by decide)
    obtain ⟨b1, b2, b3, -⟩ := small_yes (m := B) hab.2 (by decide)
    rw [a1, a2] at SMA; rw [b1, b2] at SMB
    obtain ⟨t, ht⟩ : ∃ t, A * B = t := ⟨_, rfl⟩
    have htl : t ≤ 72057594037927936 := by rw [← ht]; exact Nat.le_trans (Nat.mul_le_mul (show A ≤ 16777216 by omega) (show B ≤ 4294967296 by omega)) (by decide)
    have qt : (A : Int) * (B : Int) = (t : Int) := by rw [← ht]; simp
    have HOF := Lib.hid (fun w => rOf_any (t : Int) w (by omega))
    rw [ht]
    have e : ((t : Int)).toNat = t := by omega
    rw [e] at HOF
    have htl' : (t : Int) ≤ 72057594037927936 := by omega
    clear hab a1 a2 a3 b1 b2 b3 e ht htl
    go_enter Tryz.func16, Tryz.ntmps16
    go_wp2_with fail
    refine (SMA.out _).mono ?_
    rintro e w1 ⟨rfl, rfl⟩
    go_wp2_with fail
    refine (SMB.out _).mono ?_
    rintro e w1 ⟨rfl, rfl⟩
    go_wp2_with fail
    refine (HOF.out _).mono ?_
    rintro e w1 ⟨rfl, hb⟩
    have HBX := Lib.hid hb
    clear hb
    go_wp2_with fail
    go_ret
    exact ⟨rfl, HBX.out⟩
  obtain ⟨p1, x1, hp1⟩ : ∃ p x, p = smallB A 3 ∧ x = smallV A 3 := ⟨_, _, rfl, rfl⟩
  obtain ⟨p2, x2, hp2⟩ : ∃ p x, p = smallB B 4 ∧ x = smallV B 4 := ⟨_, _, rfl, rfl⟩
  have hpp : p1 = false ∨ (p1 = true ∧ p2 = false) := by
    rw [hp1.1, hp2.1]
    rcases Nat.lt_or_ge 3 (encS A).size with h | h
    · exact .inl (small_no h).1
    · refine .inr ⟨(small_yes h (by decide)).1, (small_no ?_).1⟩
      rcases Nat.lt_or_ge 4 (encS B).size with h' | h'
      · exact h'
      · exact absurd ⟨h, h'⟩ hab
  rw [← hp1.1, ← hp1.2] at SMA
  rw [← hp2.1, ← hp2.2] at SMB
  clear hp1 hp2 hab
  go_enter Tryz.func16, Tryz.ntmps16
  go_wp2_with fail
  refine (SMA.out _).mono ?_
  rintro e w1 ⟨rfl, rfl⟩
  go_wp2_with fail
  refine (SMB.out _).mono ?_
  rintro e w1 ⟨rfl, rfl⟩
  rcases hpp with rfl | ⟨rfl, rfl⟩
  all_goals
    go_wp2_with fail
    refine (OA.out _).mono ?_
    rintro e w2 ⟨vu, rfl, hl, hb⟩
    have HU := Lib.hid hl; have HB0 := Lib.hid hb
    clear hl hb
    go_wp2_with fail
    refine (OB.out _).mono ?_
    rintro e w3 ⟨vv, rfl, hl, hb⟩
    have HLA := Lib.hid (HU.out.up hb); have HLB := Lib.hid hl; have HB0 := Lib.hid (HB0.out.trans (hb.mono HB0.out.size))
    clear hl hb
    obtain ⟨pa, na, ca, rfl, hna, hca, -⟩ := HLA.out.open_
    obtain ⟨pb, nb, cb, rfl, hnb, hcb, -⟩ := HLB.out.open_
    obtain ⟨la, hU⟩ : ∃ la, digs 16777216 A = la := ⟨_, rfl⟩
    obtain ⟨lb, hV⟩ : ∃ lb, digs 16777216 B = lb := ⟨_, rfl⟩
    have hUV : valB 16777216 la = A := by rw [← hU]; exact valB_digs (by decide) A
    have hVV : valB 16777216 lb = B := by rw [← hV]; exact valB_digs (by decide) B
    rw [hU] at HLA hna LA; rw [hV] at HLB hnb LB
    have HUV := Lib.hid hUV; have HVV := Lib.hid hVV; have HNA := Lib.hid hna; have HNB := Lib.hid hnb
    have hna1 : (na : Int) ≤ 1000000 := by have := LA.out; omega
    have hnb1 : (nb : Int) ≤ 1000000 := by have := LB.out; omega
    have hcu' : (na : Int) ≤ (ca : Int) := by omega
    have hcv' : (nb : Int) ≤ (cb : Int) := by omega
    obtain ⟨n, hn⟩ : ∃ n, na + nb = n := ⟨_, rfl⟩
    have hmk := mk_ints n ((na : Int) + (nb : Int)) (by omega) (by omega)
    have HN := Lib.hid hn
    clear hU hV hUV hVV hna hnb hca hcb hn
    go_wp2_with fail
    clear hmk
    have HB := Lib.hid ((Below.refl w3.heap.size w3).alloc (Nat.le_refl _) (.cells (cellsK .i64 (List.replicate n 0)) 3))
    have HK := Lib.hid (heap_alloc_new w3 (.cells (cellsK .i64 (List.replicate n 0)) 3))
    obtain ⟨w0, hw0⟩ : ∃ w0, w3.alloc (.cells (cellsK .i64 (List.replicate n 0)) 3) = w0 := ⟨_, rfl⟩
    rw [hw0] at HB HK ⊢
    obtain ⟨g, hg⟩ : ∃ g, w3.heap.size = g := ⟨_, rfl⟩
    have hgw : w3.heap.size ≤ g := Nat.le_of_eq hg
    rw [hg] at HK ⊢
    have HG := Lib.hid hg
    clear hw0 hg
    go_loopw [12] (fun i wr => ∃ (k : Nat) (P : List Nat), k ≤ na ∧ i = .int .i64 (k : Int) ∧ Hid (P.length = k + nb) ∧ Hid (okB 16777216 P) ∧ Hid (valB 16777216 P = valB 16777216 (la.take k) * valB 16777216 lb) ∧
        Hid (wr.heap[g]? = some (.cells (cellsK .i64 (P ++ List.replicate (na - k) 0)) 3 (0, 0))) ∧ Hid (Below w3.heap.size w3 wr)) (fun i _ => na - (intOf i).toNat)
    case atStart => exact ⟨0, List.replicate nb 0, by omega, rfl, Lib.hid (by simp), Lib.hid (fun x hx => by rw [List.eq_of_mem_replicate hx]; decide), Lib.hid (by rw [valB_zeros]; simp [valB]), Lib.hid (by rw [Nat.sub_zero, List.replicate_append_replicate, Nat.add_comm nb na, HN.out]; exact HK.out), HB⟩
    case round =>
      obtain ⟨k, P, hk, rfl, HPL, HPO, HPV, HC, HBW⟩ := hrel
      obtain ⟨wo, hwo⟩ : ∃ wo, wo = wr := ⟨_, rfl⟩
      subst hwo
      by_cases hlt : k < na
      · have hlt' : (k : Int) < (na : Int) := by omega
        have hkA : k < la.length := by have := HNA.out; omega
        obtain ⟨g1, off1, hp1, hg1, hc1⟩ := HLA.out.cell hkA
        have cA : wo.cell? ⟨g1, off1 + k, none⟩ = some (.int .i64 (la[k] : Int)) := by rw [cell_up2 HBW.out hg1 hg1]; exact hc1
        obtain ⟨x, hx⟩ : ∃ x, la[k] = x := ⟨_, rfl⟩
        have hxl : x < 16777216 := by rw [← hx]; exact HLA.out.ok.get hkA
        rw [hx] at cA hc1
        subst hp1
        have HC1 := Lib.hid hc1
        have HX := Lib.hid hx
        clear hx hc1
        have hxl' : (x : Int) < 16777216 := by omega
        go_wp2_with fail
        go_loopw [14, 13] (fun i cv wr => ∃ (j c : Nat) (Q : List Nat), j ≤ nb ∧ i = .int .i64 (j : Int) ∧ cv = .int .i64 (c : Int) ∧ (c : Int) < 16777216 ∧ Hid (Q.length = k + j) ∧ Hid (okB 16777216 Q) ∧
            Hid (valB 16777216 Q + 16777216 ^ (k + j) * c = valB 16777216 (P.take (k + j)) + 16777216 ^ k * (x * valB 16777216 (lb.take j))) ∧
            Hid (wr.heap[g]? = some (.cells (cellsK .i64 (Q ++ (P.drop (k + j) ++ List.replicate (na - k) 0))) 3 (0, 0))) ∧ Hid (Below w3.heap.size w3 wr)) (fun i _ _ => nb - (intOf i).toNat)
        case atStart => exact ⟨0, 0, P.take k, by omega, rfl, rfl, by omega, Lib.hid (by rw [List.length_take, HPL.out]; omega), Lib.hid (HPO.out.take _), Lib.hid (by simp [valB]), Lib.hid (by rw [Nat.add_zero, ← List.append_assoc, List.take_append_drop]; exact HC.out), HBW⟩
        case round =>
          obtain ⟨j, c, Q, hj, rfl, rfl, hc, HQ, HQO, HQV, HC, HBW⟩ := hrel
          by_cases hjl : j < nb
          · have hjl' : (j : Int) < (nb : Int) := by omega
            have hjB : j < lb.length := by have := HNB.out; omega
            obtain ⟨g2, off2, hp2, hg2, hc2⟩ := HLB.out.cell hjB
            have cB : wr.cell? ⟨g2, off2 + j, none⟩ = some (.int .i64 (lb[j] : Int)) := by rw [cell_up2 HBW.out hg2 hg2]; exact hc2
            have cA2 : wr.cell? ⟨g1, off1 + k, none⟩ = some (.int .i64 (x : Int)) := by rw [cell_up2 HBW.out hg1 hg1]; exact HC1.out
            obtain ⟨y, hy⟩ : ∃ y, lb[j] = y := ⟨_, rfl⟩
            have hyl : y < 16777216 := by rw [← hy]; exact HLB.out.ok.get hjB
            rw [hy] at cB
            subst hp2
            have hkj : k + j < P.length := by rw [HPL.out]; omega
            obtain ⟨p, hp⟩ : ∃ p, P[k + j] = p := ⟨_, rfl⟩
            have hpl : p < 16777216 := by rw [← hp]; exact HPO.out.get hkj
            have hst := prod_inner HQ.out hkj hp hjB hy HQV.out
            have hsm := prod_small hxl hyl hpl (c := c) (by omega)
            have hget := get_mid (Z := List.replicate (na - k) 0) HQ.out hkj
            rw [hp] at hget
            obtain ⟨m, hm⟩ : ∃ m, k + j = m := ⟨_, rfl⟩
            have cP : wr.cell? ⟨g, m, none⟩ = some (.int .i64 (p : Int)) := by rw [Lib.cell_of_heap HC.out, ← hm]; exact cellsK_some hget
            have hfr : wr.frozen? ⟨g, m, none⟩ = false := Lib.frozen_of_heap HC.out _
            obtain ⟨t, ht⟩ : ∃ t, x * y = t := ⟨_, rfl⟩
            have htl : t ≤ 281474943156225 := by rw [← ht]; exact Nat.mul_le_mul (show x ≤ 16777215 by omega) (show y ≤ 16777215 by omega)
            rw [ht] at hst hsm
            have qt : (x : Int) * (y : Int) = (t : Int) := by rw [← ht]; simp
            obtain ⟨r, hr⟩ : ∃ r, (t + p + c) % 16777216 = r := ⟨_, rfl⟩
            obtain ⟨c', hc'⟩ : ∃ c', (t + p + c) / 16777216 = c' := ⟨_, rfl⟩
            rw [hr, hc'] at hst
            rw [hc'] at hsm
            have hrl : r < 16777216 := by rw [← hr]; exact Nat.mod_lt _ (by decide)
            have htl' : (t : Int) ≤ 281474943156225 := by omega
            have f0 : (k : Int) + (j : Int) = (m : Int) := by omega
            have f0w : IntKind.i64.wrap (m : Int) = (m : Int) := IntWalk.i64_in _ (by omega)
            obtain ⟨u, hu⟩ : ∃ u, p + t = u := ⟨_, rfl⟩
            obtain ⟨s, hs⟩ : ∃ s, u + c = s := ⟨_, rfl⟩
            have f1 : (p : Int) + (t : Int) = (u : Int) := by omega
            have f2 : (u : Int) + (c : Int) = (s : Int) := by omega
            have fw1 : IntKind.i64.wrap (t : Int) = (t : Int) := IntWalk.i64_in _ (by omega)
            have fw2 : IntKind.i64.wrap (u : Int) = (u : Int) := IntWalk.i64_in _ (by omega)
            have fw3 : IntKind.i64.wrap (s : Int) = (s : Int) := IntWalk.i64_in _ (by omega)
            have q1 : (s : Int) % 16777216 = (r : Int) := by omega
            have q2 : (s : Int) / 16777216 = (c' : Int) := by omega
            have hs9 : (s : Int) ≤ 281475000000000 := by omega
            have hmn : (m : Int) < (n : Int) := by have := HN.out; omega
            have hpl' : (p : Int) < 16777216 := by omega
            have hkjn : k + j < n := by have := HN.out; omega
            have HST := Lib.hid hst
            have HPM := Lib.hid (put_mid (Z := List.replicate (na - k) 0) (x := r) HQ.out hkj)
            have HMK := Lib.hid hm
            clear hst hr hc' hy hp hc2 hget ht htl hu hs hm hkjn hkj
            go_wp2_with fail
            refine wp_region_still_tail 18 (by kernel_rfl) (by kernel_rfl) ?_
            simp only [List.take_succ_cons, List.take_zero, List.drop_succ_cons, List.drop_zero]
            iterate 18 still_step
            refine wpStill_nil ?_
            change wpList _ _ _ _ _ wr.drew
            go_wp2_with fail
            go_roundw
            case rel => exact ⟨j + 1, c', Q ++ [r], by omega, by go_num, rfl, by omega, Lib.hid (by rw [List.length_append, HQ.out]; rfl), Lib.hid (okB_snoc HQO.out hrl), Lib.hid HST.out, Lib.hid (by have hmk := HMK.out; subst hmk; rw [show k + (j + 1) = k + j + 1 from rfl, ← HPM.out]; exact set_block HC.out), Lib.hid (HBW.out.setCell (p := ⟨g, m, none⟩) hgw _).drew⟩
            case measure => simp [intOf]; omega
          · have hge : (nb : Int) ≤ (j : Int) := by omega
            obtain rfl : j = nb := by omega
            obtain ⟨m, hm⟩ : ∃ m, na - k = m + 1 := ⟨na - k - 1, by omega⟩
            have hm2 : na - (k + 1) = m := by omega
            have hkn : k + j < n := by have := HN.out; omega
            have hcl : c < 16777216 := by omega
            have HC2 : Hid (wr.heap[g]? = some (.cells (cellsK .i64 (Q ++ List.replicate (m + 1) 0)) 3 (0, 0))) := Lib.hid (by
              have := HC.out
              rwa [List.drop_eq_nil_of_le (by rw [HPL.out]; omega), List.nil_append, hm] at this)
            have HSZ := Lib.hid (set_zeros Q c m)
            have hfr : wr.frozen? ⟨g, k + j, none⟩ = false := Lib.frozen_of_heap HC2.out _
            obtain ⟨z, hz⟩ : ∃ z, wr.cell? ⟨g, k + j, none⟩ = some z := by rw [Lib.cell_of_heap HC2.out]; exact ⟨_, cellsK_get (by simp [HQ.out])⟩
            have q1 : (c : Int) % 16777216 = (c : Int) := by omega
            have HV2 := Lib.hid (prod_outer (c := c) (la := la) (lb := lb) (by rw [HQ.out, HNB.out]) (by rw [HPL.out, HNB.out]) hkA HX.out HPV.out (by have := HQV.out; rwa [HNB.out] at this))
            have HM := Lib.hid hm2
            clear hm hm2
            go_wp2_with fail
            go_roundw
            case rel => exact ⟨k + 1, Q ++ [c], by omega, by go_num, Lib.hid (by rw [List.length_append, HQ.out]; simp; omega), Lib.hid (okB_snoc HQO.out hcl), Lib.hid HV2.out, Lib.hid (by rw [HM.out, ← HSZ.out, HQ.out]; exact set_block HC2.out), Lib.hid (HBW.out.setCell (p := ⟨g, k + j, none⟩) hgw _)⟩
            case measure => simp [intOf]; omega
      · have hge : (na : Int) ≤ (k : Int) := by omega
        obtain rfl : k = na := by omega
        have HL : Hid (LimR wo (.slice (some ⟨g, 0, none⟩) n n) P) := Lib.hid (by
          have h := LimR.block (W := wo) (g := g) (cap := n) (l := P) HPO.out (cs := cellsK .i64 P) (t := 3) (by
            have := HC.out
            rwa [Nat.sub_self, List.replicate_zero, List.append_nil] at this) (fun i h => cellsK_get h) (by rw [HPL.out, HN.out]; omega) (by rw [HPL.out]; omega)
          rwa [HPL.out, HN.out] at h)
        have HRES : Hid (valB 16777216 P = A * B) := Lib.hid (by rw [HPV.out, List.take_of_length_le (by have := HNA.out; omega), HUV.out, HVV.out])
        have HP9 : Hid (P.length ≤ 30000000) := Lib.hid (by rw [HPL.out]; omega)
        have HBZ := Lib.hid (HB0.out.trans (HBW.out.mono HB0.out.size))
        go_wp2_with fail
        refine (rnumber_any _ _ _ HL.out HP9.out).mono ?_
        rintro e w4 ⟨rfl, hb⟩
        rw [HRES.out]
        have HBZ := Lib.hid (HBZ.out.trans (hb.mono HBZ.out.size))
        clear hb
        go_wp2_with fail
        go_ret
        exact ⟨rfl, HBZ.out⟩
end Go.Proofs.YtakbkbmjeanboaaGreatDoor
