/- product of package nat. Each theorem names its conditions. -/
import Derived.Test.YtakbkbmjeanboaaGreatDoorLimD
namespace Go.Proofs.YtakbkbmjeanboaaGreatDoor
open Go.RowKit Go.Shelf
open Dgt
set_option linter.unusedVariables false

theorem okB_snoc {B x : Nat} {S : List Nat} (h : okB B S) (hx : x < B) : okB B (S ++ [x]) := h.append fun z hz => by
  simp only [List.mem_singleton] at hz; subst hz; exact hx
/-! ### one digit times a number, added at a place -/
theorem prod_inner {B i j x y p c : Nat} {Q P lb : List Nat} (hQ : Q.length = i + j) (hP : i + j < P.length) (hp : P[i + j] = p) (hj : j < lb.length) (hy : lb[j] = y)
    (hv : valB B Q + B ^ (i + j) * c = valB B (P.take (i + j)) + B ^ i * (x * valB B (lb.take j))) :
    valB B (Q ++ [(x * y + p + c) % B]) + B ^ (i + (j + 1)) * ((x * y + p + c) / B) = valB B (P.take (i + (j + 1))) + B ^ i * (x * valB B (lb.take (j + 1))) := by
  have h := carry_step (B := B) (S := Q) (x * y + p + c)
  rw [hQ] at h
  rw [← Nat.add_assoc, h, valB_take_succ hP, valB_take_succ hj, hp, hy, Nat.mul_add, Nat.mul_add, Nat.mul_add x, Nat.mul_add (B ^ i)]
  have e : B ^ i * (x * (B ^ j * y)) = B ^ (i + j) * (x * y) := by
    rw [Nat.pow_add, Nat.mul_left_comm x, Nat.mul_assoc]
  rw [e]
  omega
theorem prod_small {B x y p c : Nat} (hx : x < B) (hy : y < B) (hp : p < B) (hc : c < B) : (x * y + p + c) / B < B := by
  rw [Nat.div_lt_iff_lt_mul (by omega)]
  have h1 : x * y + y ≤ B * y := by rw [← Nat.succ_mul]; exact Nat.mul_le_mul_right y hx
  have h2 : B * y + B ≤ B * B := by rw [← Nat.mul_succ]; exact Nat.mul_le_mul_left B hy
  have h3 : x * y ≤ (B - 1) * (B - 1) := Nat.mul_le_mul (by omega) (by omega)
  have h4 : (B - 1) * (B - 1) + (B - 1) + (B - 1) + 1 = B * B := by
    obtain ⟨b, rfl⟩ : ∃ b, B = b + 1 := ⟨B - 1, by omega⟩
    simp only [Nat.add_sub_cancel, Nat.add_mul, Nat.mul_add]; omega
  omega
theorem prod_outer {B i x c : Nat} {Q P la lb : List Nat} (hQ : Q.length = i + lb.length) (hP : P.length = i + lb.length) (hi : i < la.length) (hx : la[i] = x) (hPv : valB B P = valB B (la.take i) * valB B lb)
    (hv : valB B Q + B ^ (i + lb.length) * c = valB B (P.take (i + lb.length)) + B ^ i * (x * valB B (lb.take lb.length))) : valB B (Q ++ [c]) = valB B (la.take (i + 1)) * valB B lb := by
  rw [valB_snoc, hQ, hv, List.take_of_length_le (by omega), List.take_length, hPv, valB_take_succ hi, hx, Nat.add_mul, Nat.mul_assoc]
/-- the digits in hand: what has been done, what is still as it was, zeros -/
theorem put_mid {Q P Z : List Nat} {k x : Nat} (hQ : Q.length = k) (hk : k < P.length) : (Q ++ (P.drop k ++ Z)).set k x = (Q ++ [x]) ++ (P.drop (k + 1) ++ Z) := by
  subst hQ
  rw [List.drop_eq_getElem_cons hk, List.cons_append]
  exact set_here Q _ x _
theorem get_mid {Q P Z : List Nat} {k : Nat} (hQ : Q.length = k) (hk : k < P.length) : (Q ++ (P.drop k ++ Z))[k]? = some P[k] := by
  subst hQ
  rw [List.getElem?_append_right (Nat.le_refl _), Nat.sub_self, List.drop_eq_getElem_cons hk]
  rfl
theorem cellsK_some {kd : IntKind} {l : List Nat} {i x : Nat} (h : l[i]? = some x) : (cellsK kd l)[i]? = some (.int kd (x : Int)) := by
  simp [cellsK, h]
set_option maxHeartbeats 8000000 in
set_option maxRecDepth 100000 in
theorem product_any (va vb : Value) (la lb : List Nat) (w : World) (ha : Lim w va la) (hb : Lim w vb lb) (hla : la.length ≤ 1000000000) (hlb : lb.length ≤ 1000000000) :
    Calls Tryz.prog 56 #[va, vb] w fun e w' => ∃ v', e = .returned v' ∧ Lim w' v' (digs 4294967296 (valB 4294967296 la * valB 4294967296 lb)) ∧ Below w.heap.size w w' := by
  obtain ⟨pa, na, ca, rfl, hna, hca, hcma⟩ := ha.open_
  obtain ⟨pb, nb, cb, rfl, hnb, hcb, hcmb⟩ := hb.open_
  have HLA := Lib.hid ha; have HLB := Lib.hid hb
  have hna1 : (na : Int) ≤ 1000000000 := by omega
  have hnb1 : (nb : Int) ≤ 1000000000 := by omega
  have HNA := Lib.hid hna; have HNB := Lib.hid hnb
  clear ha hb hna hnb hla hlb hca hcb hcma hcmb
  obtain ⟨n, hn⟩ : ∃ n, na + nb = n := ⟨_, rfl⟩
  have hmk := mk_limbs n ((na : Int) + (nb : Int)) (by omega) (by omega)
  have HN := Lib.hid hn
  clear hn
  go_enter Tryz.func56, Tryz.ntmps56
  go_wp2_with fail
  clear hmk
  have HB := Lib.hid ((Below.refl w.heap.size w).alloc (Nat.le_refl _) (.cells (cellsK .u32 (List.replicate n 0)) 52))
  have HK := Lib.hid (heap_alloc_new w (.cells (cellsK .u32 (List.replicate n 0)) 52))
  obtain ⟨w0, hw0⟩ : ∃ w0, w.alloc (.cells (cellsK .u32 (List.replicate n 0)) 52) = w0 := ⟨_, rfl⟩
  rw [hw0] at HB HK ⊢
  obtain ⟨g, hg⟩ : ∃ g, w.heap.size = g := ⟨_, rfl⟩
  have hgw : w.heap.size ≤ g := Nat.le_of_eq hg
  rw [hg] at HK ⊢
  have HG := Lib.hid hg
  clear hw0 hg
  go_loopw [20, 6, 7, 8, 9, 10, 11, 27] (fun i _ _ _ _ _ _ _ wr => ∃ (k : Nat) (P : List Nat), k ≤ na ∧ i = .int .i64 (k : Int) ∧ Hid (P.length = k + nb) ∧ Hid (okB 4294967296 P) ∧ Hid (valB 4294967296 P = valB 4294967296 (la.take k) * valB 4294967296 lb) ∧
      Hid (wr.heap[g]? = some (.cells (cellsK .u32 (P ++ List.replicate (na - k) 0)) 52 (0, 0))) ∧ Hid (Below w.heap.size w wr)) (fun i _ _ _ _ _ _ _ _ => na - (intOf i).toNat)
  case atStart => exact ⟨0, List.replicate nb 0, by omega, rfl, Lib.hid (by simp), Lib.hid (fun x hx => by rw [List.eq_of_mem_replicate hx]; decide), Lib.hid (by rw [valB_zeros]; simp [valB]), Lib.hid (by rw [Nat.sub_zero, List.replicate_append_replicate, Nat.add_comm nb na, HN.out]; exact HK.out), HB⟩
  case round =>
    obtain ⟨k, P, hk, rfl, HPL, HPO, HPV, HC, HBW⟩ := hrel
    obtain ⟨wo, hwo⟩ : ∃ wo, wo = wr := ⟨_, rfl⟩
    subst hwo
    by_cases hlt : k < na
    · have hlt' : (k : Int) < (na : Int) := by omega
      have hkA : k < la.length := by have := HNA.out; omega
      obtain ⟨g1, off1, hp1, hg1, hc1⟩ := HLA.out.cell hkA
      have cA : wo.cell? ⟨g1, off1 + k, none⟩ = some (.int .u32 (la[k] : Int)) := by rw [cell_up2 HBW.out hg1 hg1]; exact hc1
      obtain ⟨x, hx⟩ : ∃ x, la[k] = x := ⟨_, rfl⟩
      have hxl : x < 4294967296 := by rw [← hx]; exact HLA.out.ok.get hkA
      rw [hx] at cA
      subst hp1
      have HX := Lib.hid hx
      clear hx hc1
      have hxl' : (x : Int) < 4294967296 := by omega
      go_wp2_with fail
      go_loopw [27, 9, 10, 11, 8] (fun i _ _ _ cv wr => ∃ (j c : Nat) (Q : List Nat), j ≤ nb ∧ i = .int .i64 (j : Int) ∧ cv = .int .u64 (c : Int) ∧ (c : Int) < 4294967296 ∧ Hid (Q.length = k + j) ∧ Hid (okB 4294967296 Q) ∧
          Hid (valB 4294967296 Q + 4294967296 ^ (k + j) * c = valB 4294967296 (P.take (k + j)) + 4294967296 ^ k * (x * valB 4294967296 (lb.take j))) ∧
          Hid (wr.heap[g]? = some (.cells (cellsK .u32 (Q ++ (P.drop (k + j) ++ List.replicate (na - k) 0))) 52 (0, 0))) ∧ Hid (Below w.heap.size w wr)) (fun i _ _ _ _ _ => nb - (intOf i).toNat)
      case atStart => exact ⟨0, 0, P.take k, by omega, rfl, rfl, by omega, Lib.hid (by rw [List.length_take, HPL.out]; omega), Lib.hid (HPO.out.take _), Lib.hid (by simp [valB]), Lib.hid (by rw [Nat.add_zero, ← List.append_assoc, List.take_append_drop]; exact HC.out), HBW⟩
      case round =>
        obtain ⟨j, c, Q, hj, rfl, rfl, hc, HQ, HQO, HQV, HC, HBW⟩ := hrel
        by_cases hjl : j < nb
        · have hjl' : (j : Int) < (nb : Int) := by omega
          have hjB : j < lb.length := by have := HNB.out; omega
          obtain ⟨g2, off2, hp2, hg2, hc2⟩ := HLB.out.cell hjB
          have cB : wr.cell? ⟨g2, off2 + j, none⟩ = some (.int .u32 (lb[j] : Int)) := by rw [cell_up2 HBW.out hg2 hg2]; exact hc2
          obtain ⟨y, hy⟩ : ∃ y, lb[j] = y := ⟨_, rfl⟩
          have hyl : y < 4294967296 := by rw [← hy]; exact HLB.out.ok.get hjB
          rw [hy] at cB
          subst hp2
          have hkj : k + j < P.length := by rw [HPL.out]; omega
          obtain ⟨p, hp⟩ : ∃ p, P[k + j] = p := ⟨_, rfl⟩
          have hpl : p < 4294967296 := by rw [← hp]; exact HPO.out.get hkj
          have hst := prod_inner HQ.out hkj hp hjB hy HQV.out
          have hsm := prod_small hxl hyl hpl (c := c) (by omega)
          have hget := get_mid (Z := List.replicate (na - k) 0) HQ.out hkj
          rw [hp] at hget
          have cP : wr.cell? ⟨g, k + j, none⟩ = some (.int .u32 (p : Int)) := by rw [Lib.cell_of_heap HC.out]; exact cellsK_some hget
          have hfr : wr.frozen? ⟨g, k + j, none⟩ = false := Lib.frozen_of_heap HC.out _
          obtain ⟨t, ht⟩ : ∃ t, x * y = t := ⟨_, rfl⟩
          have htl : t ≤ 18446744065119617025 := by rw [← ht]; exact Nat.mul_le_mul (show x ≤ 4294967295 by omega) (show y ≤ 4294967295 by omega)
          rw [ht] at hst hsm
          have qt : (x : Int) * (y : Int) = (t : Int) := by rw [← ht]; simp
          obtain ⟨r, hr⟩ : ∃ r, (t + p + c) % 4294967296 = r := ⟨_, rfl⟩
          obtain ⟨c', hc'⟩ : ∃ c', (t + p + c) / 4294967296 = c' := ⟨_, rfl⟩
          rw [hr, hc'] at hst
          rw [hc'] at hsm
          have hrl : r < 4294967296 := by rw [← hr]; exact Nat.mod_lt _ (by decide)
          have q1 : ((t : Int) + (p : Int) + (c : Int)) % 4294967296 = (r : Int) := by omega
          have q2 : ((t : Int) + (p : Int) + (c : Int)) / 4294967296 = (c' : Int) := by omega
          have htl' : (t : Int) ≤ 18446744065119617025 := by omega
          have hpl' : (p : Int) < 4294967296 := by omega
          have hkjn : k + j < n := by have := HN.out; omega
          have HST := Lib.hid hst
          have HPM := Lib.hid (put_mid (Z := List.replicate (na - k) 0) (x := r) HQ.out hkj)
          clear hst hr hc' hy hp hc2 hget ht htl
          go_wp2_with fail
          go_roundw
          case rel => exact ⟨j + 1, c', Q ++ [r], by omega, by go_num, rfl, by omega, Lib.hid (by rw [List.length_append, HQ.out]; rfl), Lib.hid (okB_snoc HQO.out hrl), Lib.hid HST.out, Lib.hid (by rw [show k + (j + 1) = k + j + 1 from rfl, ← HPM.out]; exact set_block HC.out), Lib.hid (HBW.out.setCell (p := ⟨g, k + j, none⟩) hgw _)⟩
          case measure => simp [intOf]; omega
        · have hge : (nb : Int) ≤ (j : Int) := by omega
          obtain rfl : j = nb := by omega
          obtain ⟨m, hm⟩ : ∃ m, na - k = m + 1 := ⟨na - k - 1, by omega⟩
          have hm2 : na - (k + 1) = m := by omega
          have hkn : k + j < n := by have := HN.out; omega
          have hcl : c < 4294967296 := by omega
          have HC2 : Hid (wr.heap[g]? = some (.cells (cellsK .u32 (Q ++ List.replicate (m + 1) 0)) 52 (0, 0))) := Lib.hid (by
            have := HC.out
            rwa [List.drop_eq_nil_of_le (by rw [HPL.out]; omega), List.nil_append, hm] at this)
          have HSZ := Lib.hid (set_zeros Q c m)
          have hfr : wr.frozen? ⟨g, k + j, none⟩ = false := Lib.frozen_of_heap HC2.out _
          obtain ⟨z, hz⟩ : ∃ z, wr.cell? ⟨g, k + j, none⟩ = some z := by rw [Lib.cell_of_heap HC2.out]; exact ⟨_, cellsK_get (by simp [HQ.out])⟩
          have q1 : (c : Int) % 4294967296 = (c : Int) := by omega
          have HV2 := Lib.hid (prod_outer (c := c) (la := la) (lb := lb) (by rw [HQ.out, HNB.out]) (by rw [HPL.out, HNB.out]) hkA HX.out HPV.out (by have := HQV.out; rwa [HNB.out] at this))
          have HM := Lib.hid hm2
          clear hm hm2
          go_wp2_with fail
          go_roundw
          case rel => exact ⟨k + 1, Q ++ [c], by omega, by go_num, Lib.hid (by rw [List.length_append, HQ.out]; simp; omega), Lib.hid (okB_snoc HQO.out hcl), Lib.hid HV2.out, Lib.hid (by rw [HM.out, ← HSZ.out, HQ.out]; exact set_block HC2.out), Lib.hid (HBW.out.setCell (p := ⟨g, k + j, none⟩) hgw _)⟩
          case measure => simp [intOf]; omega
    · have hge : (na : Int) ≤ (k : Int) := by omega
      obtain rfl : k = na := by omega
      have HL : Hid (Lim wo (.slice (some ⟨g, 0, none⟩) n n) P) := Lib.hid (by
        have h := LimK.block (kd := .u32) (B := 4294967296) (W := wo) (g := g) (cap := n) (l := P) HPO.out (cs := cellsK .u32 P) (t := 52) (by
          have := HC.out
          rwa [Nat.sub_self, List.replicate_zero, List.append_nil] at this) (fun i h => cellsK_get h) (by rw [HPL.out, HN.out]; omega) (by have := HN.out; omega)
        rwa [HPL.out, HN.out] at h)
      have HV2 : Hid (trimL 4294967296 P = digs 4294967296 (valB 4294967296 la * valB 4294967296 lb)) := Lib.hid (by
        unfold trimL
        rw [HPV.out, List.take_of_length_le (by have := HNA.out; omega)])
      go_wp2_with fail
      refine (trim_any _ _ _ HL.out).mono ?_
      rintro e w' ⟨v', rfl, hv, rfl⟩
      go_wp2_with fail
      go_ret
      exact ⟨_, rfl, by rw [← HV2.out]; exact hv, HG.out ▸ HBW.out⟩
end Go.Proofs.YtakbkbmjeanboaaGreatDoor
