/- compare of package nat. Each theorem names its conditions. -/
import Derived.Test.YtakbkbmjeanboaaGreatDoorLimD
import Derived.BigQuiet
import Derived.Deep.QuietTactic
namespace Go.Proofs.YtakbkbmjeanboaaGreatDoor
open Go.RowKit Go.Shelf
open Dgt
set_option linter.unusedVariables false

theorem below_drewN {B : Nat} {a w : World} (h : Below B a w) (n : Nat) : Below B a (w.drewN n) := ⟨h.os, h.tape, h.output, h.size, h.block⟩
def cmpI (m n : Nat) : Int := if m < n then -1 else if n < m then 1 else 0
theorem cmpI_lt {m n : Nat} (h : m < n) : cmpI m n = -1 := by rw [cmpI, if_pos h]
theorem cmpI_gt {m n : Nat} (h : n < m) : cmpI m n = 1 := by rw [cmpI, if_neg (by omega), if_pos h]
theorem cmpI_eq {m : Nat} : cmpI m m = 0 := by rw [cmpI, if_neg (by omega), if_neg (by omega)]
theorem digs_len_lt {B m n : Nat} (hB : 2 ≤ B) (h : (digs B m).length < (digs B n).length) : m < n := by
  rcases Nat.lt_or_ge m n with h' | h'
  · exact h'
  · have := digs_len_mono hB h'; omega
theorem val_lt_of {B : Nat} {la lb : List Nat} (ha : okB B la) (hb : okB B lb) (hl : la.length = lb.length) {k : Nat} (hk : k < la.length) (hd : la.drop (k + 1) = lb.drop (k + 1)) (h : la[k] < lb[k]'(hl ▸ hk)) : valB B la < valB B lb := by
  have e1 := valB_split B la k
  have e2 := valB_split B lb k
  rw [Nat.min_eq_left (by omega), List.drop_eq_getElem_cons hk, valB] at e1
  rw [Nat.min_eq_left (by omega), List.drop_eq_getElem_cons (hl ▸ hk), valB, ← hd] at e2
  have h1 := valB_lt (ha.take k)
  rw [List.length_take, Nat.min_eq_left (by omega)] at h1
  have h2 : B ^ k * (la[k] + B * valB B (la.drop (k + 1))) + B ^ k ≤ B ^ k * (lb[k]'(hl ▸ hk) + B * valB B (la.drop (k + 1))) := by
    rw [← Nat.mul_succ]; exact Nat.mul_le_mul_left _ (by omega)
  omega
set_option maxHeartbeats 4000000 in
set_option maxRecDepth 100000 in
theorem compare_any (va vb : Value) (m n : Nat) (w : World) (ha : Lim w va (digs 4294967296 m)) (hb : Lim w vb (digs 4294967296 n)) :
    Calls Tryz.prog 66 #[va, vb] w fun e w' => e = .returned (.int .i64 (cmpI m n)) ∧ Below w.heap.size w w' := by
  obtain ⟨la, hla⟩ : ∃ l, digs 4294967296 m = l := ⟨_, rfl⟩
  obtain ⟨lb, hlb⟩ : ∃ l, digs 4294967296 n = l := ⟨_, rfl⟩
  have HM := Lib.hid hla; have HN := Lib.hid hlb
  rw [hla] at ha; rw [hlb] at hb
  clear hla hlb
  obtain ⟨pa, na, ca, rfl, hna, hca, hcma⟩ := ha.open_
  obtain ⟨pb, nb, cb, rfl, hnb, hcb, hcmb⟩ := hb.open_
  have HLA := Lib.hid ha; have HLB := Lib.hid hb
  have HNA := Lib.hid hna; have HNB := Lib.hid hnb
  have hna1 : na ≤ 1000000000000 := by omega
  have hna2 : (na : Int) ≤ 1000000000000 := by omega
  clear ha hb hna hnb hcma hcmb hca hcb hna1
  by_cases hne : na = nb
  · subst hne
    go_enter Tryz.func66, Tryz.ntmps66
    go_wp2_with fail
    go_loopw [5] (fun i wr => ∃ (j : Nat) (i' : Int), j ≤ na ∧ i' = (j : Int) - 1 ∧ i = .int .i64 i' ∧ Hid (la.drop j = lb.drop j) ∧ Hid (Below w.heap.size w wr)) (fun i _ => (intOf i + 1).toNat)
    case atStart => exact ⟨na, (na : Int) - 1, Nat.le_refl _, rfl, rfl, Lib.hid (by rw [List.drop_eq_nil_of_le (by have := HNA.out; omega), List.drop_eq_nil_of_le (by have := HNB.out; omega)]), Lib.hid (Below.refl _ _)⟩
    case round =>
      obtain ⟨j, i', hj, hi', rfl, HD, HBW⟩ := hrel
      rcases j with _ | k
      · have hneg : i' < 0 := by omega
        have HE : Hid (m = n) := Lib.hid (by
          have := HD.out
          simp only [List.drop_zero] at this
          rw [← valB_digs (B := 4294967296) (by decide) m, ← valB_digs (B := 4294967296) (by decide) n, HM.out, HN.out, this])
        go_wp2_with fail
        go_ret
        exact ⟨by rw [HE.out, cmpI_eq]; rfl, HBW.out⟩
      · obtain rfl : i' = (k : Int) := by omega
        clear hi'
        have hkA : k < la.length := by have := HNA.out; omega
        have hkB : k < lb.length := by have := HNB.out; omega
        obtain ⟨g1, off1, hp1, hg1, hc1⟩ := HLA.out.cell hkA
        obtain ⟨g2, off2, hp2, hg2, hc2⟩ := HLB.out.cell hkB
        have cA : wr.cell? ⟨g1, off1 + k, none⟩ = some (.int .u32 (la[k] : Int)) := by rw [cell_up2 HBW.out hg1 hg1]; exact hc1
        have cB : wr.cell? ⟨g2, off2 + k, none⟩ = some (.int .u32 (lb[k] : Int)) := by rw [cell_up2 HBW.out hg2 hg2]; exact hc2
        subst hp1; subst hp2
        have hkn : k < na := hj
        have HLT : Hid (la[k] < lb[k] → m < n) := Lib.hid (fun h => by
          have := val_lt_of HLA.out.ok HLB.out.ok (by have := HNA.out; have := HNB.out; omega) hkA HD.out h
          rwa [← HM.out, ← HN.out, valB_digs (by decide), valB_digs (by decide)] at this)
        have HGT : Hid (lb[k] < la[k] → n < m) := Lib.hid (fun h => by
          have := val_lt_of HLB.out.ok HLA.out.ok (by have := HNA.out; have := HNB.out; omega) hkB HD.out.symm h
          rwa [← HM.out, ← HN.out, valB_digs (by decide), valB_digs (by decide)] at this)
        have HEQ : Hid (la[k] = lb[k] → la.drop k = lb.drop k) := Lib.hid (fun h => by
          rw [List.drop_eq_getElem_cons hkA, List.drop_eq_getElem_cons hkB, h, HD.out])
        obtain ⟨x, hx⟩ : ∃ x, la[k] = x := ⟨_, rfl⟩
        obtain ⟨y, hy⟩ : ∃ y, lb[k] = y := ⟨_, rfl⟩
        rw [hx] at cA HLT HGT HEQ; rw [hy] at cB HLT HGT HEQ
        clear hx hy hc1 hc2
        obtain ⟨wo, hwo⟩ : ∃ wo, wo = wr := ⟨_, rfl⟩
        subst hwo
        by_cases hxy : x < y
        · have hxy' : (x : Int) < (y : Int) := by omega
          have HF := Lib.hid (HLT.out hxy)
          clear hxy
          go_wp2_with fail
          go_quiet (fail)
          go_wp2_with fail
          go_ret
          exact ⟨by rw [cmpI_lt HF.out]; rfl, below_drewN HBW.out _⟩
        · have hxy' : ¬ (x : Int) < (y : Int) := by omega
          clear hxy
          by_cases hyx : y < x
          · have hyx' : (y : Int) < (x : Int) := by omega
            have HF := Lib.hid (HGT.out hyx)
            clear hyx
            go_wp2_with fail
            go_quiet (fail)
            go_wp2_with fail
            go_quiet (fail)
            go_wp2_with fail
            go_ret
            exact ⟨by rw [cmpI_gt HF.out]; rfl, below_drewN (below_drewN HBW.out _) _⟩
          · have hyx' : ¬ (y : Int) < (x : Int) := by omega
            have HF := Lib.hid (HEQ.out (by omega))
            clear hyx
            go_wp2_with fail
            go_quiet (fail)
            go_wp2_with fail
            go_quiet (fail)
            go_wp2_with fail
            go_roundw
            case rel => exact ⟨k, (k : Int) - 1, by omega, rfl, by go_num, HF, Lib.hid (below_drewN HBW.out _)⟩
            case measure => simp [intOf]
  · by_cases hlt : na < nb
    · have HF : Hid (m < n) := Lib.hid (digs_len_lt (B := 4294967296) (by decide) (by rw [HM.out, HN.out]; have := HNA.out; have := HNB.out; omega))
      have h1 : ¬ ((na : Int) = (nb : Int)) := by omega
      have h2 : (na : Int) < (nb : Int) := by omega
      go_enter Tryz.func66, Tryz.ntmps66
      go_wp2_with fail
      go_ret
      exact ⟨by rw [cmpI_lt HF.out]; rfl, Below.refl _ _⟩
    · have HF : Hid (n < m) := Lib.hid (digs_len_lt (B := 4294967296) (by decide) (by rw [HM.out, HN.out]; have := HNA.out; have := HNB.out; omega))
      have h1 : ¬ ((na : Int) = (nb : Int)) := by omega
      have h2 : ¬ (na : Int) < (nb : Int) := by omega
      go_enter Tryz.func66, Tryz.ntmps66
      go_wp2_with fail
      go_ret
      exact ⟨by rw [cmpI_gt HF.out]; rfl, Below.refl _ _⟩
end Go.Proofs.YtakbkbmjeanboaaGreatDoor
