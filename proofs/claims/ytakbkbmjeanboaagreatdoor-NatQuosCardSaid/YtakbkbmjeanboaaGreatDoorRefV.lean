/- of of the reference implementation. Each theorem names its conditions. -/
import Derived.Test.YtakbkbmjeanboaaGreatDoorRefU
namespace Go.Proofs.YtakbkbmjeanboaaGreatDoor
open Go.RowKit Go.Shelf
open Dgt
set_option linter.unusedVariables false

theorem b24 (j : Nat) : (16777216 : Nat) ^ j = 256 ^ (3 * j) := by rw [Nat.pow_mul]
/-- the bytes from s on, one more -/
theorem run_step {N L s k x : Nat} (hs : s ≤ k) (hk : k < L) (hx : N / 256 ^ (L - 1 - k) % 256 = x) : N / 256 ^ (L - k) % 256 ^ (k - s) * 256 + x = N / 256 ^ (L - (k + 1)) % 256 ^ (k + 1 - s) := by
  rw [show L - (k + 1) = L - 1 - k by omega, show L - k = (L - 1 - k) + 1 by omega, show k + 1 - s = (k - s) + 1 by omega, Nat.pow_succ 256 (L - 1 - k), ← Nat.div_div_eq_div_mul, Nat.pow_succ 256 (k - s), Nat.mul_comm (256 ^ (k - s)) 256]
  obtain ⟨M, hM⟩ : ∃ M, N / 256 ^ (L - 1 - k) = M := ⟨_, rfl⟩
  rw [hM] at hx ⊢
  rw [Nat.mod_mul, ← hx]; omega
/-- the digit of a round -/
theorem run_digit {N L j e s : Nat} (hN : N < 256 ^ L) (he : L = 3 * j + e) (he0 : 0 < e) (hs : s = e - 3) : N / 256 ^ (L - e) % 256 ^ (e - s) = N / 16777216 ^ j % 16777216 := by
  rw [b24, show L - e = 3 * j by omega]
  rcases Nat.lt_or_ge e 3 with h | h
  · have h1 : N / 256 ^ (3 * j) < 256 ^ e := by
      rw [Nat.div_lt_iff_lt_mul (Nat.pow_pos (by decide)), ← Nat.pow_add, show e + 3 * j = L by omega]; exact hN
    rw [show s = 0 by omega, Nat.sub_zero, Nat.mod_eq_of_lt h1, Nat.mod_eq_of_lt]
    exact Nat.lt_of_lt_of_le h1 (Nat.le_trans (Nat.pow_le_pow_right (by decide) (show e ≤ 3 by omega)) (by decide))
  · rw [show e - s = 3 by omega]
theorem run_val {N j d : Nat} {l : List Nat} (hl : l.length = j) (hv : valB 16777216 l = N % 16777216 ^ j) (hd : d = N / 16777216 ^ j % 16777216) : valB 16777216 (l ++ [d]) = N % 16777216 ^ (j + 1) := by
  rw [valB_snoc, hl, hv, Nat.pow_succ, Nat.mod_mul, hd]
theorem run_end {N j : Nat} {l : List Nat} (ho : okB 16777216 l) (hl : l.length = j) (hv : valB 16777216 l = N % 16777216 ^ j) (hL : (encS N).size ≤ 3 * j) (hj : j = 0 ∨ 3 * (j - 1) < (encS N).size) : l = digs 16777216 N := by
  have hN := digs_lt (B := 256) (by decide) N
  rw [← encS_size] at hN
  have h1 : N < 16777216 ^ j := by rw [b24]; exact Nat.lt_of_lt_of_le hN (Nat.pow_le_pow_right (by decide) hL)
  rw [Nat.mod_eq_of_lt h1] at hv
  refine valB_inj ho (okB_digs (by decide) _) ?_ (by rw [hv, valB_digs (by decide)])
  rw [hl]
  rcases Nat.eq_zero_or_pos N with rfl | h0
  · rw [digs_zero]
    rcases hj with h | h
    · exact h
    · rw [encS_size, digs_zero] at h; simp at h
  · have h2 := digs_ge (B := 256) (by decide) h0
    rw [← encS_size] at h2
    rcases hj with rfl | h
    · simp at h1; omega
    · have hj0 : 0 < j := by
        rcases Nat.eq_zero_or_pos j with rfl | h'
        · simp at h1; omega
        · exact h'
      have h3 : 16777216 ^ (j - 1) ≤ N := by rw [b24]; exact Nat.le_trans (Nat.pow_le_pow_right (by decide) (by omega)) h2
      have h4 := digs_len_eq (B := 16777216) (k := j - 1) (by decide) h3 (by rw [show j - 1 + 1 = j by omega]; exact h1)
      omega
set_option maxHeartbeats 4000000 in
set_option maxRecDepth 100000 in
theorem rof_any (a : ByteArray) (w : World) (ha : a.size ≤ 100000000) :
    Calls Tryz.prog 43 #[.string a] w fun e w' => ∃ v, e = .returned v ∧ LimR w' v (digs 16777216 (numS a)) ∧ Below w.heap.size w w' := by
  obtain ⟨i0, hi, hz0, hz1, hz2⟩ := info_partsN infoInt
  have HC := Lib.hid (Canon_any a · ha)
  have hl := encS_len_le a
  obtain ⟨N, hN⟩ : ∃ N, numS a = N := ⟨_, rfl⟩
  rw [hN] at HC hl ⊢
  have HNL : Hid (N < 256 ^ (encS N).size) := Lib.hid (by rw [encS_size]; exact digs_lt (by decide) N)
  have HBY := Lib.hid (fun k (h : k < (encS N).size) => byte_at N h)
  have HEND := Lib.hid (fun j l (h1 : okB 16777216 l) h2 h3 h4 h5 => run_end (N := N) (j := j) (l := l) h1 h2 h3 h4 h5)
  obtain ⟨c, hc⟩ : ∃ c, encS N = c := ⟨_, rfl⟩
  rw [hc] at HC HNL HEND
  have HCE := Lib.hid hc
  have hc8 : (c.size : Int) ≤ 100000000 := by rw [← hc]; omega
  have HC8 : Hid (c.size ≤ 100000000) := Lib.hid (by omega)
  clear hN hl ha hc
  go_enter Tryz.func43, Tryz.ntmps43
  go_wp2_with fail
  refine (HC.out _).mono ?_
  rintro e w1 ⟨rfl, rfl⟩
  clear HC
  go_wp2_with fail
  go_loopw [3, 4] (fun v i wr => ∃ (j : Nat) (k : Int) (l : List Nat), i = .int .i64 k ∧ Hid (k = (c.size : Int) - 3 * (j : Int)) ∧ Hid (-3 < k) ∧ Hid (l.length = j) ∧ Hid (okB 16777216 l) ∧ Hid (valB 16777216 l = N % 16777216 ^ j) ∧ Hid (wr.ownsRow w.heap.size 3 1 v l.length (digC .i64 l)) ∧ Hid (Below w.heap.size w wr)) (fun _ i _ => (intOf i + 3).toNat)
  case atStart => exact ⟨0, _, [], rfl, Lib.hid (by omega), Lib.hid (by omega), Lib.hid rfl, Lib.hid (okB_nil _), Lib.hid (by simp [valB, Nat.mod_one]), Lib.hid (World.ownsRow_nil _ _ _ _), Lib.hid (Below.refl _ _)⟩
  case round =>
    obtain ⟨j, k, l, rfl, HK, HK3, HL, HOK, HV, HOWN, HB⟩ := hrel
    by_cases hlt : 0 < k
    · obtain ⟨e, rfl⟩ : ∃ e : Nat, k = (e : Int) := ⟨k.toNat, by omega⟩
      obtain ⟨s, hs⟩ : ∃ s, e - 3 = s := ⟨_, rfl⟩
      have hms : max ((e : Int) - 3) 0 = (s : Int) := by omega
      have hec : (e : Int) ≤ (c.size : Int) := by have := HK.out; omega
      have HS := Lib.hid hs
      have HE0 : Hid (0 < e) := Lib.hid (by omega)
      clear hs
      go_wp2_with fail
      go_loop [5, 6] (fun d i => ∃ q : Nat, Hid (s ≤ q) ∧ Hid (q ≤ e) ∧ i = .int .i64 (q : Int) ∧ d = .int .i64 ((N / 256 ^ (c.size - q) % 256 ^ (q - s) : Nat) : Int)) (fun _ i => e - (intOf i).toNat)
      case atStart => exact ⟨s, Lib.hid (Nat.le_refl _), Lib.hid (by have := HS.out; omega), rfl, by rw [Nat.sub_self, Nat.pow_zero, Nat.mod_one]; rfl⟩
      case round =>
        obtain ⟨q, HQ1, HQ2, rfl, rfl⟩ := hrel
        by_cases hql : q < e
        · have hqc : q < c.size := by omega
          have hby : c[q].toNat = N / 256 ^ (c.size - 1 - q) % 256 := by
            have h := HBY.out q (by rw [HCE.out]; exact hqc)
            simp only [HCE.out] at h
            exact h
          have hst := run_step (N := N) HQ1.out hqc hby.symm
          obtain ⟨x, hx⟩ : ∃ x, c[q].toNat = x := ⟨_, rfl⟩
          have hxl : (x : Int) < 256 := by have := (c[q]).toNat_lt; omega
          have hdl : N / 256 ^ (c.size - q) % 256 ^ (q - s) < 256 ^ (q - s) := Nat.mod_lt _ (Nat.pow_pos (by decide))
          have hdl2 : 256 ^ (q - s) ≤ 256 ^ 2 := Nat.pow_le_pow_right (by decide) (by have := HS.out; omega)
          obtain ⟨d, hd⟩ : ∃ d, N / 256 ^ (c.size - q) % 256 ^ (q - s) = d := ⟨_, rfl⟩
          obtain ⟨d2, hd2⟩ : ∃ d2, N / 256 ^ (c.size - (q + 1)) % 256 ^ (q + 1 - s) = d2 := ⟨_, rfl⟩
          rw [hx, hd, hd2] at hst
          rw [hd] at hdl ⊢
          have hd9 : (d : Int) < 65536 := by omega
          have f1 : (d : Int) * 256 + (x : Int) = (d2 : Int) := by omega
          have hql' : (q : Int) < (e : Int) := by omega
          have HD2 := Lib.hid hd2
          clear hd hd2 hst hdl hdl2 hby
          go_wp2_with fail
          go_round
          case rel => exact ⟨q + 1, Lib.hid (by have := HQ1.out; omega), Lib.hid (by omega), by go_num, by rw [HD2.out]⟩
          case measure => simp [intOf]; omega
        · have hqe : q = e := by have := HQ2.out; omega
          subst hqe
          have hd := run_digit (N := N) (L := c.size) (j := j) (e := q) (s := s) HNL.out (by have := HK.out; omega) HE0.out HS.out.symm
          rw [hd]
          obtain ⟨d, hd2⟩ : ∃ d, N / 16777216 ^ j % 16777216 = d := ⟨_, rfl⟩
          rw [hd2]
          have HVS := Lib.hid (run_val HL.out HV.out hd2.symm)
          have HDB : Hid (d < 16777216) := Lib.hid (by rw [← hd2]; exact Nat.mod_lt _ (by decide))
          have hqq : ¬ (q : Int) < (q : Int) := by omega
          have hl8 : (l.length : Int) ≤ 100000000 := by have := HL.out; have := HK.out; omega
          have hq9 : (q : Int) ≤ 100000000 := by omega
          clear hd hd2 hql hec hms
          go_wp2_with (first | (at_builtin; refine wpList_append_own _ rfl _ _ 46 rfl w.heap.size 3 i0 (.int .i64 0) 1 8 Tryz.underlying46 hi hz0 hz1 hz2 rfl (by decide) _ _ _ rfl (HOWN.out.alloc _) ⟨wr.heap.size, 0, none⟩ 1 1 [.int .i64 d] rfl rfl (cell_fresh wr _ _) (by simp [Value.oneCell']) (by unfold maxLen; omega) (by omega) (by have := HB.out.size; simp; omega) ?_; intro v1 w1 hown' hgrow hnn; have HO1 := Lib.hid hown'; have HG1 := Lib.hid hgrow; clear hown' hgrow hnn) | fail)
          go_roundw
          case rel => exact ⟨j + 1, (q : Int) - 3, l ++ [d], rfl, Lib.hid (by have := HK.out; omega), Lib.hid (by have := HE0.out; omega), Lib.hid (by rw [List.length_append, HL.out]; rfl), Lib.hid (HOK.out.append (fun y hy => by simp at hy; rw [hy]; exact HDB.out)), HVS, Lib.hid (by rw [List.length_append, digC, List.map_append]; exact HO1.out), Lib.hid (below_grown HB.out HOWN.out HG1.out (Nat.le_refl _))⟩
          case measure => simp [intOf]; have := HE0.out; omega
    · have hlt' : k ≤ 0 := by omega
      have hlt2 : ¬ 0 < k := hlt
      have hfin := HEND.out j l HOK.out HL.out HV.out (by have := HK.out; omega) (by have := HK.out; have := HK3.out; omega)
      have HLR := Lib.hid (LimR.own HOWN.out HOK.out (by have := HL.out; have := HK.out; have := HC8.out; have := HK3.out; omega))
      have HFIN := Lib.hid hfin
      clear hfin hlt hlt'
      go_wp2_with fail
      go_ret
      exact ⟨_, rfl, by rw [← HFIN.out]; exact HLR.out, HB.out⟩
end Go.Proofs.YtakbkbmjeanboaaGreatDoor
