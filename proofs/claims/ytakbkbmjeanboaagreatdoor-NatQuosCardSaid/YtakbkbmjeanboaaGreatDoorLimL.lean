/- divide of package nat. Each theorem names its conditions. -/
import Derived.Test.YtakbkbmjeanboaaGreatDoorDiv
import Derived.Test.YtakbkbmjeanboaaGreatDoorLimJ
import Derived.Test.YtakbkbmjeanboaaGreatDoorLimG
import Derived.Test.YtakbkbmjeanboaaGreatDoorRgn
namespace Go.Proofs.YtakbkbmjeanboaaGreatDoor
open Go.RowKit Go.Shelf
open Dgt
set_option linter.unusedVariables false

def DivPost (m n : Nat) (w : World) (e : Ending) (w' : World) : Prop := ∃ vq vr, e = .returned (.tuple #[vq, vr]) ∧ Lim w' vq (digs 4294967296 (m / n)) ∧ Lim w' vr (digs 4294967296 (m % n)) ∧ Below w.heap.size w w'
set_option maxHeartbeats 4000000 in
set_option maxRecDepth 100000 in
theorem divide_small (va vb : Value) (m n : Nat) (w : World) (ha : Lim w va (digs 4294967296 m)) (hb : Lim w vb (digs 4294967296 n)) (hlt : m < n) :
    Calls Tryz.prog 47 #[va, vb] w (DivPost m n w) := by
  have HA := Lib.hid ha; have HB0 := Lib.hid hb; have HLT := Lib.hid hlt
  clear ha hb hlt
  go_enter Tryz.func47, Tryz.ntmps47
  go_wp2_with fail
  refine (compare_any _ _ m n _ HA.out HB0.out).mono ?_
  rintro e w1 ⟨rfl, hb⟩
  rw [cmpI_lt HLT.out]
  have HA := Lib.hid (HA.out.up hb)
  have HB := Lib.hid hb
  clear hb
  go_wp2_with fail
  go_ret2
  exact ⟨_, _, rfl, by rw [Nat.div_eq_of_lt HLT.out, digs_zero]; exact LimK.nil_ _ _ _, by rw [Nat.mod_eq_of_lt HLT.out]; exact HA.out, HB.out⟩
theorem lim_one (W : World) {r : Nat} (h : r < 4294967296) : Lim (W.alloc (.cells #[.int .u32 (r : Int)] 52)) (.slice (some ⟨W.heap.size, 0, none⟩) 1 1) [r] := by
  refine LimK.block (kd := .u32) (B := 4294967296) (g := W.heap.size) (cap := 1) (t := 52) (l := [r]) (fun z hz => ?_) (cs := #[.int .u32 (r : Int)]) (heap_alloc_new W _) (fun i h => ?_) (by simp) (by omega)
  · simp only [List.mem_singleton] at hz; subst hz; exact h
  · have h0 : i = 0 := by simp at h; omega
    subst h0; rfl
theorem cmp_ge {m n : Nat} (h : n ≤ m) : ∃ c : Int, cmpI m n = c ∧ 0 ≤ c := by
  unfold cmpI
  rw [if_neg (by omega)]
  split <;> exact ⟨_, rfl, by omega⟩
set_option maxHeartbeats 4000000 in
set_option maxRecDepth 100000 in
theorem divide_one (va vb : Value) (m n : Nat) (w : World) (ha : Lim w va (digs 4294967296 m)) (hb : Lim w vb (digs 4294967296 n)) (hle : n ≤ m) (hn : (digs 4294967296 n).length = 1) (hm9 : (digs 4294967296 m).length ≤ 1000000000) :
    Calls Tryz.prog 47 #[va, vb] w (DivPost m n w) := by
  obtain ⟨pb, nb, cb, rfl, hnb, hcb, hcmb⟩ := hb.open_
  obtain ⟨y, hy⟩ : ∃ y, digs 4294967296 n = [y] := by
    match h : digs 4294967296 n, hn with
    | [y], _ => exact ⟨y, rfl⟩
  have hyn : y = n := by
    have := valB_digs (B := 4294967296) (by decide) n
    rw [hy, valB_one] at this; exact this
  subst hyn
  obtain rfl : nb = 1 := by omega
  have hyl : y < 4294967296 := by
    have := okB_digs (B := 4294967296) (by decide) y
    rw [hy] at this; exact this y (by simp)
  have hy0 : 0 < y := by
    rcases Nat.eq_zero_or_pos y with rfl | h
    · rw [digs_zero] at hy; cases hy
    · exact h
  rw [hy] at hb
  obtain ⟨g1, off1, hp1, hg1, hc1⟩ := hb.cell (i := 0) (by simp)
  simp only [Nat.add_zero, List.getElem_cons_zero] at hc1
  subst hp1
  have hbd : Lim w (.slice (some ⟨g1, off1, none⟩) 1 cb) (digs 4294967296 y) := by rw [hy]; exact hb
  have HA := Lib.hid ha; have HB0 := Lib.hid hbd
  obtain ⟨c, hc, hc0⟩ := cmp_ge hle
  have HC := Lib.hid hc; have HC1 := Lib.hid hc1; have HY0 := Lib.hid hy0; have HYL := Lib.hid hyl; have HM9 := Lib.hid hm9
  clear ha hb hbd hle hn hy hnb hc hc1 hcb hcmb hy0 hyl hm9
  go_enter Tryz.func47, Tryz.ntmps47
  go_wp2_with fail
  refine (compare_any _ _ m y _ HA.out HB0.out).mono ?_
  rintro e w1 ⟨rfl, hb⟩
  rw [HC.out]
  have HA := Lib.hid (HA.out.up hb)
  have HB := Lib.hid hb
  have c1 : w1.cell? ⟨g1, off1, none⟩ = some (.int .u32 (y : Int)) := by rw [cell_up hb hg1]; exact HC1.out
  clear hb
  go_wp2_with fail
  refine (short_any _ _ y _ HA.out HM9.out HY0.out HYL.out).mono ?_
  rintro e w2 ⟨vq, rfl, hv, hb⟩
  rw [valB_digs (by decide)] at hv ⊢
  obtain ⟨r, hr⟩ : ∃ r, m % y = r := ⟨_, rfl⟩
  rw [hr]
  have HR := Lib.hid hr
  have HB := Lib.hid (HB.out.trans (hb.mono HB.out.size))
  have HB := Lib.hid (HB.out.alloc HB.out.size (.cells #[.int .u32 (r : Int)] 52))
  have HV := Lib.hid (hv.up ((Below.refl _ w2).alloc (Nat.le_refl _) (.cells #[.int .u32 (r : Int)] 52)))
  have hrl : r < 4294967296 := by have := HYL.out; have := Nat.mod_lt m HY0.out; omega
  have HL := Lib.hid (lim_one w2 hrl)
  clear hb hv hr c1 hrl
  go_wp2_with fail
  refine (trim_any _ _ _ HL.out).mono ?_
  rintro e w3 ⟨vr, rfl, hvr, rfl⟩
  go_wp2_with fail
  go_ret2
  exact ⟨_, _, rfl, HV.out, by rw [HR.out]; have e : trimL 4294967296 [r] = digs 4294967296 r := by unfold trimL; rw [valB_one]
                               rw [← e]; exact hvr, HB.out⟩
def EDV (gu gv na nb k i0 i1 i2 j1 j2 u0 u1 u2 v0 v1 : Nat) : Nat → Value
  | 0 => .slice (some ⟨gu, 0, none⟩) (na + 1) (na + 1)
  | 1 => .int .i64 (k : Int)
  | 2 => .int .i64 (nb : Int)
  | 3 => .int .i64 (i0 : Int)
  | 4 => .pointer (some ⟨gu, i0, none⟩)
  | 5 => .int .u32 (u0 : Int)
  | 6 => .slice (some ⟨gu, 0, none⟩) (na + 1) (na + 1)
  | 7 => .int .i64 (k : Int)
  | 8 => .int .i64 (nb : Int)
  | 9 => .int .i64 (i0 : Int)
  | 10 => .int .i64 (i1 : Int)
  | 11 => .pointer (some ⟨gu, i1, none⟩)
  | 12 => .int .u32 (u1 : Int)
  | 13 => .slice (some ⟨gu, 0, none⟩) (na + 1) (na + 1)
  | 14 => .int .i64 (k : Int)
  | 15 => .int .i64 (nb : Int)
  | 16 => .int .i64 (i0 : Int)
  | 17 => .int .i64 (i2 : Int)
  | 18 => .pointer (some ⟨gu, i2, none⟩)
  | 19 => .int .u32 (u2 : Int)
  | 20 => .agg #[.int .u32 (u0 : Int), .int .u32 (u1 : Int), .int .u32 (u2 : Int)]
  | 21 => .slice (some ⟨gv, 0, none⟩) nb (nb + 1)
  | 22 => .int .i64 (nb : Int)
  | 23 => .int .i64 (j1 : Int)
  | 24 => .pointer (some ⟨gv, j1, none⟩)
  | 25 => .int .u32 (v0 : Int)
  | 26 => .slice (some ⟨gv, 0, none⟩) nb (nb + 1)
  | 27 => .int .i64 (nb : Int)
  | 28 => .int .i64 (j2 : Int)
  | 29 => .pointer (some ⟨gv, j2, none⟩)
  | 30 => .int .u32 (v1 : Int)
  | 31 => .agg #[.int .u32 (v0 : Int), .int .u32 (v1 : Int), .int .u32 0]
  | _ => undef
def SDV (gu gv na nb k i0 i1 i2 j1 j2 u0 u1 u2 v0 v1 : Nat) (ix : Nat) (v : Value) (w : World) : Prop :=
  match ix with
  | 32 => ∃ qh : Nat, v = .int .u64 (qh : Int) ∧ EstR (u0 * 4294967296 + u1) (v0 * 4294967296 + v1) u2 qh
  | 33 => ∃ qh : Nat, v = .int .u64 (qh : Int) ∧ EstR (u0 * 4294967296 + u1) (v0 * 4294967296 + v1) u2 qh
  | ix => v = EDV gu gv na nb k i0 i1 i2 j1 j2 u0 u1 u2 v0 v1 ix
theorem SDV_up (gu gv na nb k i0 i1 i2 j1 j2 u0 u1 u2 v0 v1 : Nat) (ix : Nat) (v : Value) (w w' : World) (hb : Below w.heap.size w w') (h : SDV gu gv na nb k i0 i1 i2 j1 j2 u0 u1 u2 v0 v1 ix v w) : SDV gu gv na nb k i0 i1 i2 j1 j2 u0 u1 u2 v0 v1 ix v w' := by
  unfold SDV at h ⊢
  split at h
  · exact h
  · exact h
  · exact h
def EDE (gu gq na nb nq s m n : Nat) : Nat → Value
  | 0 => .slice (some ⟨gq, 0, none⟩) nq nq
  | 2 => .slice (some ⟨gu, 0, none⟩) (na + 1) (na + 1)
  | 3 => .int .i64 (nb : Int)
  | 4 => .slice (some ⟨gu, 0, none⟩) nb (na + 1)
  | 5 => .int .i64 (s : Int)
  | _ => undef
def SDE (gu gq na nb nq s m n : Nat) (ix : Nat) (v : Value) (w : World) : Prop :=
  match ix with
  | 1 => Lim w v (digs 4294967296 (m / n))
  | 6 => Lim w v (digs 4294967296 (m % n))
  | 7 => Lim w v (digs 4294967296 (m / n))
  | 8 => Lim w v (digs 4294967296 (m % n))
  | ix => v = EDE gu gq na nb nq s m n ix
theorem SDE_up (gu gq na nb nq s m n : Nat) (ix : Nat) (v : Value) (w w' : World) (hb : Below w.heap.size w w') (h : SDE gu gq na nb nq s m n ix v w) : SDE gu gq na nb nq s m n ix v w' := by
  unfold SDE at h ⊢
  split at h
  · exact h.up hb
  · exact h.up hb
  · exact h.up hb
  · exact h.up hb
  · exact h
theorem lim_block {W : World} {g cap : Nat} {t : TypeId} {l : List Nat} (ho : okB 4294967296 l) (hb : W.heap[g]? = some (.cells (cellsK .u32 l) t (0, 0))) (h1 : l.length ≤ cap) (h2 : cap ≤ 1000000000000) : Lim W (.slice (some ⟨g, 0, none⟩) l.length cap) l :=
  LimK.block ho hb (fun i h => cellsK_get h) h1 h2
theorem top_le {u0 u1 u2 v0 v1 Vu V P : Nat} (hP : 0 < P) (h : Vu < 4294967296 * V) (hT : (u0 * 4294967296 + u1) * 4294967296 + u2 = Vu / P) (hV : v0 * 4294967296 + v1 = V / P) (hv1 : v1 < 4294967296) : u0 ≤ v0 := by
  have h1 : V < (V / P + 1) * P := by rw [Nat.add_mul, Nat.one_mul]; exact Nat.lt_div_mul_add hP
  have h2 : Vu / P < 4294967296 * (V / P + 1) := by
    rw [Nat.div_lt_iff_lt_mul hP, Nat.mul_assoc]
    exact Nat.lt_trans h (Nat.mul_lt_mul_of_pos_left h1 (by decide))
  rw [← hT, ← hV] at h2
  clear hT hV h h1
  obtain ⟨T, hT⟩ : ∃ T, u0 * 4294967296 + u1 = T := ⟨_, rfl⟩
  obtain ⟨S, hS⟩ : ∃ S, v0 * 4294967296 + v1 = S := ⟨_, rfl⟩
  rw [hT, hS] at h2
  have h3 : T ≤ S := by
    clear hT hS hv1
    have h4 : T * 4294967296 < (S + 1) * 4294967296 := by rw [Nat.mul_comm (S + 1)]; exact Nat.lt_of_le_of_lt (Nat.le_add_right _ _) h2
    have := Nat.lt_of_mul_lt_mul_right h4
    omega
  clear h2
  omega
theorem LimK.frm {kd : IntKind} {B : Nat} {A W : World} {v : Value} {l : List Nat} {m : Nat → Prop} (h : LimK kd B A v l) (ho : ∀ b off n c, v = .slice (some ⟨b, off, none⟩) n c → ¬ m b) (hf : Fr m A W) : LimK kd B W v l := by
  obtain ⟨hk, p, cap, rfl, h2, h3, h4⟩ := h
  refine ⟨hk, p, cap, rfl, h2, h3, fun i hi => ?_⟩
  obtain ⟨b, off, rfl, e2, e3⟩ := h4 i hi
  exact ⟨b, off, rfl, Nat.lt_of_lt_of_le e2 hf.size, by rw [hf.cell e2 (ho b off _ _ rfl)]; exact e3⟩
theorem win_len {U R : List Nat} {k n N : Nat} (hU : U.length = N) (hk : k + n < U.length) (hR : R.length = n + 1) : (U.take k ++ (R ++ U.drop (k + n + 1))).length = N := by
  simp only [List.length_append, List.length_take, List.length_drop, hR]; omega
theorem win_ok {U R : List Nat} {k n : Nat} (hU : okB 4294967296 U) (hR : okB 4294967296 R) : okB 4294967296 (U.take k ++ (R ++ U.drop (k + n + 1))) := (hU.take k).append (hR.append (hU.drop _))
theorem okB_cons {B x : Nat} {l : List Nat} (hx : x < B) (h : okB B l) : okB B (x :: l) := fun y hy => (List.mem_cons.1 hy).elim (fun e => e ▸ hx) (h y)
theorem win_parts {U R : List Nat} {k n : Nat} (hk : k + n < U.length) (hR : R.length = n + 1) : ((U.take k ++ (R ++ U.drop (k + n + 1))).drop k).take (n + 1) = R ∧ (U.take k ++ (R ++ U.drop (k + n + 1))).take k = U.take k ∧ (U.take k ++ (R ++ U.drop (k + n + 1))).drop (k + n + 1) = U.drop (k + n + 1) := by
  have hl : (U.take k).length = k := by rw [List.length_take]; omega
  refine ⟨?_, ?_, ?_⟩
  · rw [List.drop_append_of_le_length (by omega), List.drop_eq_nil_of_le (by omega), List.nil_append, List.take_append_of_le_length (by omega), List.take_of_length_le (by omega)]
  · rw [List.take_append_of_le_length (by omega), List.take_of_length_le (by omega)]
  · rw [List.drop_append, List.drop_eq_nil_of_le (by omega), hl, List.nil_append, List.drop_append, List.drop_eq_nil_of_le (by omega), List.nil_append, hR, show k + n + 1 - k - (n + 1) = 0 by omega, List.drop_zero]
theorem Fr.two {a b : Nat} {A B C : World} (h : Fr (fun x => x = a ∨ x = b) A B) (k : Fr (fun x => x = a) B C) : Fr (fun x => x = a ∨ x = b) A C := h.trans (k.mono fun x hx => .inl hx)
set_option maxHeartbeats 16000000 in
set_option maxRecDepth 100000 in
theorem divide_long (va vb : Value) (m n : Nat) (w : World) (ha : Lim w va (digs 4294967296 m)) (hb : Lim w vb (digs 4294967296 n)) (hle : n ≤ m) (hn : 2 ≤ (digs 4294967296 n).length) (hm9 : (digs 4294967296 m).length ≤ 500000000) :
    Calls Tryz.prog 47 #[va, vb] w (DivPost m n w) := by
  obtain ⟨c, hc, hc0⟩ := cmp_ge hle
  have hnb0 := digs_len_mono (B := 4294967296) (by decide) hle
  have hnz : 0 < n := by
    rcases Nat.eq_zero_or_pos n with rfl | h
    · rw [digs_zero] at hn; simp at hn
    · exact h
  obtain ⟨pa, na, ca, rfl, hna, hca, hcma⟩ := ha.open_
  obtain ⟨pb, nb, cb, rfl, hnb, hcb, hcmb⟩ := hb.open_
  rw [← hna] at hm9 hnb0
  rw [← hnb] at hn hnb0
  have hi : nb - 1 < (digs 4294967296 n).length := by omega
  obtain ⟨g1, off1, hp1, hg1, hc1⟩ := hb.cell hi
  obtain ⟨top, htop⟩ : ∃ t, (digs 4294967296 n)[nb - 1] = t := ⟨_, rfl⟩
  have htl : top < 4294967296 := by rw [← htop]; exact hb.ok.get hi
  obtain ⟨ht0, s, hs, hs32, hbl, hVlen, hVlt, hVge⟩ := norm_div hnz hnb.symm (by omega) (List.getElem?_eq_some_iff.2 ⟨hi, htop⟩)
  rw [htop] at hc1
  have hsi : (32 : Int) - (Lib.bitLen ((top : Int)).toNat : Int) = (s : Int) := by rw [Int.toNat_natCast]; omega
  have hml : m * 2 ^ s < 4294967296 ^ (na + 1) := by
    have h1 := digs_lt (B := 4294967296) (by decide) m
    rw [← hna] at h1
    have h2 : 2 ^ s ≤ 4294967296 := by
      rw [show (4294967296 : Nat) = 2 ^ 32 by decide]; exact Nat.pow_le_pow_right (by decide) (by omega)
    rw [Nat.pow_succ]
    exact Nat.lt_of_lt_of_le (Nat.mul_lt_mul_of_pos_right h1 (Nat.pow_pos (by decide))) (Nat.mul_le_mul_left _ h2)
  have hMV : m * 2 ^ s < n * 2 ^ s * 4294967296 ^ (na + 1 - nb) := by
    have h1 := digs_lt (B := 4294967296) (by decide) m
    rw [← hna] at h1
    have h2 : 2 ^ s ≤ 2147483648 := by
      rw [show (2147483648 : Nat) = 2 ^ 31 by decide]; exact Nat.pow_le_pow_right (by decide) (by omega)
    have h3 := Nat.mul_le_mul_right (4294967296 ^ (na + 1 - nb)) hVge
    rw [Nat.mul_assoc, ← Nat.pow_add, show nb - 1 + (na + 1 - nb) = na by omega] at h3
    refine Nat.lt_of_lt_of_le ?_ h3
    rw [Nat.mul_comm 2147483648]
    exact Nat.lt_of_lt_of_le (Nat.mul_lt_mul_of_pos_right h1 (Nat.pow_pos (by decide))) (Nat.mul_le_mul_left _ h2)
  obtain ⟨V, hV⟩ : ∃ V, n * 2 ^ s = V := ⟨_, rfl⟩
  obtain ⟨M, hM⟩ : ∃ M, m * 2 ^ s = M := ⟨_, rfl⟩
  obtain ⟨nq, hnq⟩ : ∃ q, na + 1 - nb = q := ⟨_, rfl⟩
  rw [hV] at hVlen hVlt hVge hMV
  rw [hM] at hml hMV
  rw [hnq] at hMV
  have hV0 : 0 < V := Nat.lt_of_lt_of_le (Nat.mul_pos (by decide) (Nat.pow_pos (by decide))) hVge
  have hmk := mk_limbs nq ((na : Int) + 1 - (nb : Int)) (by omega) (by omega)
  have hna2 : (na : Int) ≤ 500000000 := by omega
  have hnb2 : (nb : Int) ≤ na := by omega
  have hnb3 : 2 ≤ (nb : Int) := by omega
  have hnn : nb ≤ na + 1 := by omega
  have hnq5 : (nq : Int) ≤ 1000000000 := by omega
  have HA := Lib.hid ha; have HB0 := Lib.hid hb; have HC := Lib.hid hc; have HC1 := Lib.hid hc1
  have HVN := Lib.hid hVlen; have HVT := Lib.hid hVlt; have HVG := Lib.hid hVge; have HML := Lib.hid hml; have HMV := Lib.hid hMV
  have HVV := Lib.hid hV; have HMM := Lib.hid hM; have HNQ := Lib.hid hnq; have HSI := Lib.hid hsi; have HV0 := Lib.hid hV0; have HNA := Lib.hid hna; have HNB := Lib.hid hnb
  have hM9 := Lib.hid hm9
  have htli : (top : Int) ≤ 4294967295 := by omega
  have hnb1 : ((nb : Int) == 1) = false := by rw [beq_eq_false_iff_ne]; omega
  have hne1 : ¬ (nb : Int) = 1 := by omega
  have HS := Lib.hid hs32
  subst hp1
  clear ha hb hc hc1 hVlen hVlt hVge hml hMV hV hM hnq hsi hV0 hna hnb hs hbl ht0 htl htop hi hle hn hnz hca hcb hcma hcmb hm9 hnb0 hs32
  have q1 : (nb : Int) - 1 = ((nb - 1 : Nat) : Int) := by omega
  obtain ⟨t1, ht1⟩ : ∃ t, nb - 1 = t := ⟨_, rfl⟩
  rw [ht1] at q1 HC1
  have HT1 := Lib.hid ht1
  have hltt : t1 < nb := by omega
  clear ht1
  go_enter Tryz.func47, Tryz.ntmps47
  go_wp2_with fail
  refine (compare_any _ _ m n _ HA.out HB0.out).mono ?_
  rintro e w1 ⟨rfl, hb⟩
  rw [HC.out]
  have HA := Lib.hid (HA.out.up hb); have HB0 := Lib.hid (HB0.out.up hb)
  have HB := Lib.hid hb
  have c1 : w1.cell? ⟨g1, off1 + t1, none⟩ = some (.int .u32 (top : Int)) := by rw [cell_up hb hg1]; exact HC1.out
  clear hb
  go_wp2_with fail
  refine (Tryz.bits_LeadingZeros32 (top : Int) _ (by omega) htli).mono ?_
  rintro e w2 ⟨rfl, rfl⟩
  rw [HSI.out]
  clear c1 q1 hltt
  go_wp2_with fail
  refine (up_any _ _ s _ HA.out (by have := hM9.out; have := HNA.out; omega) HS.out).mono ?_
  rintro e w3 ⟨gu, rfl, hgu, hKU, hb⟩
  rw [valB_digs (by decide), HMM.out, ← HNA.out] at hKU
  rw [← HNA.out]
  have hguB := Nat.le_trans HB.out.size hgu
  have HB := Lib.hid (HB.out.trans (hb.mono HB.out.size))
  have HB0 := Lib.hid (HB0.out.up hb)
  have hguW := (Array.getElem?_eq_some_iff.1 hKU).1
  clear hb
  go_wp2_with fail
  refine (up_any _ _ s _ HB0.out (by have := hM9.out; have := HNB.out; omega) HS.out).mono ?_
  rintro e w4 ⟨gv, rfl, hgv, hKV, hb⟩
  rw [valB_digs (by decide), HVV.out, ← HNB.out] at hKV
  rw [← HNB.out]
  have hne : gv ≠ gu := by omega
  have hgvB : w.heap.size ≤ gv := by omega
  have HB := Lib.hid (HB.out.trans (hb.mono HB.out.size))
  have HKU := Lib.hid (heap_up hb hKU)
  have hguW := Nat.lt_of_lt_of_le hguW hb.size
  have hgvW := (Array.getElem?_eq_some_iff.1 hKV).1
  have hl1 := lim_block (fixd_ok (by decide) _ _) hKV (cap := nb + 1) (by rw [fixd_len]; omega) (by omega)
  rw [fixd_len] at hl1
  clear hb hKU hKV
  have HL1 := Lib.hid hl1
  clear hl1
  go_wp2_with fail
  refine (trim_at _ _ _ _ _ HL1.out).mono ?_
  rintro e w5 ⟨kv, rfl, hv, rfl⟩
  rw [trimL_fixd (Nat.lt_of_lt_of_le HVT.out (Nat.pow_le_pow_right (by decide) (by omega)))] at hv
  obtain rfl : nb = kv := by have := hv.len.1; rw [HVN.out] at this; exact this.symm
  have HV := Lib.hid hv
  have HB2 := Lib.hid ((Below.refl w4.heap.size w4).alloc (Nat.le_refl _) (.cells (cellsK .u32 (List.replicate nq 0)) 52))
  have HB := Lib.hid (HB.out.alloc HB.out.size (.cells (cellsK .u32 (List.replicate nq 0)) 52))
  have HKQ := Lib.hid (heap_alloc_new w4 (.cells (cellsK .u32 (List.replicate nq 0)) 52))
  clear hv HL1 HA HB0
  go_wp2_with fail
  clear hmk
  obtain ⟨W, hW⟩ : ∃ W, w4.alloc (.cells (cellsK .u32 (List.replicate nq 0)) 52) = W := ⟨_, rfl⟩
  rw [hW] at HB HB2 HKQ ⊢
  obtain ⟨gq, hgq⟩ : ∃ g, w4.heap.size = g := ⟨_, rfl⟩
  have hqu : gq ≠ gu := by omega
  have hqv : gq ≠ gv := by omega
  have hgqB : w.heap.size ≤ gq := by omega
  rw [hgq] at HKQ ⊢
  have HKU := Lib.hid (heap_up HB2.out HKU.out)
  have HV := Lib.hid (HV.out.up HB2.out)
  have hgvW := Nat.lt_of_lt_of_le hgvW HB2.out.size
  clear hW hgq hguW HB2
  obtain ⟨lv, hlv⟩ : ∃ l, digs 4294967296 V = l := ⟨_, rfl⟩
  have HLV := Lib.hid hlv
  rw [hlv] at HV HVN
  have hvv : valB 4294967296 lv = V := by rw [← hlv]; exact valB_digs (by decide) V
  have HVAL := Lib.hid hvv
  clear hlv hvv hgu hgv hgvB
  obtain ⟨h, hh⟩ : ∃ h, nb = h + 2 := ⟨nb - 2, by omega⟩
  -- the first two digits of the divisor
  have hi0 : nb - 1 < lv.length := by rw [HVN.out]; omega
  have hi1 : nb - 2 < lv.length := by rw [HVN.out]; omega
  obtain ⟨v0, hv0⟩ : ∃ x, lv[nb - 1] = x := ⟨_, rfl⟩
  obtain ⟨v1, hv1⟩ : ∃ x, lv[nb - 2] = x := ⟨_, rfl⟩
  have hv0l : v0 < 4294967296 := by rw [← hv0]; exact HV.out.ok.get hi0
  have hv1l : v1 < 4294967296 := by rw [← hv1]; exact HV.out.ok.get hi1
  have hV2 := top_two HV.out.ok (n := h) (x := v0) (y := v1) (by rw [HVN.out, hh]) (by rw [← hv0, show h + 1 = nb - 1 by omega]; exact List.getElem?_eq_getElem hi0) (by rw [← hv1, show h = nb - 2 by omega]; exact List.getElem?_eq_getElem hi1)
  rw [HVAL.out] at hV2
  have hv0g : 2147483648 ≤ v0 := by
    have h1 := HVG.out
    have h2 : v0 * 4294967296 + v1 < (v0 + 1) * 4294967296 := by omega
    have h3 : 2147483648 * 4294967296 ≤ V / 4294967296 ^ h := by
      rw [Nat.le_div_iff_mul_le (Nat.pow_pos (by decide)), Nat.mul_assoc, ← Nat.pow_succ', show h.succ = nb - 1 by omega]
      exact h1
    rw [← hV2] at h3
    omega
  obtain ⟨b0, o0, hp0, hb0, hcv0⟩ := HV.out.cell hi0
  obtain ⟨b1, o1, hp1, hb1, hcv1⟩ := HV.out.cell hi1
  obtain ⟨rfl, rfl⟩ : gv = b0 ∧ 0 = o0 := by injection hp0 with e; injection e with e1 e2 _; exact ⟨e1, e2⟩
  obtain ⟨rfl, rfl⟩ : gv = b1 ∧ 0 = o1 := by injection hp1 with e; injection e with e1 e2 _; exact ⟨e1, e2⟩
  rw [hv0, Nat.zero_add] at hcv0
  rw [hv1, Nat.zero_add] at hcv1
  obtain ⟨j1, hj1⟩ : ∃ j, nb - 1 = j := ⟨_, rfl⟩
  obtain ⟨j2, hj2⟩ : ∃ j, nb - 2 = j := ⟨_, rfl⟩
  rw [hj1] at hcv0; rw [hj2] at hcv1
  have HC0 := Lib.hid hcv0; have HC1v := Lib.hid hcv1; have HV2 := Lib.hid hV2; have HV0G := Lib.hid hv0g; have HV0L := Lib.hid hv0l; have HV1L := Lib.hid hv1l; have HH := Lib.hid hh
  have hoff : offB (.slice (some ⟨gv, 0, none⟩) nb (nb + 1)) gu := by
    intro b off n c e
    injection e with e1 _ _; injection e1 with e1; injection e1 with e1 _ _
    rw [← e1]; exact hne
  have hoffq : offB (.slice (some ⟨gv, 0, none⟩) nb (nb + 1)) gq := by
    intro b off n c e
    injection e with e1 _ _; injection e1 with e1; injection e1 with e1 _ _
    rw [← e1]; exact fun h => hqv h.symm
  have HOFF := Lib.hid hoff; have HOFFQ := Lib.hid hoffq
  have hj1i : (nb : Int) - 1 = (j1 : Int) := by omega
  have hj2i : (nb : Int) - 2 = (j2 : Int) := by omega
  have HJ1 := Lib.hid hj1i; have HJ2 := Lib.hid hj2i
  have hj1k : j1 < nb := by omega
  have hj2k : j2 < nb := by omega
  have HJK := Lib.hid (show j1 = nb - 1 ∧ j2 = nb - 2 from ⟨hj1.symm, hj2.symm⟩)
  have hnq1 : nq = na + 1 - nb := HNQ.out.symm
  have HNQ2 := Lib.hid hnq1
  have hkn : (nb : Int) ≤ (na : Int) + 1 := by omega
  have hnqi : (nq : Int) = (na : Int) + 1 - (nb : Int) := by omega
  have HNQI := Lib.hid hnqi
  clear hi0 hi1 hv0 hv1 hV2 hv0g hv0l hv1l hp0 hp1 hb0 hb1 hcv0 hcv1 hj1 hj2 hh hoff hoffq hj1i hj2i hnq1 hnqi hnn hne1 hnb1
  go_loopw [12, 13] (fun iv _ wr => ∃ (j : Nat) (i' : Int) (U Q : List Nat), j ≤ nq ∧ i' = (j : Int) - 1 ∧ iv = .int .i64 i' ∧ Hid (U.length = na + 1) ∧ Hid (okB 4294967296 U) ∧ Hid (okB 4294967296 Q) ∧ Hid (Q.length = nq - j) ∧
      Hid (valB 4294967296 U < V * 4294967296 ^ j) ∧ Hid (valB 4294967296 U + V * 4294967296 ^ j * valB 4294967296 Q = M) ∧
      Hid (wr.heap[gu]? = some (.cells (cellsK .u32 U) 52 (0, 0))) ∧ Hid (wr.heap[gq]? = some (.cells (cellsK .u32 (List.replicate j 0 ++ Q)) 52 (0, 0))) ∧ Hid (Fr (fun x => x = gu ∨ x = gq) W wr)) (fun iv _ _ => (intOf iv + 1).toNat)
  case atStart => exact ⟨nq, (nq : Int) - 1, fixd 4294967296 (na + 1) M, [], Nat.le_refl _, rfl, rfl, Lib.hid (fixd_len _ _ _), Lib.hid (fixd_ok (by decide) _ _), Lib.hid (okB_nil _), Lib.hid (by simp), Lib.hid (by rw [valB_fixd _ _ HML.out]; exact HMV.out), Lib.hid (by rw [valB_fixd _ _ HML.out]; simp [valB]), HKU, Lib.hid (by simpa using HKQ.out), Lib.hid (Fr.refl _ _)⟩
  case round =>
    obtain ⟨j, i', U, Q, hj, hi', rfl, HUL, HUO, HQO, HQL, HUV, HUM, HKU, HKQ, HF⟩ := hrel
    obtain ⟨wo, hwo⟩ : ∃ wo, wo = wr := ⟨_, rfl⟩
    subst hwo
    rcases j with _ | k
    · have hneg : i' < 0 := by omega
      have hde := div_end HV0.out HUV.out HUM.out HVV.out.symm HMM.out.symm
      have hLQ := lim_block (cap := nq) HQO.out (by have := HKQ.out; rwa [List.replicate_zero, List.nil_append] at this) (by rw [HQL.out]; omega) (by omega)
      rw [HQL.out, Nat.sub_zero] at hLQ
      have hLU := (lim_block (cap := na + 1) HUO.out HKU.out (by rw [HUL.out]; omega) (by omega)).take (k := nb) (by rw [HUL.out]; omega)
      have hUt : valB 4294967296 (U.take nb) = valB 4294967296 U := by
        have h1 := valB_split 4294967296 U nb
        rw [Nat.min_eq_left (by rw [HUL.out]; omega)] at h1
        have h2 := HUV.out
        rw [Nat.pow_zero, Nat.mul_one] at h2
        have h3 := Nat.lt_trans h2 HVT.out
        rcases Nat.eq_zero_or_pos (valB 4294967296 (U.drop nb)) with h0 | h0
        · rw [h0, Nat.mul_zero, Nat.add_zero] at h1; exact h1.symm
        · have := Nat.le_mul_of_pos_right (4294967296 ^ nb) h0
          omega
      have hTQ : trimL 4294967296 Q = digs 4294967296 (m / n) := by unfold trimL; rw [hde.1]
      have hlU : (U.take nb).length = nb := by rw [List.length_take, HUL.out]; omega
      have HLQ := Lib.hid hLQ; have HLU := Lib.hid hLU; have HTQ := Lib.hid hTQ; have HDE := Lib.hid hde.2; have HUT := Lib.hid hUt; have HLUL := Lib.hid hlU
      have hsl : (nb : Int) ≤ (na : Int) + 1 := by omega
      clear hde hLQ hLU hUt hTQ hi' hlU
      go_wp2_with fail
      refine wp_region_vals (w := wo) (by kernel_rfl) (SDE gu gq na nb nq s m n) (fun t => (decide (4 ≤ t) && decide (t < 6)) || (decide (123 ≤ t) && decide (t < 130))) (by kernel_rfl) (by kernel_rfl) (by kernel_rfl) (SDE_up gu gq na nb nq s m n) ?_ ?_
      · intro i hi o listed a w hR K hK
        have ho := hR.at_
        have hi : i < 9 := hi
        have hii : i = 0 ∨ i = 1 ∨ i = 2 ∨ i = 3 ∨ i = 4 ∨ i = 5 ∨ i = 6 ∨ i = 7 ∨ i = 8 := by omega
        rcases hii with rfl | rfl | rfl | rfl | rfl | rfl | rfl | rfl | rfl
        · simp at ho
          subst ho
          have b4 : a.tmps.getD 4 undef = .slice (some ⟨gq, 0, none⟩) nq nq := hR.early (j := 7) (by kernel_rfl) rfl ⟨0, .phase⟩ (by simp) rfl rfl
          refine plain_step rfl rfl ?_
          go_simp
          exact hK _ _ (rfl) (Below.refl _ _)
        · simp at ho
          subst ho
          have e0 : a.tmps.getD 123 undef = .slice (some ⟨gq, 0, none⟩) nq nq := hR.dep ⟨0, .data⟩ (by simp) rfl
          refine plain_step rfl rfl ?_
          go_simp
          refine (trim_any _ _ _ (HLQ.out.up hR.below)).mono ?_
          rintro e w' ⟨v, rfl, hl, rfl⟩
          exact hK _ _ (by have h := hl; rw [HTQ.out] at h; exact h) (Below.refl _ _)
        · simp at ho
          subst ho
          have b9 : a.tmps.getD 9 undef = .slice (some ⟨gu, 0, none⟩) (na + 1) (na + 1) := hR.base 9 (by kernel_rfl)
          refine plain_step rfl rfl ?_
          go_simp
          exact hK _ _ (rfl) (Below.refl _ _)
        · simp at ho
          subst ho
          have b11 : a.tmps.getD 11 undef = .int .i64 (nb : Int) := hR.base 11 (by kernel_rfl)
          refine plain_step rfl rfl ?_
          go_simp
          exact hK _ _ (rfl) (Below.refl _ _)
        · simp at ho
          subst ho
          have e2 : a.tmps.getD 125 undef = .slice (some ⟨gu, 0, none⟩) (na + 1) (na + 1) := hR.dep ⟨2, .data⟩ (by simp) rfl
          have e3 : a.tmps.getD 126 undef = .int .i64 (nb : Int) := hR.dep ⟨3, .data⟩ (by simp) rfl
          refine plain_step rfl rfl ?_
          go_simp
          exact hK _ _ (rfl) (Below.refl _ _)
        · simp at ho
          subst ho
          have b8 : a.tmps.getD 8 undef = .int .i64 (s : Int) := hR.base 8 (by kernel_rfl)
          refine plain_step rfl rfl ?_
          go_simp
          exact hK _ _ (rfl) (Below.refl _ _)
        · simp at ho
          subst ho
          have e4 : a.tmps.getD 127 undef = .slice (some ⟨gu, 0, none⟩) nb (na + 1) := hR.dep ⟨4, .data⟩ (by simp) rfl
          have e5 : a.tmps.getD 128 undef = .int .i64 (s : Int) := hR.dep ⟨5, .data⟩ (by simp) rfl
          refine plain_step rfl rfl ?_
          go_simp
          refine (down_any _ _ s _ (HLU.out.up hR.below) (by rw [HLUL.out]; omega) HS.out).mono ?_
          rintro e w' ⟨v, rfl, hl, hb⟩
          exact hK _ _ (by have h := hl; rw [HUT.out, HDE.out] at h; exact h) hb
        · simp at ho
          subst ho
          have e1 := hR.dep ⟨1, .data⟩ (by simp) rfl
          have hl : Lim w (a.tmps.getD 124 undef) (digs 4294967296 (m / n)) := e1
          obtain ⟨vv, hvv⟩ : ∃ v, a.tmps.getD 124 undef = v := ⟨_, rfl⟩
          rw [hvv] at hl
          clear e1
          refine plain_step rfl rfl ?_
          go_simp
          exact hK _ _ (hl) (Below.refl _ _)
        · simp at ho
          subst ho
          have e6 := hR.dep ⟨6, .data⟩ (by simp) rfl
          have hl : Lim w (a.tmps.getD 129 undef) (digs 4294967296 (m % n)) := e6
          obtain ⟨vv, hvv⟩ : ∃ v, a.tmps.getD 129 undef = v := ⟨_, rfl⟩
          rw [hvv] at hl
          clear e6
          refine plain_step rfl rfl ?_
          go_simp
          exact hK _ _ (hl) (Below.refl _ _)
      · intro s_ w6 hS hb
        have e7 := hS 7 (by decide)
        have e8 := hS 8 (by decide)
        simp only [over, Nat.zero_add, Nat.reduceAdd, Nat.reduceLeDiff, Nat.reduceLT, decide_true, decide_false, Bool.and_true, Bool.and_false, Bool.or_false, Bool.or_true, cond_true, cond_false]
        have hq : Lim w6 (s_ 4) (digs 4294967296 (m / n)) := e7
        have hr : Lim w6 (s_ 5) (digs 4294967296 (m % n)) := e8
        have HQ1 := Lib.hid hq; have HR1 := Lib.hid hr
        have HBW := Lib.hid hb
        clear hS hb hq hr e7 e8
        go_wp2_with fail
        go_ret2
        refine ⟨_, _, rfl, HQ1.out, HR1.out, ?_⟩
        have h1 := (HF.out.below (n := w.heap.size) HB.out.size (fun b hb hm => by rcases hm with rfl | rfl <;> omega))
        exact (HB.out.trans h1).trans (HBW.out.mono (Nat.le_trans HB.out.size HF.out.size))
    · obtain rfl : i' = (k : Int) := by omega
      clear hi'
      have hnq2 := HNQ2.out
      have hul := HUL.out
      have hkl : k + nb < U.length := by omega
      obtain ⟨-, e2, -⟩ := window HUO.out hkl HVT.out HUV.out
      obtain ⟨Wd, hWd⟩ : ∃ l, (U.drop k).take (nb + 1) = l := ⟨_, rfl⟩
      have hWl : Wd.length = h + 3 := by rw [← hWd, List.length_take, List.length_drop]; have := HH.out; omega
      have hWo : okB 4294967296 Wd := by rw [← hWd]; exact (HUO.out.drop k).take _
      rw [hWd] at e2
      have hget : ∀ i, i ≤ nb → Wd[i]? = U[k + i]? := fun i hi => by
        rw [← hWd, List.getElem?_take_of_lt (by omega), List.getElem?_drop]
      obtain ⟨i0, hi0⟩ : ∃ i, k + nb = i := ⟨_, rfl⟩
      obtain ⟨i1, hi1⟩ : ∃ i, i0 - 1 = i := ⟨_, rfl⟩
      obtain ⟨i2, hi2⟩ : ∃ i, i0 - 2 = i := ⟨_, rfl⟩
      obtain ⟨u0, hu0⟩ : ∃ x, U[i0]? = some x := ⟨_, List.getElem?_eq_getElem (by omega)⟩
      obtain ⟨u1, hu1⟩ : ∃ x, U[i1]? = some x := ⟨_, List.getElem?_eq_getElem (by omega)⟩
      obtain ⟨u2, hu2⟩ : ∃ x, U[i2]? = some x := ⟨_, List.getElem?_eq_getElem (by omega)⟩
      have hhh := HH.out
      have hT := top_three hWo hWl (x := u0) (y := u1) (z := u2) (by rw [hget _ (by omega), show k + (h + 2) = i0 by omega]; exact hu0) (by rw [hget _ (by omega), show k + (h + 1) = i1 by omega]; exact hu1) (by rw [hget _ (by omega), show k + h = i2 by omega]; exact hu2)
      have hP : 0 < 4294967296 ^ h := Nat.pow_pos (by decide)
      have hule := top_le hP e2 hT HV2.out HV1L.out
      have hub : ∀ i x, U[i]? = some x → x < 4294967296 := fun i x hx => by
        obtain ⟨hi, e⟩ := List.getElem?_eq_some_iff.1 hx
        rw [← e]; exact HUO.out.get hi
      have HEST := Lib.hid (fun w => estimate_any u0 u1 u2 v0 v1 w (hub _ _ hu0) (hub _ _ hu1) (hub _ _ hu2) HV0G.out HV0L.out HV1L.out hule)
      have HDIG := Lib.hid (fun qh he => est_digit (qh := qh) (T := u0 * 4294967296 + u1) (u2 := u2) (V2 := v0 * 4294967296 + v1) hP e2 hT HV2.out (by have := HV0G.out; omega) he)
      have HU0 : Hid (wo.cell? ⟨gu, i0, none⟩ = some (.int .u32 (u0 : Int))) := Lib.hid (by rw [Lib.cell_of_heap HKU.out]; exact cellsK_some hu0)
      have HU1 : Hid (wo.cell? ⟨gu, i1, none⟩ = some (.int .u32 (u1 : Int))) := Lib.hid (by rw [Lib.cell_of_heap HKU.out]; exact cellsK_some hu1)
      have HU2 : Hid (wo.cell? ⟨gu, i2, none⟩ = some (.int .u32 (u2 : Int))) := Lib.hid (by rw [Lib.cell_of_heap HKU.out]; exact cellsK_some hu2)
      have hnm : ¬ (gv = gu ∨ gv = gq) := fun h => h.elim hne (fun h => hqv h.symm)
      have HCV0 : Hid (wo.cell? ⟨gv, j1, none⟩ = some (.int .u32 (v0 : Int))) := Lib.hid (by rw [HF.out.cell (p := ⟨gv, j1, none⟩) hgvW hnm]; exact HC0.out)
      have HCV1 : Hid (wo.cell? ⟨gv, j2, none⟩ = some (.int .u32 (v1 : Int))) := Lib.hid (by rw [HF.out.cell (p := ⟨gv, j2, none⟩) hgvW hnm]; exact HC1v.out)
      have HNM := Lib.hid hnm
      have hguW := (Array.getElem?_eq_some_iff.1 HKU.out).1
      have hgvW2 := Nat.lt_of_lt_of_le hgvW HF.out.size
      have f1 : IntKind.i64.wrap ((k : Int) + (nb : Int)) = (i0 : Int) := by rw [IntWalk.i64_in _ (by omega)]; omega
      have f2 : IntKind.i64.wrap ((i0 : Int) - 1) = (i1 : Int) := by rw [IntWalk.i64_in _ (by omega)]; omega
      have f3 : IntKind.i64.wrap ((i0 : Int) - 2) = (i2 : Int) := by rw [IntWalk.i64_in _ (by omega)]; omega
      have f4 : IntKind.i64.wrap ((nb : Int) - 1) = (j1 : Int) := by have := HJ1.out; rw [IntWalk.i64_in _ (by omega)]; omega
      have f5 : IntKind.i64.wrap ((nb : Int) - 2) = (j2 : Int) := by have := HJ2.out; rw [IntWalk.i64_in _ (by omega)]; omega
      have l0 : (i0 : Int) < (na : Int) + 1 := by omega
      have l1 : (i1 : Int) < (na : Int) + 1 := by omega
      have l2 : (i2 : Int) < (na : Int) + 1 := by omega
      have HE2 := Lib.hid e2; have HWD := Lib.hid hWd; have HKL := Lib.hid hkl; have HI0 := Lib.hid hi0
      have hkq : k < nq := hj
      have hle1 : (k : Int) + (nb : Int) + 1 ≤ (na : Int) + 1 := by omega
      have hnk : ¬ (na + 1 = k) := by omega
      clear hT hP hule hub hu0 hu1 hu2 hi0 hi1 hi2 hget hWl hWo e2 hWd hhh hkl hnq2 hul hnm
      go_wp2_with fail
      refine wp_region_vals (w := wo) (by kernel_rfl) (SDV gu gv na nb k i0 i1 i2 j1 j2 u0 u1 u2 v0 v1) (fun t => (decide (13 ≤ t) && decide (t < 14)) || (decide (64 ≤ t) && decide (t < 97))) (by kernel_rfl) (by kernel_rfl) (by kernel_rfl) (SDV_up gu gv na nb k i0 i1 i2 j1 j2 u0 u1 u2 v0 v1) ?_ ?_
      · intro i hi o listed a w hR K hK
        have ho := hR.at_
        have hi : i < 34 := hi
        have hii : i = 0 ∨ i = 1 ∨ i = 2 ∨ i = 3 ∨ i = 4 ∨ i = 5 ∨ i = 6 ∨ i = 7 ∨ i = 8 ∨ i = 9 ∨ i = 10 ∨ i = 11 ∨ i = 12 ∨ i = 13 ∨ i = 14 ∨ i = 15 ∨ i = 16 ∨ i = 17 ∨ i = 18 ∨ i = 19 ∨ i = 20 ∨ i = 21 ∨ i = 22 ∨ i = 23 ∨ i = 24 ∨ i = 25 ∨ i = 26 ∨ i = 27 ∨ i = 28 ∨ i = 29 ∨ i = 30 ∨ i = 31 ∨ i = 32 ∨ i = 33 := by omega
        rcases hii with rfl | rfl | rfl | rfl | rfl | rfl | rfl | rfl | rfl | rfl | rfl | rfl | rfl | rfl | rfl | rfl | rfl | rfl | rfl | rfl | rfl | rfl | rfl | rfl | rfl | rfl | rfl | rfl | rfl | rfl | rfl | rfl | rfl | rfl
        · simp at ho
          subst ho
          have b9 : a.tmps.getD 9 undef = .slice (some ⟨gu, 0, none⟩) (na + 1) (na + 1) := hR.base 9 (by kernel_rfl)
          refine plain_step rfl rfl ?_
          go_simp
          exact hK _ _ (rfl) (Below.refl _ _)
        · simp at ho
          subst ho
          have b12 : a.tmps.getD 12 undef = .int .i64 (k : Int) := hR.base 12 (by kernel_rfl)
          refine plain_step rfl rfl ?_
          go_simp
          exact hK _ _ (rfl) (Below.refl _ _)
        · simp at ho
          subst ho
          have b11 : a.tmps.getD 11 undef = .int .i64 (nb : Int) := hR.base 11 (by kernel_rfl)
          refine plain_step rfl rfl ?_
          go_simp
          exact hK _ _ (rfl) (Below.refl _ _)
        · simp at ho
          subst ho
          have e1 : a.tmps.getD 65 undef = .int .i64 (k : Int) := hR.dep ⟨1, .data⟩ (by simp) rfl
          have e2 : a.tmps.getD 66 undef = .int .i64 (nb : Int) := hR.dep ⟨2, .data⟩ (by simp) rfl
          refine plain_step rfl rfl ?_
          go_simp
          exact hK _ _ (rfl) (Below.refl _ _)
        · simp at ho
          subst ho
          have e0 : a.tmps.getD 64 undef = .slice (some ⟨gu, 0, none⟩) (na + 1) (na + 1) := hR.dep ⟨0, .data⟩ (by simp) rfl
          have e3 : a.tmps.getD 67 undef = .int .i64 (i0 : Int) := hR.dep ⟨3, .data⟩ (by simp) rfl
          refine plain_step rfl rfl ?_
          go_simp
          exact hK _ _ (rfl) (Below.refl _ _)
        · simp at ho
          subst ho
          have e4 : a.tmps.getD 68 undef = .pointer (some ⟨gu, i0, none⟩) := hR.dep ⟨4, .data⟩ (by simp) rfl
          have c1 : w.cell? ⟨gu, i0, none⟩ = some (.int .u32 (u0 : Int)) := by rw [cell_up hR.below hguW]; exact HU0.out
          refine plain_step rfl rfl ?_
          go_simp
          exact hK _ _ (rfl) (Below.refl _ _)
        · simp at ho
          subst ho
          have b9 : a.tmps.getD 9 undef = .slice (some ⟨gu, 0, none⟩) (na + 1) (na + 1) := hR.base 9 (by kernel_rfl)
          refine plain_step rfl rfl ?_
          go_simp
          exact hK _ _ (rfl) (Below.refl _ _)
        · simp at ho
          subst ho
          have b12 : a.tmps.getD 12 undef = .int .i64 (k : Int) := hR.base 12 (by kernel_rfl)
          refine plain_step rfl rfl ?_
          go_simp
          exact hK _ _ (rfl) (Below.refl _ _)
        · simp at ho
          subst ho
          have b11 : a.tmps.getD 11 undef = .int .i64 (nb : Int) := hR.base 11 (by kernel_rfl)
          refine plain_step rfl rfl ?_
          go_simp
          exact hK _ _ (rfl) (Below.refl _ _)
        · simp at ho
          subst ho
          have e7 : a.tmps.getD 71 undef = .int .i64 (k : Int) := hR.dep ⟨7, .data⟩ (by simp) rfl
          have e8 : a.tmps.getD 72 undef = .int .i64 (nb : Int) := hR.dep ⟨8, .data⟩ (by simp) rfl
          refine plain_step rfl rfl ?_
          go_simp
          exact hK _ _ (rfl) (Below.refl _ _)
        · simp at ho
          subst ho
          have e9 : a.tmps.getD 73 undef = .int .i64 (i0 : Int) := hR.dep ⟨9, .data⟩ (by simp) rfl
          refine plain_step rfl rfl ?_
          go_simp
          exact hK _ _ (rfl) (Below.refl _ _)
        · simp at ho
          subst ho
          have e6 : a.tmps.getD 70 undef = .slice (some ⟨gu, 0, none⟩) (na + 1) (na + 1) := hR.dep ⟨6, .data⟩ (by simp) rfl
          have e10 : a.tmps.getD 74 undef = .int .i64 (i1 : Int) := hR.dep ⟨10, .data⟩ (by simp) rfl
          refine plain_step rfl rfl ?_
          go_simp
          exact hK _ _ (rfl) (Below.refl _ _)
        · simp at ho
          subst ho
          have e11 : a.tmps.getD 75 undef = .pointer (some ⟨gu, i1, none⟩) := hR.dep ⟨11, .data⟩ (by simp) rfl
          have c1 : w.cell? ⟨gu, i1, none⟩ = some (.int .u32 (u1 : Int)) := by rw [cell_up hR.below hguW]; exact HU1.out
          refine plain_step rfl rfl ?_
          go_simp
          exact hK _ _ (rfl) (Below.refl _ _)
        · simp at ho
          subst ho
          have b9 : a.tmps.getD 9 undef = .slice (some ⟨gu, 0, none⟩) (na + 1) (na + 1) := hR.base 9 (by kernel_rfl)
          refine plain_step rfl rfl ?_
          go_simp
          exact hK _ _ (rfl) (Below.refl _ _)
        · simp at ho
          subst ho
          have b12 : a.tmps.getD 12 undef = .int .i64 (k : Int) := hR.base 12 (by kernel_rfl)
          refine plain_step rfl rfl ?_
          go_simp
          exact hK _ _ (rfl) (Below.refl _ _)
        · simp at ho
          subst ho
          have b11 : a.tmps.getD 11 undef = .int .i64 (nb : Int) := hR.base 11 (by kernel_rfl)
          refine plain_step rfl rfl ?_
          go_simp
          exact hK _ _ (rfl) (Below.refl _ _)
        · simp at ho
          subst ho
          have e14 : a.tmps.getD 78 undef = .int .i64 (k : Int) := hR.dep ⟨14, .data⟩ (by simp) rfl
          have e15 : a.tmps.getD 79 undef = .int .i64 (nb : Int) := hR.dep ⟨15, .data⟩ (by simp) rfl
          refine plain_step rfl rfl ?_
          go_simp
          exact hK _ _ (rfl) (Below.refl _ _)
        · simp at ho
          subst ho
          have e16 : a.tmps.getD 80 undef = .int .i64 (i0 : Int) := hR.dep ⟨16, .data⟩ (by simp) rfl
          refine plain_step rfl rfl ?_
          go_simp
          exact hK _ _ (rfl) (Below.refl _ _)
        · simp at ho
          subst ho
          have e13 : a.tmps.getD 77 undef = .slice (some ⟨gu, 0, none⟩) (na + 1) (na + 1) := hR.dep ⟨13, .data⟩ (by simp) rfl
          have e17 : a.tmps.getD 81 undef = .int .i64 (i2 : Int) := hR.dep ⟨17, .data⟩ (by simp) rfl
          refine plain_step rfl rfl ?_
          go_simp
          exact hK _ _ (rfl) (Below.refl _ _)
        · simp at ho
          subst ho
          have e18 : a.tmps.getD 82 undef = .pointer (some ⟨gu, i2, none⟩) := hR.dep ⟨18, .data⟩ (by simp) rfl
          have c1 : w.cell? ⟨gu, i2, none⟩ = some (.int .u32 (u2 : Int)) := by rw [cell_up hR.below hguW]; exact HU2.out
          refine plain_step rfl rfl ?_
          go_simp
          exact hK _ _ (rfl) (Below.refl _ _)
        · simp at ho
          subst ho
          have e5 : a.tmps.getD 69 undef = .int .u32 (u0 : Int) := hR.dep ⟨5, .data⟩ (by simp) rfl
          have e12 : a.tmps.getD 76 undef = .int .u32 (u1 : Int) := hR.dep ⟨12, .data⟩ (by simp) rfl
          have e19 : a.tmps.getD 83 undef = .int .u32 (u2 : Int) := hR.dep ⟨19, .data⟩ (by simp) rfl
          have e5b : (a.tmps[69]?).getD undef = .int .u32 (u0 : Int) := by rw [← Array.getD_eq_getD_getElem?]; exact e5
          have e12b : (a.tmps[76]?).getD undef = .int .u32 (u1 : Int) := by rw [← Array.getD_eq_getD_getElem?]; exact e12
          have e19b : (a.tmps[83]?).getD undef = .int .u32 (u2 : Int) := by rw [← Array.getD_eq_getD_getElem?]; exact e19
          refine plain_step rfl rfl ?_
          go_simp
          exact hK _ _ (rfl) (Below.refl _ _)
        · simp at ho
          subst ho
          have b10 : a.tmps.getD 10 undef = .slice (some ⟨gv, 0, none⟩) nb (nb + 1) := hR.base 10 (by kernel_rfl)
          refine plain_step rfl rfl ?_
          go_simp
          exact hK _ _ (rfl) (Below.refl _ _)
        · simp at ho
          subst ho
          have b11 : a.tmps.getD 11 undef = .int .i64 (nb : Int) := hR.base 11 (by kernel_rfl)
          refine plain_step rfl rfl ?_
          go_simp
          exact hK _ _ (rfl) (Below.refl _ _)
        · simp at ho
          subst ho
          have e22 : a.tmps.getD 86 undef = .int .i64 (nb : Int) := hR.dep ⟨22, .data⟩ (by simp) rfl
          refine plain_step rfl rfl ?_
          go_simp
          exact hK _ _ (rfl) (Below.refl _ _)
        · simp at ho
          subst ho
          have e21 : a.tmps.getD 85 undef = .slice (some ⟨gv, 0, none⟩) nb (nb + 1) := hR.dep ⟨21, .data⟩ (by simp) rfl
          have e23 : a.tmps.getD 87 undef = .int .i64 (j1 : Int) := hR.dep ⟨23, .data⟩ (by simp) rfl
          refine plain_step rfl rfl ?_
          go_simp
          exact hK _ _ (rfl) (Below.refl _ _)
        · simp at ho
          subst ho
          have e24 : a.tmps.getD 88 undef = .pointer (some ⟨gv, j1, none⟩) := hR.dep ⟨24, .data⟩ (by simp) rfl
          have c1 : w.cell? ⟨gv, j1, none⟩ = some (.int .u32 (v0 : Int)) := by rw [cell_up hR.below hgvW2]; exact HCV0.out
          refine plain_step rfl rfl ?_
          go_simp
          exact hK _ _ (rfl) (Below.refl _ _)
        · simp at ho
          subst ho
          have b10 : a.tmps.getD 10 undef = .slice (some ⟨gv, 0, none⟩) nb (nb + 1) := hR.base 10 (by kernel_rfl)
          refine plain_step rfl rfl ?_
          go_simp
          exact hK _ _ (rfl) (Below.refl _ _)
        · simp at ho
          subst ho
          have b11 : a.tmps.getD 11 undef = .int .i64 (nb : Int) := hR.base 11 (by kernel_rfl)
          refine plain_step rfl rfl ?_
          go_simp
          exact hK _ _ (rfl) (Below.refl _ _)
        · simp at ho
          subst ho
          have e27 : a.tmps.getD 91 undef = .int .i64 (nb : Int) := hR.dep ⟨27, .data⟩ (by simp) rfl
          refine plain_step rfl rfl ?_
          go_simp
          exact hK _ _ (rfl) (Below.refl _ _)
        · simp at ho
          subst ho
          have e26 : a.tmps.getD 90 undef = .slice (some ⟨gv, 0, none⟩) nb (nb + 1) := hR.dep ⟨26, .data⟩ (by simp) rfl
          have e28 : a.tmps.getD 92 undef = .int .i64 (j2 : Int) := hR.dep ⟨28, .data⟩ (by simp) rfl
          refine plain_step rfl rfl ?_
          go_simp
          exact hK _ _ (rfl) (Below.refl _ _)
        · simp at ho
          subst ho
          have e29 : a.tmps.getD 93 undef = .pointer (some ⟨gv, j2, none⟩) := hR.dep ⟨29, .data⟩ (by simp) rfl
          have c1 : w.cell? ⟨gv, j2, none⟩ = some (.int .u32 (v1 : Int)) := by rw [cell_up hR.below hgvW2]; exact HCV1.out
          refine plain_step rfl rfl ?_
          go_simp
          exact hK _ _ (rfl) (Below.refl _ _)
        · simp at ho
          subst ho
          have e25 : a.tmps.getD 89 undef = .int .u32 (v0 : Int) := hR.dep ⟨25, .data⟩ (by simp) rfl
          have e30 : a.tmps.getD 94 undef = .int .u32 (v1 : Int) := hR.dep ⟨30, .data⟩ (by simp) rfl
          have e25b : (a.tmps[89]?).getD undef = .int .u32 (v0 : Int) := by rw [← Array.getD_eq_getD_getElem?]; exact e25
          have e30b : (a.tmps[94]?).getD undef = .int .u32 (v1 : Int) := by rw [← Array.getD_eq_getD_getElem?]; exact e30
          refine plain_step rfl rfl ?_
          go_simp
          exact hK _ _ (rfl) (Below.refl _ _)
        · simp at ho
          subst ho
          have e20 : a.tmps.getD 84 undef = .agg #[.int .u32 (u0 : Int), .int .u32 (u1 : Int), .int .u32 (u2 : Int)] := hR.dep ⟨20, .data⟩ (by simp) rfl
          have e31 : a.tmps.getD 95 undef = .agg #[.int .u32 (v0 : Int), .int .u32 (v1 : Int), .int .u32 0] := hR.dep ⟨31, .data⟩ (by simp) rfl
          refine plain_step rfl rfl ?_
          go_simp
          refine (HEST.out _).mono ?_
          rintro e w' ⟨qh, rfl, he, hb⟩
          exact hK _ _ (⟨qh, rfl, he⟩) hb
        · simp at ho
          subst ho
          have e32 := hR.dep ⟨32, .data⟩ (by simp) rfl
          obtain ⟨qh, hqh, he⟩ : ∃ qh : Nat, a.tmps.getD 96 undef = .int .u64 (qh : Int) ∧ EstR (u0 * 4294967296 + u1) (v0 * 4294967296 + v1) u2 qh := e32
          refine plain_step rfl rfl ?_
          go_simp
          exact hK _ _ (⟨qh, rfl, he⟩) (Below.refl _ _)
      · intro s_ w6 hS hb
        have e33 := hS 33 (by decide)
        simp only [over, Nat.zero_add, Nat.reduceAdd, Nat.reduceLeDiff, Nat.reduceLT, decide_true, decide_false, Bool.and_true, Bool.and_false, Bool.or_false, Bool.or_true, cond_true, cond_false]
        obtain ⟨qh, hqh, he⟩ : ∃ qh : Nat, s_ 13 = .int .u64 (qh : Int) ∧ EstR (u0 * 4294967296 + u1) (v0 * 4294967296 + v1) u2 qh := e33
        rw [hqh]
        have HEQ := Lib.hid (HDIG.out qh he)
        have HQL2 := Lib.hid he.1
        clear f1 f2 f3 f4 f5 hS hqh he
        go_wp2_with fail
        rw [show k + nb + 1 - k = nb + 1 by omega]
        have hKU6 := heap_up hb HKU.out
        have HKQ6 := Lib.hid (heap_up hb HKQ.out)
        have HF6 := Lib.hid (HF.out.trans (Fr.of_new hb _))
        have hV6 := HV.out.frm (fun b off n c e hm => hm.elim (HOFF.out b off n c e) (HOFFQ.out b off n c e)) HF6.out
        refine (take_any gu k nb (na + 1 - k) qh U _ lv w6 hKU6 HUO.out HVN.out HKL.out (by omega) (by omega) hV6 HOFF.out HQL2.out).mono ?_
        rintro e w7 ⟨bb, R, rfl, hb1, hRl, hRo, hRv, hKU7, hF7⟩
        rw [HVAL.out, HWD.out] at hRv
        have HKQ7 := Lib.hid (hF7.heap HKQ6.out hqu)
        have HF7 := Lib.hid (HF6.out.two hF7)
        have hV7 := hV6.fr HOFF.out hF7
        have HRL := Lib.hid hRl; have HRO := Lib.hid hRo; have HKU7 := Lib.hid hKU7; have HV7 := Lib.hid hV7
        clear hKU6 hV6 hb hRl hRo hKU7 hF7 hV7 HKU HKQ HF HKQ6 HF6 HEST HU0 HU1 HU2 HCV0 HCV1 hguW hgvW2 HDIG
        have hqi : (qh : Int) < 4294967296 := by have := HQL2.out; omega
        rcases (by omega : bb = 0 ∨ bb = 1) with rfl | rfl
        · have hdg := digit_right HV0.out HEQ.out.1 hRv
          have hst := div_step (Q := Q) HUO.out HKL.out HV0.out HVT.out HUV.out HUM.out HRL.out (by rw [HWD.out]; exact hdg.2)
          rw [HWD.out, ← hdg.1] at hst
          have HST := Lib.hid hst
          clear hdg hst hRv hb1
          rw [show decide (0 = 1) = false from rfl]
          have q5 : (qh : Int) % 4294967296 = (qh : Int) := by omega
          have hfr : w7.frozen? ⟨gq, k, none⟩ = false := Lib.frozen_of_heap HKQ7.out _
          obtain ⟨z0, hz0⟩ : ∃ z, w7.cell? ⟨gq, k, none⟩ = some z := by rw [Lib.cell_of_heap HKQ7.out]; exact ⟨_, cellsK_get (by simp; omega)⟩
          have HSB := Lib.hid (set_back Q k qh)
          clear hqi
          go_wp2_with fail
          go_roundw
          case rel => exact ⟨k, (k : Int) - 1, U.take k ++ (R ++ U.drop (k + nb + 1)), qh :: Q, by omega, rfl, by go_num, Lib.hid (win_len HUL.out HKL.out HRL.out), Lib.hid (win_ok HUO.out HRO.out), Lib.hid (okB_cons HQL2.out HQO.out), Lib.hid (by rw [List.length_cons, HQL.out]; omega), Lib.hid HST.out.1, Lib.hid HST.out.2, Lib.hid (by rw [heap_other (by omega)]; exact HKU7.out), Lib.hid (by rw [← HSB.out]; exact set_block HKQ7.out), Lib.hid (HF7.out.setCell (p := ⟨gq, k, none⟩) (.inl (.inr rfl)) _)⟩
          case measure => simp [intOf]
        · have hRb := valB_lt HRO.out
          rw [HRL.out] at hRb
          obtain ⟨p, hp⟩ : ∃ p, qh = p + 1 := by
            rcases qh with _ | p
            · exfalso; rw [Nat.zero_mul, Nat.mul_one] at hRv; omega
            · exact ⟨p, rfl⟩
          have HP := Lib.hid hp; have HRV := Lib.hid hRv; have HRB := Lib.hid hRb
          have qs : (qh : Int) - 1 = (p : Int) := by omega
          have hq1 : 1 ≤ (qh : Int) := by omega
          have hpl : (p : Int) < 4294967296 := by omega
          clear hp hRv hRb hb1
          rw [show decide (1 = 1) = true from rfl]
          go_wp2_with fail
          rw [show k + nb + 1 - k = nb + 1 by omega]
          refine (give_any gu k nb (na + 1 - k) (U.take k ++ (R ++ U.drop (k + nb + 1))) _ lv w7 HKU7.out (win_ok HUO.out HRO.out) HVN.out (by rw [win_len HUL.out HKL.out HRL.out]; have := HUL.out; have := HKL.out; omega) (by omega) (by omega) HV7.out HOFF.out).mono ?_
          rintro e w8 ⟨c2, R2, rfl, hc2, hR2l, hR2o, hR2v, hKU8, hF8⟩
          obtain ⟨y1, y2, y3⟩ := win_parts (U := U) (R := R) (k := k) (n := nb) HKL.out HRL.out
          rw [y1, HVAL.out] at hR2v
          rw [y2, y3] at hKU8
          have hR2b := valB_lt hR2o
          rw [hR2l] at hR2b
          have hVE : V ≤ 4294967296 ^ (nb + 1) := Nat.le_of_lt (Nat.lt_of_lt_of_le HVT.out (Nat.pow_le_pow_right (by decide) (by omega)))
          obtain ⟨p', hp', hpd, hr2⟩ := digit_less HV0.out HEQ.out.2 hVE HRB.out hR2b HRV.out hc2 hR2v
          obtain rfl : p' = p := by have := HP.out; omega
          have hst := div_step (Q := Q) HUO.out HKL.out HV0.out HVT.out HUV.out HUM.out hR2l (by rw [HWD.out]; exact hr2)
          rw [HWD.out, ← hpd] at hst
          have HST := Lib.hid hst
          have HKQ8 := Lib.hid (hF8.heap HKQ7.out hqu)
          have HF8 := Lib.hid (HF7.out.two hF8)
          have HR2L := Lib.hid hR2l; have HR2O := Lib.hid hR2o; have HKU8 := Lib.hid hKU8
          clear hst hpd hp' hr2 hVE hR2b hR2v hc2 hR2l hR2o hKU8 hF8 y1 y2 y3
          have q5 : (p' : Int) % 4294967296 = (p' : Int) := by omega
          have hfr : w8.frozen? ⟨gq, k, none⟩ = false := Lib.frozen_of_heap HKQ8.out _
          obtain ⟨z0, hz0⟩ : ∃ z, w8.cell? ⟨gq, k, none⟩ = some z := by rw [Lib.cell_of_heap HKQ8.out]; exact ⟨_, cellsK_get (by simp; omega)⟩
          have HSB := Lib.hid (set_back Q k p')
          have HPL := Lib.hid (show p' < 4294967296 by omega)
          clear hqi hpl hq1 qs
          go_wp2_with fail
          go_roundw
          case rel => exact ⟨k, (k : Int) - 1, U.take k ++ (R2 ++ U.drop (k + nb + 1)), p' :: Q, by omega, rfl, by go_num, Lib.hid (win_len HUL.out HKL.out HR2L.out), Lib.hid (win_ok HUO.out HR2O.out), Lib.hid (okB_cons HPL.out HQO.out), Lib.hid (by rw [List.length_cons, HQL.out]; omega), Lib.hid HST.out.1, Lib.hid HST.out.2, Lib.hid (by rw [heap_other (by omega)]; exact HKU8.out), Lib.hid (by rw [← HSB.out]; exact set_block HKQ8.out), Lib.hid (HF8.out.setCell (p := ⟨gq, k, none⟩) (.inl (.inr rfl)) _)⟩
          case measure => simp [intOf]
theorem divide_any (va vb : Value) (m n : Nat) (w : World) (ha : Lim w va (digs 4294967296 m)) (hb : Lim w vb (digs 4294967296 n)) (hn : 0 < n) (hm9 : (digs 4294967296 m).length ≤ 500000000) :
    Calls Tryz.prog 47 #[va, vb] w fun e w' => ∃ vq vr, e = .returned (.tuple #[vq, vr]) ∧ Lim w' vq (digs 4294967296 (m / n)) ∧ Lim w' vr (digs 4294967296 (m % n)) ∧ Below w.heap.size w w' := by
  rcases Nat.lt_or_ge m n with h | h
  · exact divide_small va vb m n w ha hb h
  · have hl : (digs 4294967296 n).length ≠ 0 := fun e => by
      have := List.eq_nil_of_length_eq_zero e
      rw [digs_eq_nil (by decide)] at this; omega
    rcases (by omega : (digs 4294967296 n).length = 1 ∨ 2 ≤ (digs 4294967296 n).length) with h1 | h1
    · exact divide_one va vb m n w ha hb h h1 (by omega)
    · exact divide_long va vb m n w ha hb h h1 hm9
end Go.Proofs.YtakbkbmjeanboaaGreatDoor
