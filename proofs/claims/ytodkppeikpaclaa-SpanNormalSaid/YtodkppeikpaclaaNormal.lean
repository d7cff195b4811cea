/- 'tithinglaw05.SpanNormal' returns true at every input: the walk, the row. -/
import Derived.Test.YtodkppeikpaclaaSpnS
import Derived.Test.YtodkppeikpaclaaSpnR
import Derived.Test.YtodkppeikpaclaaSpnN
import Derived.Test.YtodkppeikpaclaaRgn
import Derived.IntWalk
import Derived.Test.YtodkppeikpaclaaSpnQ
namespace Go.Proofs.Ytodkppeikpaclaa.spanNormal
open Go.ChangeShapes Go.Shelf Go.WideShapes Go.ChangeAt Go.RowKit
open Spn Go.Sort
set_option linter.unusedVariables false

theorem nrm_right : ∀ {l : List Sp} {b : Int}, Nrm b l → ∀ j (h : j < l.length), rightS l[j] = true
  | [], _, _, j, h => absurd h (by simp)
  | s :: r, b, hn, 0, h => hn.2.1
  | s :: r, b, hn, j + 1, h => nrm_right hn.2.2 j (by simpa using h)
theorem nrm_gap : ∀ {l : List Sp} {b : Int}, Nrm b l → ∀ j (h : j + 1 < l.length), l[j].2 < l[j + 1].1
  | [], _, _, j, h => absurd h (by simp)
  | [s], _, _, j, h => absurd h (by simp)
  | s :: s' :: r, b, hn, 0, h => by have := hn.2.2.1; simp; omega
  | s :: s' :: r, b, hn, j + 1, h => nrm_gap (l := s' :: r) hn.2.2 j (by simpa using h)
def EN0 (bd k m g off n : Nat) (c' : Nat) (sf st u : Int) : Nat → Value
  | 0 => .slice (some ⟨bd, 0, none⟩) 4 4
  | 1 => .int .i64 (k : Int)
  | 2 => .pointer (some ⟨bd, k, none⟩)
  | 3 => .slice (some ⟨g, off, none⟩) n c'
  | 4 => .int .i64 (0 : Int)
  | 5 => .pointer (some ⟨g, off, none⟩)
  | 6 => .agg #[.int .i64 sf, .int .i64 st]
  | 7 => .bool true
  | 8 => .bool false
  | 9 => .bool false
  | 10 => .int .i64 (0 : Int)
  | 11 => .bool false
  | 12 => .bool false
  | 13 => undef
  | 14 => undef
  | 15 => undef
  | 16 => undef
  | 17 => undef
  | 18 => undef
  | 19 => undef
  | 20 => undef
  | 21 => undef
  | 22 => undef
  | 23 => undef
  | 24 => undef
  | 25 => undef
  | 26 => undef
  | 27 => undef
  | 28 => undef
  | 29 => undef
  | 30 => undef
  | 31 => .bool false
  | 32 => .bool false
  | _ => undef
def SN0 (bd k m g off n : Nat) (c' : Nat) (sf st u : Int) (j : Nat) (v : Value) (w : World) : Prop :=
  match j with
  | j => v = EN0 bd k m g off n c' sf st u j
theorem SN0_up (bd k m g off n : Nat) (c' : Nat) (sf st u : Int) (j : Nat) (v : Value) (w w' : World) (hb : Below w.heap.size w w') (h : SN0 bd k m g off n c' sf st u j v w) : SN0 bd k m g off n c' sf st u j v w' := by
  exact h
def EN1 (bd k m g off n : Nat) (c' : Nat) (sf st u : Int) : Nat → Value
  | 0 => .slice (some ⟨bd, 0, none⟩) 4 4
  | 1 => .int .i64 (k : Int)
  | 2 => .pointer (some ⟨bd, k, none⟩)
  | 3 => .slice (some ⟨g, off, none⟩) n c'
  | 4 => .int .i64 (((m + 1 : Nat) : Int))
  | 5 => .pointer (some ⟨g, off + (m + 1) * 2, none⟩)
  | 6 => .agg #[.int .i64 sf, .int .i64 st]
  | 7 => .bool true
  | 8 => .bool false
  | 9 => .bool false
  | 10 => .int .i64 (((m + 1 : Nat) : Int))
  | 11 => .bool true
  | 12 => .bool true
  | 13 => .slice (some ⟨bd, 0, none⟩) 4 4
  | 14 => .int .i64 (k : Int)
  | 15 => .pointer (some ⟨bd, k, none⟩)
  | 16 => .slice (some ⟨g, off, none⟩) n c'
  | 17 => .int .i64 (((m + 1 : Nat) : Int))
  | 18 => .pointer (some ⟨g, off + (m + 1) * 2, none⟩)
  | 19 => .pointer (some ⟨g, off + (m + 1) * 2, none⟩)
  | 20 => .int .i64 sf
  | 21 => .slice (some ⟨bd, 0, none⟩) 4 4
  | 22 => .int .i64 (k : Int)
  | 23 => .pointer (some ⟨bd, k, none⟩)
  | 24 => .slice (some ⟨g, off, none⟩) n c'
  | 25 => .int .i64 (((m + 1 : Nat) : Int))
  | 26 => .int .i64 (m : Int)
  | 27 => .pointer (some ⟨g, off + m * 2, none⟩)
  | 28 => .pointer (some ⟨g, off + m * 2 + 1, none⟩)
  | 29 => .int .i64 u
  | 30 => .bool false
  | 31 => .bool false
  | 32 => .bool false
  | _ => undef
def SN1 (bd k m g off n : Nat) (c' : Nat) (sf st u : Int) (j : Nat) (v : Value) (w : World) : Prop :=
  match j with
  | j => v = EN1 bd k m g off n c' sf st u j
theorem SN1_up (bd k m g off n : Nat) (c' : Nat) (sf st u : Int) (j : Nat) (v : Value) (w w' : World) (hb : Below w.heap.size w w') (h : SN1 bd k m g off n c' sf st u j v w) : SN1 bd k m g off n c' sf st u j v w' := by
  exact h
def EN3 (bd k n : Nat) (p' : Option Addr) (c' : Nat) (l' : List Sp) : Nat → Value
  | 0 => .slice (some ⟨bd, 0, none⟩) 4 4
  | 1 => .int .i64 (k : Int)
  | 2 => .pointer (some ⟨bd, k, none⟩)
  | 3 => .slice p' n c'
  | 5 => .slice (some ⟨bd, 0, none⟩) 4 4
  | 6 => .int .i64 (k : Int)
  | 7 => .pointer (some ⟨bd, k, none⟩)
  | 8 => .slice p' n c'
  | 9 => .bool true
  | 10 => .bool false
  | _ => undef
def SN3 (bd k n : Nat) (p' : Option Addr) (c' : Nat) (l' : List Sp) (j : Nat) (v : Value) (w : World) : Prop :=
  match j with
  | 4 => Lst w v l'
  | j => v = EN3 bd k n p' c' l' j
theorem SN3_up (bd k n : Nat) (p' : Option Addr) (c' : Nat) (l' : List Sp) (j : Nat) (v : Value) (w w' : World) (hb : Below w.heap.size w w') (h : SN3 bd k n p' c' l' j v w) : SN3 bd k n p' c' l' j v w' := by
  unfold SN3 at h ⊢
  split at h
  · exact h.up hb
  · exact h
set_option maxHeartbeats 16000000 in
set_option maxRecDepth 100000 in
theorem walk (xv yv : Value) (w : World) (ha : ArgP w xv) (hb0 : ArgP w yv) : Calls Try.prog 6 #[xv, yv] w fun e w' => e = .returned (.bool true) ∧ Below w.heap.size w w' := by
  have HA := Lib.hid ha; have HC := Lib.hid hb0
  clear ha hb0
  have HB := Lib.hid (Below.refl w.heap.size w)
  go_enter Try.func6, Try.ntmps6
  go_wp2_with fail
  refine (sanity_any _).mono ?_
  rintro e w1 ⟨rfl, hb⟩
  have HB := Lib.hid (HB.out.trans (hb.mono HB.out.size))
  have HA := Lib.hid (HA.out.up hb)
  have HC := Lib.hid (HC.out.up hb)
  clear hb
  go_wp2_with fail
  refine (Made_any _ _ HA.out).mono ?_
  rintro e w2 ⟨va, la, rfl, hl, hna8, hm, hb⟩
  have HB := Lib.hid (HB.out.trans (hb.mono HB.out.size))
  have HA := Lib.hid (HA.out.up hb)
  have HC := Lib.hid (HC.out.up hb)
  have HX := Lib.hid hl; have HMA := Lib.hid hm
  have hna : la.length ≤ 10000 := by omega
  clear hl hm
  clear hb
  go_wp2_with fail
  refine (Made_any _ _ HC.out).mono ?_
  rintro e w3 ⟨vb, lb, rfl, hl, hnb8, hm, hb⟩
  have HB := Lib.hid (HB.out.trans (hb.mono HB.out.size))
  have HC := Lib.hid (HC.out.up hb)
  have HX := Lib.hid (HX.out.up hb)
  have HY := Lib.hid hl; have HMB := Lib.hid hm
  have hnb : lb.length ≤ 10000 := by omega
  clear hl hm
  clear hb
  go_wp2_with fail
  have b5 := comb_len orF la lb; have b6 := comb_len andF la lb; have b7 := comb_len lessF la lb; have b8 := norm_len la
  clear HA HC
  refine (Norm_any _ la _ hna HX.out).mono ?_
  rintro e w4 ⟨v1, rfl, hl, hb⟩
  have HB := Lib.hid (HB.out.trans (hb.mono HB.out.size))
  have HX := Lib.hid (HX.out.up hb)
  have HY := Lib.hid (HY.out.up hb)
  obtain ⟨l1, hl1, hn1, hk1⟩ : ∃ l, Lst _ v1 l ∧ Nrm 0 l ∧ l.length ≤ 100 := ⟨norm la, hl, norm_nrm la, by omega⟩
  have K1 := Lib.hid hl1; have N1 := Lib.hid hn1
  obtain ⟨p1, c1, hv1, -, -⟩ := hl1.open
  clear hl hl1 hn1
  obtain rfl := hv1
  clear hb
  go_wp2_with fail
  refine (Union_any _ _ la lb _ hna hnb HX.out HY.out).mono ?_
  rintro e w5 ⟨v2, rfl, hl, hb⟩
  have HB := Lib.hid (HB.out.trans (hb.mono HB.out.size))
  have HX := Lib.hid (HX.out.up hb)
  have HY := Lib.hid (HY.out.up hb)
  have K1 := Lib.hid (K1.out.up hb)
  obtain ⟨l2, hl2, hn2, hk2⟩ : ∃ l, Lst _ v2 l ∧ Nrm 0 l ∧ l.length ≤ 100 := ⟨comb orF la lb, hl, comb_nrm _ _ _, by omega⟩
  have K2 := Lib.hid hl2; have N2 := Lib.hid hn2
  obtain ⟨p2, c2, hv2, -, -⟩ := hl2.open
  clear hl hl2 hn2
  obtain rfl := hv2
  clear hb
  go_wp2_with fail
  refine (Meet_any _ _ la lb _ hna hnb HX.out HY.out).mono ?_
  rintro e w6 ⟨v3, rfl, hl, hb⟩
  have HB := Lib.hid (HB.out.trans (hb.mono HB.out.size))
  have HX := Lib.hid (HX.out.up hb)
  have HY := Lib.hid (HY.out.up hb)
  have K1 := Lib.hid (K1.out.up hb)
  have K2 := Lib.hid (K2.out.up hb)
  obtain ⟨l3, hl3, hn3, hk3⟩ : ∃ l, Lst _ v3 l ∧ Nrm 0 l ∧ l.length ≤ 100 := ⟨comb andF la lb, hl, comb_nrm _ _ _, by omega⟩
  have K3 := Lib.hid hl3; have N3 := Lib.hid hn3
  obtain ⟨p3, c3, hv3, -, -⟩ := hl3.open
  clear hl hl3 hn3
  obtain rfl := hv3
  clear hb
  go_wp2_with fail
  refine (Less_any _ _ la lb _ hna hnb HX.out HY.out).mono ?_
  rintro e w7 ⟨v4, rfl, hl, hb⟩
  have HB := Lib.hid (HB.out.trans (hb.mono HB.out.size))
  have HX := Lib.hid (HX.out.up hb)
  have HY := Lib.hid (HY.out.up hb)
  have K1 := Lib.hid (K1.out.up hb)
  have K2 := Lib.hid (K2.out.up hb)
  have K3 := Lib.hid (K3.out.up hb)
  obtain ⟨l4, hl4, hn4, hk4⟩ : ∃ l, Lst _ v4 l ∧ Nrm 0 l ∧ l.length ≤ 100 := ⟨comb lessF la lb, hl, comb_nrm _ _ _, by omega⟩
  have K4 := Lib.hid hl4; have N4 := Lib.hid hn4
  obtain ⟨p4, c4, hv4, -, -⟩ := hl4.open
  clear hl hl4 hn4
  obtain rfl := hv4
  clear hb
  have K1 := Lib.hid (K1.out.up ((Below.refl _ w7).alloc (Nat.le_refl _) (.cells #[.slice p1 l1.length c1, .slice p2 l2.length c2, .slice p3 l3.length c3, .slice p4 l4.length c4] 24)))
  have K2 := Lib.hid (K2.out.up ((Below.refl _ w7).alloc (Nat.le_refl _) (.cells #[.slice p1 l1.length c1, .slice p2 l2.length c2, .slice p3 l3.length c3, .slice p4 l4.length c4] 24)))
  have K3 := Lib.hid (K3.out.up ((Below.refl _ w7).alloc (Nat.le_refl _) (.cells #[.slice p1 l1.length c1, .slice p2 l2.length c2, .slice p3 l3.length c3, .slice p4 l4.length c4] 24)))
  have K4 := Lib.hid (K4.out.up ((Below.refl _ w7).alloc (Nat.le_refl _) (.cells #[.slice p1 l1.length c1, .slice p2 l2.length c2, .slice p3 l3.length c3, .slice p4 l4.length c4] 24)))
  have HB := Lib.hid (HB.out.alloc HB.out.size (.cells #[.slice p1 l1.length c1, .slice p2 l2.length c2, .slice p3 l3.length c3, .slice p4 l4.length c4] 24))
  have KD := Lib.hid (heap_alloc_new w7 (.cells #[.slice p1 l1.length c1, .slice p2 l2.length c2, .slice p3 l3.length c3, .slice p4 l4.length c4] 24))
  have hlt0 : w7.heap.size < (w7.alloc (.cells #[.slice p1 l1.length c1, .slice p2 l2.length c2, .slice p3 l3.length c3, .slice p4 l4.length c4] 24)).heap.size := by simp
  go_wp2_with fail
  obtain ⟨V, hV⟩ : ∃ V, w7.alloc (.cells #[.slice p1 l1.length c1, .slice p2 l2.length c2, .slice p3 l3.length c3, .slice p4 l4.length c4] 24) = V := ⟨_, rfl⟩
  rw [hV] at K1 K2 K3 K4 HB KD hlt0 ⊢
  obtain ⟨bd, hbd⟩ : ∃ b, w7.heap.size = b := ⟨_, rfl⟩
  rw [hbd] at KD hlt0 ⊢
  clear hV hbd HX HY
  have HC : Hid (∀ i : Nat, i < 4 → ∃ p c l, V.cell? ⟨bd, i, none⟩ = some (.slice p l.length c) ∧ Lst V (.slice p l.length c) l ∧ Nrm 0 l ∧ l.length ≤ 100) := Lib.hid (fun i hi => by
    rw [Lib.cell_of_heap KD.out]
    rcases (by omega : i = 0 ∨ i = 1 ∨ i = 2 ∨ i = 3) with rfl | rfl | rfl | rfl
    · exact ⟨_, _, _, rfl, K1.out, N1.out, hk1⟩
    · exact ⟨_, _, _, rfl, K2.out, N2.out, hk2⟩
    · exact ⟨_, _, _, rfl, K3.out, N3.out, hk3⟩
    · exact ⟨_, _, _, rfl, K4.out, N4.out, hk4⟩)
  clear K1 K2 K3 K4 N1 N2 N3 N4 hk1 hk2 hk3 hk4 b5 b6 b7 b8
  go_loopw [9, 10] (fun i _ wr => ∃ k : Nat, k ≤ 4 ∧ i = .int .i64 (k : Int) ∧ Hid (Below V.heap.size V wr)) (fun i _ _ => 4 - (intOf i).toNat)
  case atStart => exact ⟨0, by omega, rfl, Lib.hid (Below.refl _ _)⟩
  case round =>
    obtain ⟨k, hk, rfl, HBW⟩ := hrel
    by_cases hlt : k < 4
    · have hlt' : (k : Int) < 4 := by omega
      obtain ⟨p, c, l, hx, hl, hn, hll⟩ := HC.out k hlt
      have HCX := Lib.hid hx; have HL := Lib.hid hl; have HN := Lib.hid hn
      obtain ⟨p', c', hpe, hl6, hcell⟩ := hl.open
      obtain ⟨rfl, -, rfl⟩ : p' = p ∧ True ∧ c' = c := by injection hpe with e1 _ e3; exact ⟨e1.symm, trivial, e3.symm⟩
      have HCL := Lib.hid hcell
      have HR : Hid (∀ j (h : j < l.length), rightS l[j] = true) := Lib.hid (nrm_right hn)
      have HG : Hid (∀ j (h : j + 1 < l.length), l[j].2 < l[j + 1].1) := Lib.hid (nrm_gap hn)
      clear hx hl hn hcell hpe hl6
      obtain ⟨wo, hwo⟩ : ∃ wo, wo = wr := ⟨_, rfl⟩
      subst hwo
      go_wp2_with fail
      go_loopw [10] (fun j wr => ∃ j' : Nat, j' ≤ l.length ∧ j = .int .i64 (j' : Int) ∧ Hid (Below V.heap.size V wr)) (fun j _ => l.length - (intOf j).toNat)
      case atStart => exact ⟨0, by omega, rfl, HBW⟩
      case round =>
        obtain ⟨j, hj, rfl, HBJ⟩ := hrel
        have c1 : wr.cell? ⟨bd, k, none⟩ = some (.slice p' l.length c') := by rw [cell_up HBJ.out hlt0]; exact HCX.out
        by_cases hjl : j < l.length
        · have hjl' : (j : Int) < (l.length : Int) := by omega
          obtain ⟨g, off, hpe, hg, h1, h2⟩ := HCL.out j hjl
          subst hpe
          have HR0 := Lib.hid (HR.out j hjl)
          have HSF : Hid (∃ sf, l[j].1 = sf) := Lib.hid ⟨_, rfl⟩
          obtain ⟨sf, hsf⟩ := HSF.out; obtain ⟨st, hst⟩ : ∃ st, l[j].2 = st := ⟨_, rfl⟩
          have hes : l[j] = (sf, st) := by rw [← hsf, ← hst]
          have HRT : Hid (rightS (sf, st) = true) := Lib.hid (by rw [← hes]; exact HR0.out)
          clear HR0
          rw [hsf] at h1; rw [hst] at h2
          rcases j with _ | m
          · simp only [Nat.zero_mul, Nat.add_zero] at h1 h2
            have HA1 : Hid (wr.cell? ⟨g, off, none⟩ = some (.int .i64 sf)) := Lib.hid (by rw [cell_up HBJ.out hg]; exact h1)
            have HA2 : Hid (wr.cell? ⟨g, off + 1, none⟩ = some (.int .i64 st)) := Lib.hid (by rw [cell_up HBJ.out hg]; exact h2)
            have hltG := Nat.lt_of_lt_of_le hg HBJ.out.size; have hltB := Nat.lt_of_lt_of_le hlt0 HBJ.out.size
            obtain ⟨n, hn⟩ : ∃ n, l.length = n := ⟨_, rfl⟩
            have HNN := Lib.hid hn
            rw [hn] at c1 hjl' HCX ⊢
            have HD := Lib.hid c1
            clear hsf hst hes h1 h2 hn
            go_wp2_with fail
            clear c1
            refine wp_region_vals (w := wr) (by kernel_rfl) (SN0 bd k 0 g off n c' sf st 0) (fun t => (decide (43 ≤ t) && decide (t < 76))) (by kernel_rfl) (by kernel_rfl) (by kernel_rfl) (SN0_up bd k 0 g off n c' sf st 0) ?_ ?_
            · intro i hi o listed a w hR K hK
              have ho := hR.at_
              have hi : i < 33 := hi
              have hii : i = 0 ∨ i = 1 ∨ i = 2 ∨ i = 3 ∨ i = 4 ∨ i = 5 ∨ i = 6 ∨ i = 7 ∨ i = 8 ∨ i = 9 ∨ i = 10 ∨ i = 11 ∨ i = 12 ∨ i = 13 ∨ i = 14 ∨ i = 15 ∨ i = 16 ∨ i = 17 ∨ i = 18 ∨ i = 19 ∨ i = 20 ∨ i = 21 ∨ i = 22 ∨ i = 23 ∨ i = 24 ∨ i = 25 ∨ i = 26 ∨ i = 27 ∨ i = 28 ∨ i = 29 ∨ i = 30 ∨ i = 31 ∨ i = 32 := by omega
              rcases hii with rfl | rfl | rfl | rfl | rfl | rfl | rfl | rfl | rfl | rfl | rfl | rfl | rfl | rfl | rfl | rfl | rfl | rfl | rfl | rfl | rfl | rfl | rfl | rfl | rfl | rfl | rfl | rfl | rfl | rfl | rfl | rfl | rfl
              · simp at ho
                subst ho
                have b8 : a.tmps.getD 8 undef = .slice (some ⟨bd, 0, none⟩) 4 4 := hR.base 8 (by kernel_rfl)
                refine plain_step rfl rfl ?_
                go_simp
                exact hK _ _ (rfl) (Below.refl _ _)
              · simp at ho
                subst ho
                have b9 : a.tmps.getD 9 undef = .int .i64 (k : Int) := hR.base 9 (by kernel_rfl)
                refine plain_step rfl rfl ?_
                go_simp
                exact hK _ _ (rfl) (Below.refl _ _)
              · simp at ho
                subst ho
                have e0 : a.tmps.getD 43 undef = .slice (some ⟨bd, 0, none⟩) 4 4 := hR.dep ⟨0, .data⟩ (by simp) rfl
                have e1 : a.tmps.getD 44 undef = .int .i64 (k : Int) := hR.dep ⟨1, .data⟩ (by simp) rfl
                refine plain_step rfl rfl ?_
                go_simp
                exact hK _ _ (rfl) (Below.refl _ _)
              · simp at ho
                subst ho
                have e2 : a.tmps.getD 45 undef = .pointer (some ⟨bd, k, none⟩) := hR.dep ⟨2, .data⟩ (by simp) rfl
                have c1 : w.cell? ⟨bd, k, none⟩ = some (.slice (some ⟨g, off, none⟩) n c') := by rw [cell_up hR.below hltB]; exact HD.out
                refine plain_step rfl rfl ?_
                go_simp
                exact hK _ _ (rfl) (Below.refl _ _)
              · simp at ho
                subst ho
                have b10 : a.tmps.getD 10 undef = .int .i64 (0 : Int) := hR.base 10 (by kernel_rfl)
                refine plain_step rfl rfl ?_
                go_simp
                exact hK _ _ (rfl) (Below.refl _ _)
              · simp at ho
                subst ho
                have e3 : a.tmps.getD 46 undef = .slice (some ⟨g, off, none⟩) n c' := hR.dep ⟨3, .data⟩ (by simp) rfl
                have e4 : a.tmps.getD 47 undef = .int .i64 (0 : Int) := hR.dep ⟨4, .data⟩ (by simp) rfl
                refine plain_step rfl rfl ?_
                go_simp
                exact hK _ _ (rfl) (Below.refl _ _)
              · simp at ho
                subst ho
                have e5 : a.tmps.getD 48 undef = .pointer (some ⟨g, off, none⟩) := hR.dep ⟨5, .data⟩ (by simp) rfl
                have cA : w.cell? ⟨g, off, none⟩ = some (.int .i64 sf) := by rw [cell_up hR.below hltG]; exact HA1.out
                have cB : w.cell? ⟨g, off + 1, none⟩ = some (.int .i64 st) := by rw [cell_up hR.below hltG]; exact HA2.out
                refine plain_step rfl rfl ?_
                go_simp
                exact hK _ _ (rfl) (Below.refl _ _)
              · simp at ho
                subst ho
                have e6 : a.tmps.getD 49 undef = .agg #[.int .i64 sf, .int .i64 st] := hR.dep ⟨6, .data⟩ (by simp) rfl
                refine plain_step rfl rfl ?_
                go_simp
                refine (Right_any sf st _).mono ?_
                rintro e w' ⟨rfl, hb⟩
                rw [HRT.out]
                exact hK _ _ (rfl) hb
              · simp at ho
                subst ho
                have e7 : a.tmps.getD 50 undef = .bool true := hR.dep ⟨7, .data⟩ (by simp) rfl
                refine plain_step rfl rfl ?_
                go_simp
                exact hK _ _ (rfl) (Below.refl _ _)
              · simp at ho
                subst ho
                have e8 : a.tmps.getD 51 undef = .bool false := hR.dep ⟨8, .data⟩ (by simp) rfl
                refine plain_step rfl rfl ?_
                go_simp
                exact hK _ _ (rfl) (Below.refl _ _)
              · simp at ho
                subst ho
                have e9 : a.tmps.getD 52 undef = .bool false := hR.dep ⟨9, .guard⟩ (by simp) rfl
                have b10 : a.tmps.getD 10 undef = .int .i64 (0 : Int) := hR.base 10 (by kernel_rfl)
                refine guard_step rfl rfl rfl (b := false) e9 ?_
                go_simp
                exact hK _ _ (rfl) (Below.refl _ _)
              · simp at ho
                subst ho
                have e10 : a.tmps.getD 53 undef = .int .i64 (0 : Int) := hR.dep ⟨10, .data⟩ (by simp) rfl
                have e9 : a.tmps.getD 52 undef = .bool false := hR.dep ⟨9, .guard⟩ (by simp) rfl
                refine guard_step rfl rfl rfl (b := false) e9 ?_
                go_simp
                exact hK _ _ (rfl) (Below.refl _ _)
              · simp at ho
                subst ho
                have e11 : a.tmps.getD 54 undef = .bool false := hR.dep ⟨11, .data⟩ (by simp) rfl
                have e9 : a.tmps.getD 52 undef = .bool false := hR.dep ⟨9, .guard⟩ (by simp) rfl
                refine guard_step rfl rfl rfl (b := false) e9 ?_
                go_simp
                exact hK _ _ (rfl) (Below.refl _ _)
              · simp at ho
                subst ho
                have e12 : a.tmps.getD 55 undef = .bool false := hR.dep ⟨12, .guard⟩ (by simp) rfl
                refine guard_skip rfl rfl rfl (b := true) e12 (by decide) ?_
                exact hK _ _ rfl (Below.refl _ _)
              · simp at ho
                subst ho
                have e12 : a.tmps.getD 55 undef = .bool false := hR.dep ⟨12, .guard⟩ (by simp) rfl
                refine guard_skip rfl rfl rfl (b := true) e12 (by decide) ?_
                exact hK _ _ rfl (Below.refl _ _)
              · simp at ho
                subst ho
                have e12 : a.tmps.getD 55 undef = .bool false := hR.dep ⟨12, .guard⟩ (by simp) rfl
                refine guard_skip rfl rfl rfl (b := true) e12 (by decide) ?_
                exact hK _ _ rfl (Below.refl _ _)
              · simp at ho
                subst ho
                have e12 : a.tmps.getD 55 undef = .bool false := hR.dep ⟨12, .guard⟩ (by simp) rfl
                refine guard_skip rfl rfl rfl (b := true) e12 (by decide) ?_
                exact hK _ _ rfl (Below.refl _ _)
              · simp at ho
                subst ho
                have e12 : a.tmps.getD 55 undef = .bool false := hR.dep ⟨12, .guard⟩ (by simp) rfl
                refine guard_skip rfl rfl rfl (b := true) e12 (by decide) ?_
                exact hK _ _ rfl (Below.refl _ _)
              · simp at ho
                subst ho
                have e12 : a.tmps.getD 55 undef = .bool false := hR.dep ⟨12, .guard⟩ (by simp) rfl
                refine guard_skip rfl rfl rfl (b := true) e12 (by decide) ?_
                exact hK _ _ rfl (Below.refl _ _)
              · simp at ho
                subst ho
                have e12 : a.tmps.getD 55 undef = .bool false := hR.dep ⟨12, .guard⟩ (by simp) rfl
                refine guard_skip rfl rfl rfl (b := true) e12 (by decide) ?_
                exact hK _ _ rfl (Below.refl _ _)
              · simp at ho
                subst ho
                have e12 : a.tmps.getD 55 undef = .bool false := hR.dep ⟨12, .guard⟩ (by simp) rfl
                refine guard_skip rfl rfl rfl (b := true) e12 (by decide) ?_
                exact hK _ _ rfl (Below.refl _ _)
              · simp at ho
                subst ho
                have e12 : a.tmps.getD 55 undef = .bool false := hR.dep ⟨12, .guard⟩ (by simp) rfl
                refine guard_skip rfl rfl rfl (b := true) e12 (by decide) ?_
                exact hK _ _ rfl (Below.refl _ _)
              · simp at ho
                subst ho
                have e12 : a.tmps.getD 55 undef = .bool false := hR.dep ⟨12, .guard⟩ (by simp) rfl
                refine guard_skip rfl rfl rfl (b := true) e12 (by decide) ?_
                exact hK _ _ rfl (Below.refl _ _)
              · simp at ho
                subst ho
                have e12 : a.tmps.getD 55 undef = .bool false := hR.dep ⟨12, .guard⟩ (by simp) rfl
                refine guard_skip rfl rfl rfl (b := true) e12 (by decide) ?_
                exact hK _ _ rfl (Below.refl _ _)
              · simp at ho
                subst ho
                have e12 : a.tmps.getD 55 undef = .bool false := hR.dep ⟨12, .guard⟩ (by simp) rfl
                refine guard_skip rfl rfl rfl (b := true) e12 (by decide) ?_
                exact hK _ _ rfl (Below.refl _ _)
              · simp at ho
                subst ho
                have e12 : a.tmps.getD 55 undef = .bool false := hR.dep ⟨12, .guard⟩ (by simp) rfl
                refine guard_skip rfl rfl rfl (b := true) e12 (by decide) ?_
                exact hK _ _ rfl (Below.refl _ _)
              · simp at ho
                subst ho
                have e12 : a.tmps.getD 55 undef = .bool false := hR.dep ⟨12, .guard⟩ (by simp) rfl
                refine guard_skip rfl rfl rfl (b := true) e12 (by decide) ?_
                exact hK _ _ rfl (Below.refl _ _)
              · simp at ho
                subst ho
                have e12 : a.tmps.getD 55 undef = .bool false := hR.dep ⟨12, .guard⟩ (by simp) rfl
                refine guard_skip rfl rfl rfl (b := true) e12 (by decide) ?_
                exact hK _ _ rfl (Below.refl _ _)
              · simp at ho
                subst ho
                have e12 : a.tmps.getD 55 undef = .bool false := hR.dep ⟨12, .guard⟩ (by simp) rfl
                refine guard_skip rfl rfl rfl (b := true) e12 (by decide) ?_
                exact hK _ _ rfl (Below.refl _ _)
              · simp at ho
                subst ho
                have e12 : a.tmps.getD 55 undef = .bool false := hR.dep ⟨12, .guard⟩ (by simp) rfl
                refine guard_skip rfl rfl rfl (b := true) e12 (by decide) ?_
                exact hK _ _ rfl (Below.refl _ _)
              · simp at ho
                subst ho
                have e12 : a.tmps.getD 55 undef = .bool false := hR.dep ⟨12, .guard⟩ (by simp) rfl
                refine guard_skip rfl rfl rfl (b := true) e12 (by decide) ?_
                exact hK _ _ rfl (Below.refl _ _)
              · simp at ho
                subst ho
                have e12 : a.tmps.getD 55 undef = .bool false := hR.dep ⟨12, .data⟩ (by simp) rfl
                have e30 : a.tmps.getD 73 undef = undef := hR.dep ⟨30, .data⟩ (by simp) rfl
                have e9 : a.tmps.getD 52 undef = .bool false := hR.dep ⟨9, .guard⟩ (by simp) rfl
                refine guard_step rfl rfl rfl (b := false) e9 ?_
                go_simp
                exact hK _ _ (rfl) (Below.refl _ _)
              · simp at ho
                subst ho
                have e9 : a.tmps.getD 52 undef = .bool false := hR.dep ⟨9, .data⟩ (by simp) rfl
                have e31 : a.tmps.getD 74 undef = .bool false := hR.dep ⟨31, .data⟩ (by simp) rfl
                refine plain_step rfl rfl ?_
                go_simp
                exact hK _ _ (rfl) (Below.refl _ _)
            · intro s w hS hb
              have e32 : s 75 = .bool false := hS 32 (by decide)
              simp only [over, Nat.zero_add, Nat.reduceAdd, Nat.reduceLeDiff, Nat.reduceLT, decide_true, decide_false, Bool.and_true, Bool.and_false, cond_true, cond_false]
              have HBJ := Lib.hid (HBJ.out.trans (hb.mono HBJ.out.size))
              clear hb hS hltB hltG
              rw [e32]
              clear e32
              go_wp2_with fail
              go_roundw
              case rel => exact ⟨0 + 1, by omega, by go_num, HBJ⟩
              case measure => simp [intOf]; omega
          · obtain ⟨g', off', hpe', -, -, h3⟩ := HCL.out m (by omega)
            obtain ⟨rfl, rfl⟩ : g' = g ∧ off' = off := by injection hpe' with e; injection e with e1 e2 _; exact ⟨e1.symm, e2.symm⟩
            obtain ⟨u, hu⟩ : ∃ u, l[m].2 = u := ⟨_, rfl⟩
            have hgap : u < sf := by rw [← hu, ← hsf]; exact HG.out m hjl
            rw [hu] at h3
            have hm9 : (m : Int) ≤ 100 := by omega
            have hm0 : (0 : Int) ≤ (m : Int) := by omega
            have HA3 : Hid (wr.cell? ⟨g', off' + m * 2 + 1, none⟩ = some (.int .i64 u)) := Lib.hid (by rw [cell_up HBJ.out hg]; exact h3)
            have HA1 : Hid (wr.cell? ⟨g', off' + (m + 1) * 2, none⟩ = some (.int .i64 sf)) := Lib.hid (by rw [cell_up HBJ.out hg]; exact h1)
            have HA2 : Hid (wr.cell? ⟨g', off' + (m + 1) * 2 + 1, none⟩ = some (.int .i64 st)) := Lib.hid (by rw [cell_up HBJ.out hg]; exact h2)
            have hltG := Nat.lt_of_lt_of_le hg HBJ.out.size; have hltB := Nat.lt_of_lt_of_le hlt0 HBJ.out.size
            obtain ⟨n, hn⟩ : ∃ n, l.length = n := ⟨_, rfl⟩
            have HNN := Lib.hid hn
            rw [hn] at c1 hjl' HCX ⊢
            have HD := Lib.hid c1
            clear hsf hst hes h1 h2 hn h3 hu hpe'
            go_wp2_with fail
            clear c1
            refine wp_region_vals (w := wr) (by kernel_rfl) (SN1 bd k m g' off' n c' sf st u) (fun t => (decide (43 ≤ t) && decide (t < 76))) (by kernel_rfl) (by kernel_rfl) (by kernel_rfl) (SN1_up bd k m g' off' n c' sf st u) ?_ ?_
            · intro i hi o listed a w hR K hK
              have ho := hR.at_
              have hi : i < 33 := hi
              have hii : i = 0 ∨ i = 1 ∨ i = 2 ∨ i = 3 ∨ i = 4 ∨ i = 5 ∨ i = 6 ∨ i = 7 ∨ i = 8 ∨ i = 9 ∨ i = 10 ∨ i = 11 ∨ i = 12 ∨ i = 13 ∨ i = 14 ∨ i = 15 ∨ i = 16 ∨ i = 17 ∨ i = 18 ∨ i = 19 ∨ i = 20 ∨ i = 21 ∨ i = 22 ∨ i = 23 ∨ i = 24 ∨ i = 25 ∨ i = 26 ∨ i = 27 ∨ i = 28 ∨ i = 29 ∨ i = 30 ∨ i = 31 ∨ i = 32 := by omega
              rcases hii with rfl | rfl | rfl | rfl | rfl | rfl | rfl | rfl | rfl | rfl | rfl | rfl | rfl | rfl | rfl | rfl | rfl | rfl | rfl | rfl | rfl | rfl | rfl | rfl | rfl | rfl | rfl | rfl | rfl | rfl | rfl | rfl | rfl
              · simp at ho
                subst ho
                have b8 : a.tmps.getD 8 undef = .slice (some ⟨bd, 0, none⟩) 4 4 := hR.base 8 (by kernel_rfl)
                refine plain_step rfl rfl ?_
                go_simp
                exact hK _ _ (rfl) (Below.refl _ _)
              · simp at ho
                subst ho
                have b9 : a.tmps.getD 9 undef = .int .i64 (k : Int) := hR.base 9 (by kernel_rfl)
                refine plain_step rfl rfl ?_
                go_simp
                exact hK _ _ (rfl) (Below.refl _ _)
              · simp at ho
                subst ho
                have e0 : a.tmps.getD 43 undef = .slice (some ⟨bd, 0, none⟩) 4 4 := hR.dep ⟨0, .data⟩ (by simp) rfl
                have e1 : a.tmps.getD 44 undef = .int .i64 (k : Int) := hR.dep ⟨1, .data⟩ (by simp) rfl
                refine plain_step rfl rfl ?_
                go_simp
                exact hK _ _ (rfl) (Below.refl _ _)
              · simp at ho
                subst ho
                have e2 : a.tmps.getD 45 undef = .pointer (some ⟨bd, k, none⟩) := hR.dep ⟨2, .data⟩ (by simp) rfl
                have c1 : w.cell? ⟨bd, k, none⟩ = some (.slice (some ⟨g', off', none⟩) n c') := by rw [cell_up hR.below hltB]; exact HD.out
                refine plain_step rfl rfl ?_
                go_simp
                exact hK _ _ (rfl) (Below.refl _ _)
              · simp at ho
                subst ho
                have b10 : a.tmps.getD 10 undef = .int .i64 (((m + 1 : Nat) : Int)) := hR.base 10 (by kernel_rfl)
                refine plain_step rfl rfl ?_
                go_simp
                exact hK _ _ (rfl) (Below.refl _ _)
              · simp at ho
                subst ho
                have e3 : a.tmps.getD 46 undef = .slice (some ⟨g', off', none⟩) n c' := hR.dep ⟨3, .data⟩ (by simp) rfl
                have e4 : a.tmps.getD 47 undef = .int .i64 (((m + 1 : Nat) : Int)) := hR.dep ⟨4, .data⟩ (by simp) rfl
                refine plain_step rfl rfl ?_
                go_simp
                exact hK _ _ (rfl) (Below.refl _ _)
              · simp at ho
                subst ho
                have e5 : a.tmps.getD 48 undef = .pointer (some ⟨g', off' + (m + 1) * 2, none⟩) := hR.dep ⟨5, .data⟩ (by simp) rfl
                have cA : w.cell? ⟨g', off' + (m + 1) * 2, none⟩ = some (.int .i64 sf) := by rw [cell_up hR.below hltG]; exact HA1.out
                have cB : w.cell? ⟨g', off' + (m + 1) * 2 + 1, none⟩ = some (.int .i64 st) := by rw [cell_up hR.below hltG]; exact HA2.out
                refine plain_step rfl rfl ?_
                go_simp
                exact hK _ _ (rfl) (Below.refl _ _)
              · simp at ho
                subst ho
                have e6 : a.tmps.getD 49 undef = .agg #[.int .i64 sf, .int .i64 st] := hR.dep ⟨6, .data⟩ (by simp) rfl
                refine plain_step rfl rfl ?_
                go_simp
                refine (Right_any sf st _).mono ?_
                rintro e w' ⟨rfl, hb⟩
                rw [HRT.out]
                exact hK _ _ (rfl) hb
              · simp at ho
                subst ho
                have e7 : a.tmps.getD 50 undef = .bool true := hR.dep ⟨7, .data⟩ (by simp) rfl
                refine plain_step rfl rfl ?_
                go_simp
                exact hK _ _ (rfl) (Below.refl _ _)
              · simp at ho
                subst ho
                have e8 : a.tmps.getD 51 undef = .bool false := hR.dep ⟨8, .data⟩ (by simp) rfl
                refine plain_step rfl rfl ?_
                go_simp
                exact hK _ _ (rfl) (Below.refl _ _)
              · simp at ho
                subst ho
                have e9 : a.tmps.getD 52 undef = .bool false := hR.dep ⟨9, .guard⟩ (by simp) rfl
                have b10 : a.tmps.getD 10 undef = .int .i64 (((m + 1 : Nat) : Int)) := hR.base 10 (by kernel_rfl)
                refine guard_step rfl rfl rfl (b := false) e9 ?_
                go_simp
                exact hK _ _ (rfl) (Below.refl _ _)
              · simp at ho
                subst ho
                have e10 : a.tmps.getD 53 undef = .int .i64 (((m + 1 : Nat) : Int)) := hR.dep ⟨10, .data⟩ (by simp) rfl
                have e9 : a.tmps.getD 52 undef = .bool false := hR.dep ⟨9, .guard⟩ (by simp) rfl
                refine guard_step rfl rfl rfl (b := false) e9 ?_
                go_simp
                exact hK _ _ (rfl) (Below.refl _ _)
              · simp at ho
                subst ho
                have e11 : a.tmps.getD 54 undef = .bool true := hR.dep ⟨11, .data⟩ (by simp) rfl
                have e9 : a.tmps.getD 52 undef = .bool false := hR.dep ⟨9, .guard⟩ (by simp) rfl
                refine guard_step rfl rfl rfl (b := false) e9 ?_
                go_simp
                exact hK _ _ (rfl) (Below.refl _ _)
              · simp at ho
                subst ho
                have e12 : a.tmps.getD 55 undef = .bool true := hR.dep ⟨12, .guard⟩ (by simp) rfl
                have b8 : a.tmps.getD 8 undef = .slice (some ⟨bd, 0, none⟩) 4 4 := hR.base 8 (by kernel_rfl)
                refine guard_step rfl rfl rfl (b := true) e12 ?_
                go_simp
                exact hK _ _ (rfl) (Below.refl _ _)
              · simp at ho
                subst ho
                have e12 : a.tmps.getD 55 undef = .bool true := hR.dep ⟨12, .guard⟩ (by simp) rfl
                have b9 : a.tmps.getD 9 undef = .int .i64 (k : Int) := hR.base 9 (by kernel_rfl)
                refine guard_step rfl rfl rfl (b := true) e12 ?_
                go_simp
                exact hK _ _ (rfl) (Below.refl _ _)
              · simp at ho
                subst ho
                have e13 : a.tmps.getD 56 undef = .slice (some ⟨bd, 0, none⟩) 4 4 := hR.dep ⟨13, .data⟩ (by simp) rfl
                have e14 : a.tmps.getD 57 undef = .int .i64 (k : Int) := hR.dep ⟨14, .data⟩ (by simp) rfl
                have e12 : a.tmps.getD 55 undef = .bool true := hR.dep ⟨12, .guard⟩ (by simp) rfl
                refine guard_step rfl rfl rfl (b := true) e12 ?_
                go_simp
                exact hK _ _ (rfl) (Below.refl _ _)
              · simp at ho
                subst ho
                have e15 : a.tmps.getD 58 undef = .pointer (some ⟨bd, k, none⟩) := hR.dep ⟨15, .data⟩ (by simp) rfl
                have e12 : a.tmps.getD 55 undef = .bool true := hR.dep ⟨12, .guard⟩ (by simp) rfl
                have c1 : w.cell? ⟨bd, k, none⟩ = some (.slice (some ⟨g', off', none⟩) n c') := by rw [cell_up hR.below hltB]; exact HD.out
                refine guard_step rfl rfl rfl (b := true) e12 ?_
                go_simp
                exact hK _ _ (rfl) (Below.refl _ _)
              · simp at ho
                subst ho
                have e12 : a.tmps.getD 55 undef = .bool true := hR.dep ⟨12, .guard⟩ (by simp) rfl
                have b10 : a.tmps.getD 10 undef = .int .i64 (((m + 1 : Nat) : Int)) := hR.base 10 (by kernel_rfl)
                refine guard_step rfl rfl rfl (b := true) e12 ?_
                go_simp
                exact hK _ _ (rfl) (Below.refl _ _)
              · simp at ho
                subst ho
                have e16 : a.tmps.getD 59 undef = .slice (some ⟨g', off', none⟩) n c' := hR.dep ⟨16, .data⟩ (by simp) rfl
                have e17 : a.tmps.getD 60 undef = .int .i64 (((m + 1 : Nat) : Int)) := hR.dep ⟨17, .data⟩ (by simp) rfl
                have e12 : a.tmps.getD 55 undef = .bool true := hR.dep ⟨12, .guard⟩ (by simp) rfl
                refine guard_step rfl rfl rfl (b := true) e12 ?_
                go_simp
                exact hK _ _ (rfl) (Below.refl _ _)
              · simp at ho
                subst ho
                have e18 : a.tmps.getD 61 undef = .pointer (some ⟨g', off' + (m + 1) * 2, none⟩) := hR.dep ⟨18, .data⟩ (by simp) rfl
                have e12 : a.tmps.getD 55 undef = .bool true := hR.dep ⟨12, .guard⟩ (by simp) rfl
                refine guard_step rfl rfl rfl (b := true) e12 ?_
                go_simp
                exact hK _ _ (rfl) (Below.refl _ _)
              · simp at ho
                subst ho
                have e19 : a.tmps.getD 62 undef = .pointer (some ⟨g', off' + (m + 1) * 2, none⟩) := hR.dep ⟨19, .data⟩ (by simp) rfl
                have e12 : a.tmps.getD 55 undef = .bool true := hR.dep ⟨12, .guard⟩ (by simp) rfl
                have cA : w.cell? ⟨g', off' + (m + 1) * 2, none⟩ = some (.int .i64 sf) := by rw [cell_up hR.below hltG]; exact HA1.out
                refine guard_step rfl rfl rfl (b := true) e12 ?_
                go_simp
                exact hK _ _ (rfl) (Below.refl _ _)
              · simp at ho
                subst ho
                have e12 : a.tmps.getD 55 undef = .bool true := hR.dep ⟨12, .guard⟩ (by simp) rfl
                have b8 : a.tmps.getD 8 undef = .slice (some ⟨bd, 0, none⟩) 4 4 := hR.base 8 (by kernel_rfl)
                refine guard_step rfl rfl rfl (b := true) e12 ?_
                go_simp
                exact hK _ _ (rfl) (Below.refl _ _)
              · simp at ho
                subst ho
                have e12 : a.tmps.getD 55 undef = .bool true := hR.dep ⟨12, .guard⟩ (by simp) rfl
                have b9 : a.tmps.getD 9 undef = .int .i64 (k : Int) := hR.base 9 (by kernel_rfl)
                refine guard_step rfl rfl rfl (b := true) e12 ?_
                go_simp
                exact hK _ _ (rfl) (Below.refl _ _)
              · simp at ho
                subst ho
                have e21 : a.tmps.getD 64 undef = .slice (some ⟨bd, 0, none⟩) 4 4 := hR.dep ⟨21, .data⟩ (by simp) rfl
                have e22 : a.tmps.getD 65 undef = .int .i64 (k : Int) := hR.dep ⟨22, .data⟩ (by simp) rfl
                have e12 : a.tmps.getD 55 undef = .bool true := hR.dep ⟨12, .guard⟩ (by simp) rfl
                refine guard_step rfl rfl rfl (b := true) e12 ?_
                go_simp
                exact hK _ _ (rfl) (Below.refl _ _)
              · simp at ho
                subst ho
                have e23 : a.tmps.getD 66 undef = .pointer (some ⟨bd, k, none⟩) := hR.dep ⟨23, .data⟩ (by simp) rfl
                have e12 : a.tmps.getD 55 undef = .bool true := hR.dep ⟨12, .guard⟩ (by simp) rfl
                have c1 : w.cell? ⟨bd, k, none⟩ = some (.slice (some ⟨g', off', none⟩) n c') := by rw [cell_up hR.below hltB]; exact HD.out
                refine guard_step rfl rfl rfl (b := true) e12 ?_
                go_simp
                exact hK _ _ (rfl) (Below.refl _ _)
              · simp at ho
                subst ho
                have e12 : a.tmps.getD 55 undef = .bool true := hR.dep ⟨12, .guard⟩ (by simp) rfl
                have b10 : a.tmps.getD 10 undef = .int .i64 (((m + 1 : Nat) : Int)) := hR.base 10 (by kernel_rfl)
                refine guard_step rfl rfl rfl (b := true) e12 ?_
                go_simp
                exact hK _ _ (rfl) (Below.refl _ _)
              · simp at ho
                subst ho
                have e25 : a.tmps.getD 68 undef = .int .i64 (((m + 1 : Nat) : Int)) := hR.dep ⟨25, .data⟩ (by simp) rfl
                have e12 : a.tmps.getD 55 undef = .bool true := hR.dep ⟨12, .guard⟩ (by simp) rfl
                have wm : IntKind.i64.wrap (m : Int) = (m : Int) := IntWalk.i64_in _ (by omega)
                refine guard_step rfl rfl rfl (b := true) e12 ?_
                go_simp
                exact hK _ _ (rfl) (Below.refl _ _)
              · simp at ho
                subst ho
                have e24 : a.tmps.getD 67 undef = .slice (some ⟨g', off', none⟩) n c' := hR.dep ⟨24, .data⟩ (by simp) rfl
                have e26 : a.tmps.getD 69 undef = .int .i64 (m : Int) := hR.dep ⟨26, .data⟩ (by simp) rfl
                have e12 : a.tmps.getD 55 undef = .bool true := hR.dep ⟨12, .guard⟩ (by simp) rfl
                have hmn : m < n := by omega
                refine guard_step rfl rfl rfl (b := true) e12 ?_
                go_simp
                exact hK _ _ (rfl) (Below.refl _ _)
              · simp at ho
                subst ho
                have e27 : a.tmps.getD 70 undef = .pointer (some ⟨g', off' + m * 2, none⟩) := hR.dep ⟨27, .data⟩ (by simp) rfl
                have e12 : a.tmps.getD 55 undef = .bool true := hR.dep ⟨12, .guard⟩ (by simp) rfl
                refine guard_step rfl rfl rfl (b := true) e12 ?_
                go_simp
                exact hK _ _ (rfl) (Below.refl _ _)
              · simp at ho
                subst ho
                have e28 : a.tmps.getD 71 undef = .pointer (some ⟨g', off' + m * 2 + 1, none⟩) := hR.dep ⟨28, .data⟩ (by simp) rfl
                have e12 : a.tmps.getD 55 undef = .bool true := hR.dep ⟨12, .guard⟩ (by simp) rfl
                have cC : w.cell? ⟨g', off' + m * 2 + 1, none⟩ = some (.int .i64 u) := by rw [cell_up hR.below hltG]; exact HA3.out
                refine guard_step rfl rfl rfl (b := true) e12 ?_
                go_simp
                exact hK _ _ (rfl) (Below.refl _ _)
              · simp at ho
                subst ho
                have e20 : a.tmps.getD 63 undef = .int .i64 sf := hR.dep ⟨20, .data⟩ (by simp) rfl
                have e29 : a.tmps.getD 72 undef = .int .i64 u := hR.dep ⟨29, .data⟩ (by simp) rfl
                have e12 : a.tmps.getD 55 undef = .bool true := hR.dep ⟨12, .guard⟩ (by simp) rfl
                have hle : ¬ sf ≤ u := by omega
                refine guard_step rfl rfl rfl (b := true) e12 ?_
                go_simp
                exact hK _ _ (rfl) (Below.refl _ _)
              · simp at ho
                subst ho
                have e12 : a.tmps.getD 55 undef = .bool true := hR.dep ⟨12, .data⟩ (by simp) rfl
                have e30 : a.tmps.getD 73 undef = .bool false := hR.dep ⟨30, .data⟩ (by simp) rfl
                have e9 : a.tmps.getD 52 undef = .bool false := hR.dep ⟨9, .guard⟩ (by simp) rfl
                refine guard_step rfl rfl rfl (b := false) e9 ?_
                go_simp
                exact hK _ _ (rfl) (Below.refl _ _)
              · simp at ho
                subst ho
                have e9 : a.tmps.getD 52 undef = .bool false := hR.dep ⟨9, .data⟩ (by simp) rfl
                have e31 : a.tmps.getD 74 undef = .bool false := hR.dep ⟨31, .data⟩ (by simp) rfl
                refine plain_step rfl rfl ?_
                go_simp
                exact hK _ _ (rfl) (Below.refl _ _)
            · intro s w hS hb
              have e32 : s 75 = .bool false := hS 32 (by decide)
              simp only [over, Nat.zero_add, Nat.reduceAdd, Nat.reduceLeDiff, Nat.reduceLT, decide_true, decide_false, Bool.and_true, Bool.and_false, cond_true, cond_false]
              have HBJ := Lib.hid (HBJ.out.trans (hb.mono HBJ.out.size))
              clear hb hS hltB hltG
              rw [e32]
              clear e32
              go_wp2_with fail
              go_roundw
              case rel => exact ⟨m + 1 + 1, by omega, by go_num, HBJ⟩
              case measure => simp [intOf]; omega
        · have hge : (l.length : Int) ≤ (j : Int) := by omega
          have hll' : l.length ≤ 10000 := by omega
          have HNS : Hid (norm l = l) := Lib.hid (norm_self HN.out)
          have HLW : Hid (Lst wr (.slice p' l.length c') l) := Lib.hid (HL.out.up HBJ.out)
          have hltB := Nat.lt_of_lt_of_le hlt0 HBJ.out.size
          go_wp2_with fail
          have HL := HLW
          obtain ⟨n, hn⟩ : ∃ n, l.length = n := ⟨_, rfl⟩
          rw [hn] at c1 HL ⊢
          have HD := Lib.hid c1
          clear hn c1
          refine wp_region_vals (w := wr) (by kernel_rfl) (SN3 bd k n p' c' l) (fun t => (decide (76 ≤ t) && decide (t < 87))) (by kernel_rfl) (by kernel_rfl) (by kernel_rfl) (SN3_up bd k n p' c' l) ?_ ?_
          · intro i hi o listed a w hR K hK
            have ho := hR.at_
            have hi : i < 11 := hi
            have hii : i = 0 ∨ i = 1 ∨ i = 2 ∨ i = 3 ∨ i = 4 ∨ i = 5 ∨ i = 6 ∨ i = 7 ∨ i = 8 ∨ i = 9 ∨ i = 10 := by omega
            rcases hii with rfl | rfl | rfl | rfl | rfl | rfl | rfl | rfl | rfl | rfl | rfl
            · simp at ho
              subst ho
              have b8 : a.tmps.getD 8 undef = .slice (some ⟨bd, 0, none⟩) 4 4 := hR.base 8 (by kernel_rfl)
              refine plain_step rfl rfl ?_
              go_simp
              exact hK _ _ (rfl) (Below.refl _ _)
            · simp at ho
              subst ho
              have b9 : a.tmps.getD 9 undef = .int .i64 (k : Int) := hR.base 9 (by kernel_rfl)
              refine plain_step rfl rfl ?_
              go_simp
              exact hK _ _ (rfl) (Below.refl _ _)
            · simp at ho
              subst ho
              have e0 : a.tmps.getD 76 undef = .slice (some ⟨bd, 0, none⟩) 4 4 := hR.dep ⟨0, .data⟩ (by simp) rfl
              have e1 : a.tmps.getD 77 undef = .int .i64 (k : Int) := hR.dep ⟨1, .data⟩ (by simp) rfl
              refine plain_step rfl rfl ?_
              go_simp
              exact hK _ _ (rfl) (Below.refl _ _)
            · simp at ho
              subst ho
              have e2 : a.tmps.getD 78 undef = .pointer (some ⟨bd, k, none⟩) := hR.dep ⟨2, .data⟩ (by simp) rfl
              have c1 : w.cell? ⟨bd, k, none⟩ = some (.slice p' n c') := by rw [cell_up hR.below hltB]; exact HD.out
              refine plain_step rfl rfl ?_
              go_simp
              exact hK _ _ (rfl) (Below.refl _ _)
            · simp at ho
              subst ho
              have e3 : a.tmps.getD 79 undef = .slice p' n c' := hR.dep ⟨3, .data⟩ (by simp) rfl
              refine plain_step rfl rfl ?_
              go_simp
              refine (Norm_any _ l _ hll' (HL.out.up hR.below)).mono ?_
              rintro e w' ⟨v, rfl, hl, hb⟩
              exact hK _ _ (HNS.out ▸ hl) hb
            · simp at ho
              subst ho
              have b8 : a.tmps.getD 8 undef = .slice (some ⟨bd, 0, none⟩) 4 4 := hR.base 8 (by kernel_rfl)
              refine plain_step rfl rfl ?_
              go_simp
              exact hK _ _ (rfl) (Below.refl _ _)
            · simp at ho
              subst ho
              have b9 : a.tmps.getD 9 undef = .int .i64 (k : Int) := hR.base 9 (by kernel_rfl)
              refine plain_step rfl rfl ?_
              go_simp
              exact hK _ _ (rfl) (Below.refl _ _)
            · simp at ho
              subst ho
              have e5 : a.tmps.getD 81 undef = .slice (some ⟨bd, 0, none⟩) 4 4 := hR.dep ⟨5, .data⟩ (by simp) rfl
              have e6 : a.tmps.getD 82 undef = .int .i64 (k : Int) := hR.dep ⟨6, .data⟩ (by simp) rfl
              refine plain_step rfl rfl ?_
              go_simp
              exact hK _ _ (rfl) (Below.refl _ _)
            · simp at ho
              subst ho
              have e7 : a.tmps.getD 83 undef = .pointer (some ⟨bd, k, none⟩) := hR.dep ⟨7, .data⟩ (by simp) rfl
              have c1 : w.cell? ⟨bd, k, none⟩ = some (.slice p' n c') := by rw [cell_up hR.below hltB]; exact HD.out
              refine plain_step rfl rfl ?_
              go_simp
              exact hK _ _ (rfl) (Below.refl _ _)
            · simp at ho
              subst ho
              have e4 := hR.dep ⟨4, .data⟩ (by simp) rfl
              have e8 : a.tmps.getD 84 undef = .slice p' n c' := hR.dep ⟨8, .data⟩ (by simp) rfl
              have hl : Lst w (a.tmps.getD 80 undef) l := e4
              obtain ⟨vv, hvv⟩ : ∃ v, a.tmps.getD 80 undef = v := ⟨_, rfl⟩
              rw [hvv] at hl
              clear e4
              refine plain_step rfl rfl ?_
              go_simp
              refine (Same_any vv _ l l _ hl (HL.out.up hR.below)).mono ?_
              rintro e w' ⟨rfl, hb⟩
              rw [show sameB l l = true by simp [sameB]]
              exact hK _ _ (rfl) hb
            · simp at ho
              subst ho
              have e9 : a.tmps.getD 85 undef = .bool true := hR.dep ⟨9, .data⟩ (by simp) rfl
              refine plain_step rfl rfl ?_
              go_simp
              exact hK _ _ (rfl) (Below.refl _ _)
          · intro s w hS hb
            have e10 : s 86 = .bool false := hS 10 (by decide)
            simp only [over, Nat.zero_add, Nat.reduceAdd, Nat.reduceLeDiff, Nat.reduceLT, decide_true, decide_false, Bool.and_true, Bool.and_false, cond_true, cond_false]
            have HBJ := Lib.hid (HBJ.out.trans (hb.mono HBJ.out.size))
            clear hb hS hltB
            rw [e10]
            clear e10
            go_wp2_with fail
            go_roundw
            case rel => exact ⟨k + 1, by omega, by go_num, HBJ⟩
            case measure => simp [intOf]; omega
    · have hge : (4 : Int) ≤ (k : Int) := by omega
      have HB := Lib.hid (HB.out.trans (HBW.out.mono HB.out.size))
      go_wp2_with fail
      go_ret
      exact ⟨rfl, HB.out⟩

/-! ### THE ROW's STEP -/
set_option maxRecDepth 100000 in
theorem lifted (os : Os) (started : os.Started) (H : Type) (enc : TypeId × Value → H) :
    ReturnsInHanded {} Try.checked os 6 .any (Rows.spanNormalSpec.pre6 enc Try.prog Try.f6 Rows.spanNormalRow.domain false) (Rows.spanNormalSpec.post enc Try.prog Try.f6 false true false false) := by
  refine returnsInHanded_of_change (C := Try.checked) own started (by kernel_rfl) Try.func6
    (ChangeSpec.witness6 (enc := enc) (C := Try.checked) false ⟨#[], #[.slice none 0 0, .slice none 0 0], []⟩ 8 (by kernel_rfl) (by kernel_rfl) (by kernel_rfl) (by kernel_rfl)) ?_
  intro W base args ds gs before hval0 hW hcnd _
  have hval : ∀ (j : Nat) t v, Try.f6.params[j]? = some t → args[j]? = some v → Value.okWide Try.prog W .any base t v := hval0
  have hW' := hW
  obtain ⟨p, q, hA0, hV, rfl, hfz, hnd⟩ := hW
  have hA : DataW.TrodAll enc Try.prog W 0 (fun _ => true) true Try.f6.params.toList args.toList ds p := hA0
  rw [Try.params6] at hA hval
  obtain ⟨v0, vs0, d0, ds0, p0, q0, hargs, rfl, rfl, h0, r0⟩ := trodAll_cons hA
  obtain ⟨v1, vs1, d1, ds1, p1, q1, rfl, rfl, rfl, h1, r1⟩ := trodAll_cons r0
  obtain ⟨rfl, rfl, rfl⟩ := trodAll_nil r1
  obtain rfl : args = #[v0, v1] := by cases args; simp_all
  obtain ⟨rfl, rfl⟩ := trodVars_none hV
  have a0 : ArgP W v0 := arg_arrays Try.underlying22 Try.underlying30 Try.underlying3 (by kernel_rfl) (by kernel_rfl) (hval 0 22 v0 rfl rfl) h0
  have lt0 : ∀ x ∈ p0, x.block < W.heap.size := fun x hx => hW'.lt x (by simp [hx])
  have a1 : ArgP W v1 := arg_arrays Try.underlying22 Try.underlying30 Try.underlying3 (by kernel_rfl) (by kernel_rfl) (hval 1 22 v1 rfl rfl) h1
  have lt1 : ∀ x ∈ p1, x.block < W.heap.size := fun x hx => hW'.lt x (by simp [hx])
  clear hA0 hval0
  simp only [List.append_nil] at hW'
  refine (walk v0 v1 W a0 a1).mono fun e W' ⟨he, hb⟩ => ?_
  subst he
  exact ⟨_, rfl, post_of_below (pv := []) hW' (fun _ _ _ => (trodAll_cons_mk (shut_bool Try.underlying4 _) trodAll_mk0)) (fun sp hsp => (trodAll_cons_mk (WideElems.Trod_stays (by kernel_rfl) (by kernel_rfl) (of_decide_eq_true (by kernel_rfl)) h0 (fun x hx => hb.same (lt0 x hx)) (fun x hx => hsp x (by simp [hx]))) (trodAll_cons_mk (WideElems.Trod_stays (by kernel_rfl) (by kernel_rfl) (of_decide_eq_true (by kernel_rfl)) h1 (fun x hx => hb.same (lt1 x hx)) (fun x hx => hsp x (by simp [hx]))) trodAll_mk0))) (fun _ _ => rfl) (by simp)
    hb (ok_one (by kernel_rfl) rfl (okWide_bool_mk Try.underlying4 _))⟩

theorem over : Rows.spanNormalRow.holds Try.pinned (OpenSpec.ofChange Rows.spanNormalSpec) :=
  OpenClaim.holds_of_wide 6 Try.f6 rfl rfl rfl rfl rfl rfl rfl ⟨rfl, rfl, rfl, rfl, rfl⟩ rfl rfl rfl rfl rfl (by kernel_rfl) Try.func6 (by kernel_rfl)
    (of_decide_eq_true (by kernel_rfl)) (by unfold Func.isWrapper; first | (rw [if_pos (by decide +kernel)]; kernel_rfl) | (rw [if_neg (by decide +kernel)]; exact ⟨rfl, rfl⟩))
    (fun os started H enc _ => lifted os started H enc)

theorem proved : Rows.SpanNormalSaid :=
  over
#print axioms proved
end Go.Proofs.Ytodkppeikpaclaa.spanNormal
