/- 'tithinglaw05.SpanDays' returns true at every input: the walk, the row. -/
import Derived.Test.YtodkppeikpaclaaSpnS
import Derived.Test.YtodkppeikpaclaaSpnR
import Derived.Test.YtodkppeikpaclaaRgn
import Derived.Test.YtodkppeikpaclaaSpnQ
namespace Go.Proofs.Ytodkppeikpaclaa.spanDays
open Go.ChangeShapes Go.Shelf Go.WideShapes Go.ChangeAt Go.RowKit
open Spn Go.Sort
set_option linter.unusedVariables false

def ED (bd k : Nat) (va vb : Value) (la lb : List Sp) (x : Int) (p q : Bool) : Nat → Value
  | 0 => va
  | 2 => .slice (some ⟨bd, 0, none⟩) 3 3
  | 3 => .int .i64 (k : Int)
  | 4 => .pointer (some ⟨bd, k, none⟩)
  | 5 => .int .i64 x
  | 6 => .bool p
  | 7 => .bool p
  | 8 => .bool false
  | 9 => .bool false
  | 10 => va
  | 11 => vb
  | 13 => .slice (some ⟨bd, 0, none⟩) 3 3
  | 14 => .int .i64 (k : Int)
  | 15 => .pointer (some ⟨bd, k, none⟩)
  | 16 => .int .i64 x
  | 17 => .bool (p || q)
  | 18 => .bool p
  | 19 => .bool p
  | 20 => (if p = true then undef else .bool q)
  | 21 => .bool (p || q)
  | 22 => .bool false
  | 23 => .bool false
  | 24 => .bool false
  | 25 => va
  | 26 => vb
  | 28 => .slice (some ⟨bd, 0, none⟩) 3 3
  | 29 => .int .i64 (k : Int)
  | 30 => .pointer (some ⟨bd, k, none⟩)
  | 31 => .int .i64 x
  | 32 => .bool (p && q)
  | 33 => .bool p
  | 34 => .bool p
  | 35 => (if p = true then .bool q else undef)
  | 36 => .bool (p && q)
  | 37 => .bool false
  | 38 => .bool false
  | 39 => .bool false
  | 40 => va
  | 41 => vb
  | 43 => .slice (some ⟨bd, 0, none⟩) 3 3
  | 44 => .int .i64 (k : Int)
  | 45 => .pointer (some ⟨bd, k, none⟩)
  | 46 => .int .i64 x
  | 47 => .bool (p && !q)
  | 48 => .bool p
  | 49 => .bool p
  | 50 => (if p = true then .bool q else undef)
  | 51 => (if p = true then .bool (!q) else undef)
  | 52 => .bool (p && !q)
  | 53 => .bool false
  | 54 => .bool false
  | _ => undef
def SD (bd k : Nat) (va vb : Value) (la lb : List Sp) (x : Int) (p q : Bool) (j : Nat) (v : Value) (w : World) : Prop :=
  match j with
  | 1 => Lst w v (norm la)
  | 12 => Lst w v (comb orF la lb)
  | 27 => Lst w v (comb andF la lb)
  | 42 => Lst w v (comb lessF la lb)
  | j => v = ED bd k va vb la lb x p q j
theorem SD_up (bd k : Nat) (va vb : Value) (la lb : List Sp) (x : Int) (p q : Bool) (j : Nat) (v : Value) (w w' : World) (hb : Below w.heap.size w w') (h : SD bd k va vb la lb x p q j v w) : SD bd k va vb la lb x p q j v w' := by
  unfold SD at h ⊢
  split at h
  · exact h.up hb
  · exact h.up hb
  · exact h.up hb
  · exact h.up hb
  · exact h
set_option maxHeartbeats 16000000 in
set_option maxRecDepth 100000 in
theorem walk (xv yv : Value) (f : Int) (w : World) (ha : ArgP w xv) (hb0 : ArgP w yv) (hf : inI f) : Calls Try.prog 5 #[xv, yv, .int .i64 f] w fun e w' => e = .returned (.bool true) ∧ Below w.heap.size w w' := by
  have l0 := hf.1; have l1 := hf.2
  have HA := Lib.hid ha; have HC := Lib.hid hb0
  clear ha hb0
  have HB := Lib.hid (Below.refl w.heap.size w)
  go_enter Try.func5, Try.ntmps5
  go_wp2_with fail
  refine (sanity_any _).mono ?_
  rintro e w1 ⟨rfl, hb⟩
  have HB := Lib.hid (HB.out.trans (hb.mono HB.out.size))
  have HA := Lib.hid (HA.out.up hb)
  have HC := Lib.hid (HC.out.up hb)
  clear hb
  go_wp2_with fail
  refine (Made_any _ _ HA.out).mono ?_
  rintro e w2 ⟨va, la, rfl, hl, hna8, hm, hb⟩
  have HB := Lib.hid (HB.out.trans (hb.mono HB.out.size))
  have HA := Lib.hid (HA.out.up hb)
  have HC := Lib.hid (HC.out.up hb)
  have HX := Lib.hid hl; have HMA := Lib.hid hm
  have hna : la.length ≤ 10000 := by omega
  clear hl hm
  clear hb
  go_wp2_with fail
  refine (Made_any _ _ HC.out).mono ?_
  rintro e w3 ⟨vb, lb, rfl, hl, hnb8, hm, hb⟩
  have HB := Lib.hid (HB.out.trans (hb.mono HB.out.size))
  have HC := Lib.hid (HC.out.up hb)
  have HX := Lib.hid (HX.out.up hb)
  have HY := Lib.hid hl; have HMB := Lib.hid hm
  have hnb : lb.length ≤ 10000 := by omega
  clear hl hm
  clear hb
  clear HA HC
  obtain ⟨d1, hd1⟩ : ∃ y, f % 75 = y := ⟨_, rfl⟩
  obtain ⟨d2, hd2⟩ : ∃ y, f % 20 = y := ⟨_, rfl⟩
  have p0 : 0 ≤ d1 := by omega
  have p1 : d1 < 75 := by omega
  have p2 : 0 ≤ d2 := by omega
  have p3 : d2 < 20 := by omega
  have H1 := Lib.hid hd1; have H2 := Lib.hid hd2
  clear hd1 hd2 hf
  go_wp2_with fail
  refine (rMod_any f 75 (by decide) (by decide) l0 l1 _).mono ?_
  rintro e w9 ⟨rfl, rfl⟩
  rw [H1.out]
  go_wp2_with fail
  refine (rMod_any f 20 (by decide) (by decide) l0 l1 _).mono ?_
  rintro e w9 ⟨rfl, rfl⟩
  rw [H2.out]
  have HX := Lib.hid (HX.out.up ((Below.refl _ w3).alloc (Nat.le_refl _) (.cells #[.int .i64 f, .int .i64 d1, .int .i64 (3652058 - d2)] 3)))
  have HY := Lib.hid (HY.out.up ((Below.refl _ w3).alloc (Nat.le_refl _) (.cells #[.int .i64 f, .int .i64 d1, .int .i64 (3652058 - d2)] 3)))
  have HB := Lib.hid (HB.out.alloc HB.out.size (.cells #[.int .i64 f, .int .i64 d1, .int .i64 (3652058 - d2)] 3))
  have KD := Lib.hid (heap_alloc_new w3 (.cells #[.int .i64 f, .int .i64 d1, .int .i64 (3652058 - d2)] 3))
  have hlt0 : w3.heap.size < (w3.alloc (.cells #[.int .i64 f, .int .i64 d1, .int .i64 (3652058 - d2)] 3)).heap.size := by simp
  go_wp2_with fail
  obtain ⟨V, hV⟩ : ∃ V, w3.alloc (.cells #[.int .i64 f, .int .i64 d1, .int .i64 (3652058 - d2)] 3) = V := ⟨_, rfl⟩
  rw [hV] at HX HY HB KD hlt0 ⊢
  obtain ⟨bd, hbd⟩ : ∃ b, w3.heap.size = b := ⟨_, rfl⟩
  rw [hbd] at KD hlt0 ⊢
  clear hV hbd
  go_loopw [11] (fun i wr => ∃ k : Nat, k ≤ 3 ∧ i = .int .i64 (k : Int) ∧ Hid (Below V.heap.size V wr)) (fun i _ => 3 - (intOf i).toNat)
  case atStart => exact ⟨0, by omega, rfl, Lib.hid (Below.refl _ _)⟩
  case round =>
    obtain ⟨k, hk, rfl, HBW⟩ := hrel
    by_cases hlt : k < 3
    · have hlt' : (k : Int) < 3 := by omega
      have hcx : ∃ x : Int, V.cell? ⟨bd, k, none⟩ = some (.int .i64 x) := by
        rw [Lib.cell_of_heap KD.out]
        rcases (by omega : k = 0 ∨ k = 1 ∨ k = 2) with rfl | rfl | rfl
        · exact ⟨_, rfl⟩
        · exact ⟨_, rfl⟩
        · exact ⟨_, rfl⟩
      obtain ⟨x, hx⟩ := hcx
      have HCX := Lib.hid hx
      have c1 : wr.cell? ⟨bd, k, none⟩ = some (.int .i64 x) := by rw [cell_up HBW.out hlt0]; exact hx
      have HX := Lib.hid (HX.out.up HBW.out); have HY := Lib.hid (HY.out.up HBW.out)
      obtain ⟨p, hp⟩ : ∃ p, hasB la x = p := ⟨_, rfl⟩
      obtain ⟨q, hq⟩ : ∃ q, hasB lb x = q := ⟨_, rfl⟩
      have HP := Lib.hid hp; have HQ := Lib.hid hq
      clear hx hp hq
      go_wp2_with fail
      refine (Has_any x _ la _ HX.out).mono ?_
      rintro e wp ⟨rfl, hb⟩
      rw [HP.out]
      have HX := Lib.hid (HX.out.up hb); have HY := Lib.hid (HY.out.up hb); have HBW := Lib.hid (HBW.out.trans (hb.mono HBW.out.size))
      replace c1 : wp.cell? ⟨bd, k, none⟩ = some (.int .i64 x) := by rw [cell_up HBW.out hlt0]; exact HCX.out
      clear hb
      go_wp2_with fail
      refine (Has_any x _ lb _ HY.out).mono ?_
      rintro e wz ⟨rfl, hb⟩
      rw [HQ.out]
      have HX := Lib.hid (HX.out.up hb); have HY := Lib.hid (HY.out.up hb); have HBW := Lib.hid (HBW.out.trans (hb.mono HBW.out.size))
      clear hb c1
      go_wp2_with fail
      have hltB : bd < wz.heap.size := Nat.lt_of_lt_of_le hlt0 HBW.out.size
      have HCX : Hid (wz.cell? ⟨bd, k, none⟩ = some (.int .i64 x)) := Lib.hid (by rw [cell_up HBW.out hlt0]; exact HCX.out)
      refine wp_region_vals (w := wz) (by kernel_rfl) (SD bd k va vb la lb x p q) (fun t => (decide (44 ≤ t) && decide (t < 99))) (by kernel_rfl) (by kernel_rfl) (by kernel_rfl) (SD_up bd k va vb la lb x p q) ?_ ?_
      · intro i hi o listed a w hR K hK
        have ho := hR.at_
        have hi : i < 55 := hi
        have hii : i = 0 ∨ i = 1 ∨ i = 2 ∨ i = 3 ∨ i = 4 ∨ i = 5 ∨ i = 6 ∨ i = 7 ∨ i = 8 ∨ i = 9 ∨ i = 10 ∨ i = 11 ∨ i = 12 ∨ i = 13 ∨ i = 14 ∨ i = 15 ∨ i = 16 ∨ i = 17 ∨ i = 18 ∨ i = 19 ∨ i = 20 ∨ i = 21 ∨ i = 22 ∨ i = 23 ∨ i = 24 ∨ i = 25 ∨ i = 26 ∨ i = 27 ∨ i = 28 ∨ i = 29 ∨ i = 30 ∨ i = 31 ∨ i = 32 ∨ i = 33 ∨ i = 34 ∨ i = 35 ∨ i = 36 ∨ i = 37 ∨ i = 38 ∨ i = 39 ∨ i = 40 ∨ i = 41 ∨ i = 42 ∨ i = 43 ∨ i = 44 ∨ i = 45 ∨ i = 46 ∨ i = 47 ∨ i = 48 ∨ i = 49 ∨ i = 50 ∨ i = 51 ∨ i = 52 ∨ i = 53 ∨ i = 54 := by omega
        rcases hii with rfl | rfl | rfl | rfl | rfl | rfl | rfl | rfl | rfl | rfl | rfl | rfl | rfl | rfl | rfl | rfl | rfl | rfl | rfl | rfl | rfl | rfl | rfl | rfl | rfl | rfl | rfl | rfl | rfl | rfl | rfl | rfl | rfl | rfl | rfl | rfl | rfl | rfl | rfl | rfl | rfl | rfl | rfl | rfl | rfl | rfl | rfl | rfl | rfl | rfl | rfl | rfl | rfl | rfl | rfl
        · simp at ho
          subst ho
          have b8 : a.tmps.getD 8 undef = va := hR.base 8 (by kernel_rfl)
          refine plain_step rfl rfl ?_
          go_simp
          exact hK _ _ (rfl) (Below.refl _ _)
        · simp at ho
          subst ho
          have e0 : a.tmps.getD 44 undef = va := hR.dep ⟨0, .data⟩ (by simp) rfl
          refine plain_step rfl rfl ?_
          go_simp
          refine (Norm_any va la _ hna (HX.out.up hR.below)).mono ?_
          rintro e w' ⟨v, rfl, hl, hb⟩
          exact hK _ _ (hl) hb
        · simp at ho
          subst ho
          have b10 : a.tmps.getD 10 undef = .slice (some ⟨bd, 0, none⟩) 3 3 := hR.base 10 (by kernel_rfl)
          refine plain_step rfl rfl ?_
          go_simp
          exact hK _ _ (rfl) (Below.refl _ _)
        · simp at ho
          subst ho
          have b11 : a.tmps.getD 11 undef = .int .i64 (k : Int) := hR.base 11 (by kernel_rfl)
          refine plain_step rfl rfl ?_
          go_simp
          exact hK _ _ (rfl) (Below.refl _ _)
        · simp at ho
          subst ho
          have e2 : a.tmps.getD 46 undef = .slice (some ⟨bd, 0, none⟩) 3 3 := hR.dep ⟨2, .data⟩ (by simp) rfl
          have e3 : a.tmps.getD 47 undef = .int .i64 (k : Int) := hR.dep ⟨3, .data⟩ (by simp) rfl
          refine plain_step rfl rfl ?_
          go_simp
          exact hK _ _ (rfl) (Below.refl _ _)
        · simp at ho
          subst ho
          have e4 : a.tmps.getD 48 undef = .pointer (some ⟨bd, k, none⟩) := hR.dep ⟨4, .data⟩ (by simp) rfl
          have c1 : w.cell? ⟨bd, k, none⟩ = some (.int .i64 x) := by rw [cell_up hR.below hltB]; exact HCX.out
          refine plain_step rfl rfl ?_
          go_simp
          exact hK _ _ (rfl) (Below.refl _ _)
        · simp at ho
          subst ho
          have e1 := hR.dep ⟨1, .data⟩ (by simp) rfl
          have e5 : a.tmps.getD 49 undef = .int .i64 x := hR.dep ⟨5, .data⟩ (by simp) rfl
          have hl : Lst w (a.tmps.getD 45 undef) (norm la) := e1
          obtain ⟨vv, hvv⟩ : ∃ v, a.tmps.getD 45 undef = v := ⟨_, rfl⟩
          rw [hvv] at hl
          clear e1
          refine plain_step rfl rfl ?_
          go_simp
          refine (Has_any x _ (norm la) _ hl).mono ?_
          rintro e w' ⟨rfl, hb⟩
          rw [hasB_norm, HP.out]
          exact hK _ _ (rfl) hb
        · simp at ho
          subst ho
          have b12 : a.tmps.getD 12 undef = .bool p := hR.base 12 (by kernel_rfl)
          refine plain_step rfl rfl ?_
          go_simp
          exact hK _ _ (rfl) (Below.refl _ _)
        · simp at ho
          subst ho
          have e6 : a.tmps.getD 50 undef = .bool p := hR.dep ⟨6, .data⟩ (by simp) rfl
          have e7 : a.tmps.getD 51 undef = .bool p := hR.dep ⟨7, .data⟩ (by simp) rfl
          refine plain_step rfl rfl ?_
          go_simp
          exact hK _ _ (rfl) (Below.refl _ _)
        · simp at ho
          subst ho
          have e8 : a.tmps.getD 52 undef = .bool false := hR.dep ⟨8, .data⟩ (by simp) rfl
          refine plain_step rfl rfl ?_
          go_simp
          exact hK _ _ (rfl) (Below.refl _ _)
        · simp at ho
          subst ho
          have e9 : a.tmps.getD 53 undef = .bool false := hR.dep ⟨9, .guard⟩ (by simp) rfl
          have b8 : a.tmps.getD 8 undef = va := hR.base 8 (by kernel_rfl)
          refine guard_step rfl rfl rfl (b := false) e9 ?_
          go_simp
          exact hK _ _ (rfl) (Below.refl _ _)
        · simp at ho
          subst ho
          have e9 : a.tmps.getD 53 undef = .bool false := hR.dep ⟨9, .guard⟩ (by simp) rfl
          have b9 : a.tmps.getD 9 undef = vb := hR.base 9 (by kernel_rfl)
          refine guard_step rfl rfl rfl (b := false) e9 ?_
          go_simp
          exact hK _ _ (rfl) (Below.refl _ _)
        · simp at ho
          subst ho
          have e10 : a.tmps.getD 54 undef = va := hR.dep ⟨10, .data⟩ (by simp) rfl
          have e11 : a.tmps.getD 55 undef = vb := hR.dep ⟨11, .data⟩ (by simp) rfl
          have e9 : a.tmps.getD 53 undef = .bool false := hR.dep ⟨9, .guard⟩ (by simp) rfl
          refine guard_step rfl rfl rfl (b := false) e9 ?_
          go_simp
          refine (Union_any va vb la lb _ hna hnb (HX.out.up hR.below) (HY.out.up hR.below)).mono ?_
          rintro e w' ⟨v, rfl, hl, hb⟩
          exact hK _ _ (hl) hb
        · simp at ho
          subst ho
          have e9 : a.tmps.getD 53 undef = .bool false := hR.dep ⟨9, .guard⟩ (by simp) rfl
          have b10 : a.tmps.getD 10 undef = .slice (some ⟨bd, 0, none⟩) 3 3 := hR.base 10 (by kernel_rfl)
          refine guard_step rfl rfl rfl (b := false) e9 ?_
          go_simp
          exact hK _ _ (rfl) (Below.refl _ _)
        · simp at ho
          subst ho
          have e9 : a.tmps.getD 53 undef = .bool false := hR.dep ⟨9, .guard⟩ (by simp) rfl
          have b11 : a.tmps.getD 11 undef = .int .i64 (k : Int) := hR.base 11 (by kernel_rfl)
          refine guard_step rfl rfl rfl (b := false) e9 ?_
          go_simp
          exact hK _ _ (rfl) (Below.refl _ _)
        · simp at ho
          subst ho
          have e13 : a.tmps.getD 57 undef = .slice (some ⟨bd, 0, none⟩) 3 3 := hR.dep ⟨13, .data⟩ (by simp) rfl
          have e14 : a.tmps.getD 58 undef = .int .i64 (k : Int) := hR.dep ⟨14, .data⟩ (by simp) rfl
          have e9 : a.tmps.getD 53 undef = .bool false := hR.dep ⟨9, .guard⟩ (by simp) rfl
          refine guard_step rfl rfl rfl (b := false) e9 ?_
          go_simp
          exact hK _ _ (rfl) (Below.refl _ _)
        · simp at ho
          subst ho
          have e15 : a.tmps.getD 59 undef = .pointer (some ⟨bd, k, none⟩) := hR.dep ⟨15, .data⟩ (by simp) rfl
          have e9 : a.tmps.getD 53 undef = .bool false := hR.dep ⟨9, .guard⟩ (by simp) rfl
          have c1 : w.cell? ⟨bd, k, none⟩ = some (.int .i64 x) := by rw [cell_up hR.below hltB]; exact HCX.out
          refine guard_step rfl rfl rfl (b := false) e9 ?_
          go_simp
          exact hK _ _ (rfl) (Below.refl _ _)
        · simp at ho
          subst ho
          have e12 := hR.dep ⟨12, .data⟩ (by simp) rfl
          have e16 : a.tmps.getD 60 undef = .int .i64 x := hR.dep ⟨16, .data⟩ (by simp) rfl
          have e9 : a.tmps.getD 53 undef = .bool false := hR.dep ⟨9, .guard⟩ (by simp) rfl
          have hl : Lst w (a.tmps.getD 56 undef) (comb orF la lb) := e12
          obtain ⟨vv, hvv⟩ : ∃ v, a.tmps.getD 56 undef = v := ⟨_, rfl⟩
          rw [hvv] at hl
          clear e12
          refine guard_step rfl rfl rfl (b := false) e9 ?_
          go_simp
          refine (Has_any x _ (comb orF la lb) _ hl).mono ?_
          rintro e w' ⟨rfl, hb⟩
          rw [hasB_comb rfl, HP.out, HQ.out, show orF p q = (p || q) from rfl]
          exact hK _ _ (rfl) hb
        · simp at ho
          subst ho
          have e9 : a.tmps.getD 53 undef = .bool false := hR.dep ⟨9, .guard⟩ (by simp) rfl
          have b12 : a.tmps.getD 12 undef = .bool p := hR.base 12 (by kernel_rfl)
          refine guard_step rfl rfl rfl (b := false) e9 ?_
          go_simp
          exact hK _ _ (rfl) (Below.refl _ _)
        · simp at ho
          subst ho
          have e18 : a.tmps.getD 62 undef = .bool p := hR.dep ⟨18, .data⟩ (by simp) rfl
          have e9 : a.tmps.getD 53 undef = .bool false := hR.dep ⟨9, .guard⟩ (by simp) rfl
          refine guard_step rfl rfl rfl (b := false) e9 ?_
          go_simp
          exact hK _ _ (rfl) (Below.refl _ _)
        · simp at ho
          subst ho
          have e19 : a.tmps.getD 63 undef = .bool p := hR.dep ⟨19, .guard⟩ (by simp) rfl
          have b13 : a.tmps.getD 13 undef = .bool q := hR.base 13 (by kernel_rfl)
          cases p
          · refine guard_step rfl rfl rfl (b := false) e19 ?_
            go_simp
            exact hK _ _ (rfl) (Below.refl _ _)
          · refine guard_skip rfl rfl rfl (b := false) e19 (by decide) ?_
            exact hK _ _ rfl (Below.refl _ _)
        · simp at ho
          subst ho
          have e19 : a.tmps.getD 63 undef = .bool p := hR.dep ⟨19, .data⟩ (by simp) rfl
          have e20 : a.tmps.getD 64 undef = (if p = true then undef else .bool q) := hR.dep ⟨20, .data⟩ (by simp) rfl
          have e9 : a.tmps.getD 53 undef = .bool false := hR.dep ⟨9, .guard⟩ (by simp) rfl
          cases p
          · refine guard_step rfl rfl rfl (b := false) e9 ?_
            go_simp
            exact hK _ _ (rfl) (Below.refl _ _)
          · refine guard_step rfl rfl rfl (b := false) e9 ?_
            go_simp
            exact hK _ _ (rfl) (Below.refl _ _)
        · simp at ho
          subst ho
          have e17 : a.tmps.getD 61 undef = .bool (p || q) := hR.dep ⟨17, .data⟩ (by simp) rfl
          have e21 : a.tmps.getD 65 undef = .bool (p || q) := hR.dep ⟨21, .data⟩ (by simp) rfl
          have e9 : a.tmps.getD 53 undef = .bool false := hR.dep ⟨9, .guard⟩ (by simp) rfl
          refine guard_step rfl rfl rfl (b := false) e9 ?_
          go_simp
          exact hK _ _ (rfl) (Below.refl _ _)
        · simp at ho
          subst ho
          have e9 : a.tmps.getD 53 undef = .bool false := hR.dep ⟨9, .data⟩ (by simp) rfl
          have e22 : a.tmps.getD 66 undef = .bool false := hR.dep ⟨22, .data⟩ (by simp) rfl
          refine plain_step rfl rfl ?_
          go_simp
          exact hK _ _ (rfl) (Below.refl _ _)
        · simp at ho
          subst ho
          have e23 : a.tmps.getD 67 undef = .bool false := hR.dep ⟨23, .data⟩ (by simp) rfl
          refine plain_step rfl rfl ?_
          go_simp
          exact hK _ _ (rfl) (Below.refl _ _)
        · simp at ho
          subst ho
          have e24 : a.tmps.getD 68 undef = .bool false := hR.dep ⟨24, .guard⟩ (by simp) rfl
          have b8 : a.tmps.getD 8 undef = va := hR.base 8 (by kernel_rfl)
          refine guard_step rfl rfl rfl (b := false) e24 ?_
          go_simp
          exact hK _ _ (rfl) (Below.refl _ _)
        · simp at ho
          subst ho
          have e24 : a.tmps.getD 68 undef = .bool false := hR.dep ⟨24, .guard⟩ (by simp) rfl
          have b9 : a.tmps.getD 9 undef = vb := hR.base 9 (by kernel_rfl)
          refine guard_step rfl rfl rfl (b := false) e24 ?_
          go_simp
          exact hK _ _ (rfl) (Below.refl _ _)
        · simp at ho
          subst ho
          have e25 : a.tmps.getD 69 undef = va := hR.dep ⟨25, .data⟩ (by simp) rfl
          have e26 : a.tmps.getD 70 undef = vb := hR.dep ⟨26, .data⟩ (by simp) rfl
          have e24 : a.tmps.getD 68 undef = .bool false := hR.dep ⟨24, .guard⟩ (by simp) rfl
          refine guard_step rfl rfl rfl (b := false) e24 ?_
          go_simp
          refine (Meet_any va vb la lb _ hna hnb (HX.out.up hR.below) (HY.out.up hR.below)).mono ?_
          rintro e w' ⟨v, rfl, hl, hb⟩
          exact hK _ _ (hl) hb
        · simp at ho
          subst ho
          have e24 : a.tmps.getD 68 undef = .bool false := hR.dep ⟨24, .guard⟩ (by simp) rfl
          have b10 : a.tmps.getD 10 undef = .slice (some ⟨bd, 0, none⟩) 3 3 := hR.base 10 (by kernel_rfl)
          refine guard_step rfl rfl rfl (b := false) e24 ?_
          go_simp
          exact hK _ _ (rfl) (Below.refl _ _)
        · simp at ho
          subst ho
          have e24 : a.tmps.getD 68 undef = .bool false := hR.dep ⟨24, .guard⟩ (by simp) rfl
          have b11 : a.tmps.getD 11 undef = .int .i64 (k : Int) := hR.base 11 (by kernel_rfl)
          refine guard_step rfl rfl rfl (b := false) e24 ?_
          go_simp
          exact hK _ _ (rfl) (Below.refl _ _)
        · simp at ho
          subst ho
          have e28 : a.tmps.getD 72 undef = .slice (some ⟨bd, 0, none⟩) 3 3 := hR.dep ⟨28, .data⟩ (by simp) rfl
          have e29 : a.tmps.getD 73 undef = .int .i64 (k : Int) := hR.dep ⟨29, .data⟩ (by simp) rfl
          have e24 : a.tmps.getD 68 undef = .bool false := hR.dep ⟨24, .guard⟩ (by simp) rfl
          refine guard_step rfl rfl rfl (b := false) e24 ?_
          go_simp
          exact hK _ _ (rfl) (Below.refl _ _)
        · simp at ho
          subst ho
          have e30 : a.tmps.getD 74 undef = .pointer (some ⟨bd, k, none⟩) := hR.dep ⟨30, .data⟩ (by simp) rfl
          have e24 : a.tmps.getD 68 undef = .bool false := hR.dep ⟨24, .guard⟩ (by simp) rfl
          have c1 : w.cell? ⟨bd, k, none⟩ = some (.int .i64 x) := by rw [cell_up hR.below hltB]; exact HCX.out
          refine guard_step rfl rfl rfl (b := false) e24 ?_
          go_simp
          exact hK _ _ (rfl) (Below.refl _ _)
        · simp at ho
          subst ho
          have e27 := hR.dep ⟨27, .data⟩ (by simp) rfl
          have e31 : a.tmps.getD 75 undef = .int .i64 x := hR.dep ⟨31, .data⟩ (by simp) rfl
          have e24 : a.tmps.getD 68 undef = .bool false := hR.dep ⟨24, .guard⟩ (by simp) rfl
          have hl : Lst w (a.tmps.getD 71 undef) (comb andF la lb) := e27
          obtain ⟨vv, hvv⟩ : ∃ v, a.tmps.getD 71 undef = v := ⟨_, rfl⟩
          rw [hvv] at hl
          clear e27
          refine guard_step rfl rfl rfl (b := false) e24 ?_
          go_simp
          refine (Has_any x _ (comb andF la lb) _ hl).mono ?_
          rintro e w' ⟨rfl, hb⟩
          rw [hasB_comb rfl, HP.out, HQ.out, show andF p q = (p && q) from rfl]
          exact hK _ _ (rfl) hb
        · simp at ho
          subst ho
          have e24 : a.tmps.getD 68 undef = .bool false := hR.dep ⟨24, .guard⟩ (by simp) rfl
          have b12 : a.tmps.getD 12 undef = .bool p := hR.base 12 (by kernel_rfl)
          refine guard_step rfl rfl rfl (b := false) e24 ?_
          go_simp
          exact hK _ _ (rfl) (Below.refl _ _)
        · simp at ho
          subst ho
          have e33 : a.tmps.getD 77 undef = .bool p := hR.dep ⟨33, .data⟩ (by simp) rfl
          have e24 : a.tmps.getD 68 undef = .bool false := hR.dep ⟨24, .guard⟩ (by simp) rfl
          refine guard_step rfl rfl rfl (b := false) e24 ?_
          go_simp
          exact hK _ _ (rfl) (Below.refl _ _)
        · simp at ho
          subst ho
          have e34 : a.tmps.getD 78 undef = .bool p := hR.dep ⟨34, .guard⟩ (by simp) rfl
          have b13 : a.tmps.getD 13 undef = .bool q := hR.base 13 (by kernel_rfl)
          cases p
          · refine guard_skip rfl rfl rfl (b := true) e34 (by decide) ?_
            exact hK _ _ rfl (Below.refl _ _)
          · refine guard_step rfl rfl rfl (b := true) e34 ?_
            go_simp
            exact hK _ _ (rfl) (Below.refl _ _)
        · simp at ho
          subst ho
          have e34 : a.tmps.getD 78 undef = .bool p := hR.dep ⟨34, .data⟩ (by simp) rfl
          have e35 : a.tmps.getD 79 undef = (if p = true then .bool q else undef) := hR.dep ⟨35, .data⟩ (by simp) rfl
          have e24 : a.tmps.getD 68 undef = .bool false := hR.dep ⟨24, .guard⟩ (by simp) rfl
          cases p
          · refine guard_step rfl rfl rfl (b := false) e24 ?_
            go_simp
            exact hK _ _ (rfl) (Below.refl _ _)
          · refine guard_step rfl rfl rfl (b := false) e24 ?_
            go_simp
            exact hK _ _ (rfl) (Below.refl _ _)
        · simp at ho
          subst ho
          have e32 : a.tmps.getD 76 undef = .bool (p && q) := hR.dep ⟨32, .data⟩ (by simp) rfl
          have e36 : a.tmps.getD 80 undef = .bool (p && q) := hR.dep ⟨36, .data⟩ (by simp) rfl
          have e24 : a.tmps.getD 68 undef = .bool false := hR.dep ⟨24, .guard⟩ (by simp) rfl
          refine guard_step rfl rfl rfl (b := false) e24 ?_
          go_simp
          exact hK _ _ (rfl) (Below.refl _ _)
        · simp at ho
          subst ho
          have e24 : a.tmps.getD 68 undef = .bool false := hR.dep ⟨24, .data⟩ (by simp) rfl
          have e37 : a.tmps.getD 81 undef = .bool false := hR.dep ⟨37, .data⟩ (by simp) rfl
          refine plain_step rfl rfl ?_
          go_simp
          exact hK _ _ (rfl) (Below.refl _ _)
        · simp at ho
          subst ho
          have e38 : a.tmps.getD 82 undef = .bool false := hR.dep ⟨38, .data⟩ (by simp) rfl
          refine plain_step rfl rfl ?_
          go_simp
          exact hK _ _ (rfl) (Below.refl _ _)
        · simp at ho
          subst ho
          have e39 : a.tmps.getD 83 undef = .bool false := hR.dep ⟨39, .guard⟩ (by simp) rfl
          have b8 : a.tmps.getD 8 undef = va := hR.base 8 (by kernel_rfl)
          refine guard_step rfl rfl rfl (b := false) e39 ?_
          go_simp
          exact hK _ _ (rfl) (Below.refl _ _)
        · simp at ho
          subst ho
          have e39 : a.tmps.getD 83 undef = .bool false := hR.dep ⟨39, .guard⟩ (by simp) rfl
          have b9 : a.tmps.getD 9 undef = vb := hR.base 9 (by kernel_rfl)
          refine guard_step rfl rfl rfl (b := false) e39 ?_
          go_simp
          exact hK _ _ (rfl) (Below.refl _ _)
        · simp at ho
          subst ho
          have e40 : a.tmps.getD 84 undef = va := hR.dep ⟨40, .data⟩ (by simp) rfl
          have e41 : a.tmps.getD 85 undef = vb := hR.dep ⟨41, .data⟩ (by simp) rfl
          have e39 : a.tmps.getD 83 undef = .bool false := hR.dep ⟨39, .guard⟩ (by simp) rfl
          refine guard_step rfl rfl rfl (b := false) e39 ?_
          go_simp
          refine (Less_any va vb la lb _ hna hnb (HX.out.up hR.below) (HY.out.up hR.below)).mono ?_
          rintro e w' ⟨v, rfl, hl, hb⟩
          exact hK _ _ (hl) hb
        · simp at ho
          subst ho
          have e39 : a.tmps.getD 83 undef = .bool false := hR.dep ⟨39, .guard⟩ (by simp) rfl
          have b10 : a.tmps.getD 10 undef = .slice (some ⟨bd, 0, none⟩) 3 3 := hR.base 10 (by kernel_rfl)
          refine guard_step rfl rfl rfl (b := false) e39 ?_
          go_simp
          exact hK _ _ (rfl) (Below.refl _ _)
        · simp at ho
          subst ho
          have e39 : a.tmps.getD 83 undef = .bool false := hR.dep ⟨39, .guard⟩ (by simp) rfl
          have b11 : a.tmps.getD 11 undef = .int .i64 (k : Int) := hR.base 11 (by kernel_rfl)
          refine guard_step rfl rfl rfl (b := false) e39 ?_
          go_simp
          exact hK _ _ (rfl) (Below.refl _ _)
        · simp at ho
          subst ho
          have e43 : a.tmps.getD 87 undef = .slice (some ⟨bd, 0, none⟩) 3 3 := hR.dep ⟨43, .data⟩ (by simp) rfl
          have e44 : a.tmps.getD 88 undef = .int .i64 (k : Int) := hR.dep ⟨44, .data⟩ (by simp) rfl
          have e39 : a.tmps.getD 83 undef = .bool false := hR.dep ⟨39, .guard⟩ (by simp) rfl
          refine guard_step rfl rfl rfl (b := false) e39 ?_
          go_simp
          exact hK _ _ (rfl) (Below.refl _ _)
        · simp at ho
          subst ho
          have e45 : a.tmps.getD 89 undef = .pointer (some ⟨bd, k, none⟩) := hR.dep ⟨45, .data⟩ (by simp) rfl
          have e39 : a.tmps.getD 83 undef = .bool false := hR.dep ⟨39, .guard⟩ (by simp) rfl
          have c1 : w.cell? ⟨bd, k, none⟩ = some (.int .i64 x) := by rw [cell_up hR.below hltB]; exact HCX.out
          refine guard_step rfl rfl rfl (b := false) e39 ?_
          go_simp
          exact hK _ _ (rfl) (Below.refl _ _)
        · simp at ho
          subst ho
          have e42 := hR.dep ⟨42, .data⟩ (by simp) rfl
          have e46 : a.tmps.getD 90 undef = .int .i64 x := hR.dep ⟨46, .data⟩ (by simp) rfl
          have e39 : a.tmps.getD 83 undef = .bool false := hR.dep ⟨39, .guard⟩ (by simp) rfl
          have hl : Lst w (a.tmps.getD 86 undef) (comb lessF la lb) := e42
          obtain ⟨vv, hvv⟩ : ∃ v, a.tmps.getD 86 undef = v := ⟨_, rfl⟩
          rw [hvv] at hl
          clear e42
          refine guard_step rfl rfl rfl (b := false) e39 ?_
          go_simp
          refine (Has_any x _ (comb lessF la lb) _ hl).mono ?_
          rintro e w' ⟨rfl, hb⟩
          rw [hasB_comb rfl, HP.out, HQ.out, show lessF p q = (p && !q) from rfl]
          exact hK _ _ (rfl) hb
        · simp at ho
          subst ho
          have e39 : a.tmps.getD 83 undef = .bool false := hR.dep ⟨39, .guard⟩ (by simp) rfl
          have b12 : a.tmps.getD 12 undef = .bool p := hR.base 12 (by kernel_rfl)
          refine guard_step rfl rfl rfl (b := false) e39 ?_
          go_simp
          exact hK _ _ (rfl) (Below.refl _ _)
        · simp at ho
          subst ho
          have e48 : a.tmps.getD 92 undef = .bool p := hR.dep ⟨48, .data⟩ (by simp) rfl
          have e39 : a.tmps.getD 83 undef = .bool false := hR.dep ⟨39, .guard⟩ (by simp) rfl
          refine guard_step rfl rfl rfl (b := false) e39 ?_
          go_simp
          exact hK _ _ (rfl) (Below.refl _ _)
        · simp at ho
          subst ho
          have e49 : a.tmps.getD 93 undef = .bool p := hR.dep ⟨49, .guard⟩ (by simp) rfl
          have b13 : a.tmps.getD 13 undef = .bool q := hR.base 13 (by kernel_rfl)
          cases p
          · refine guard_skip rfl rfl rfl (b := true) e49 (by decide) ?_
            exact hK _ _ rfl (Below.refl _ _)
          · refine guard_step rfl rfl rfl (b := true) e49 ?_
            go_simp
            exact hK _ _ (rfl) (Below.refl _ _)
        · simp at ho
          subst ho
          have e50 : a.tmps.getD 94 undef = (if p = true then .bool q else undef) := hR.dep ⟨50, .data⟩ (by simp) rfl
          have e49 : a.tmps.getD 93 undef = .bool p := hR.dep ⟨49, .guard⟩ (by simp) rfl
          cases p
          · refine guard_skip rfl rfl rfl (b := true) e49 (by decide) ?_
            exact hK _ _ rfl (Below.refl _ _)
          · refine guard_step rfl rfl rfl (b := true) e49 ?_
            go_simp
            exact hK _ _ (rfl) (Below.refl _ _)
        · simp at ho
          subst ho
          have e49 : a.tmps.getD 93 undef = .bool p := hR.dep ⟨49, .data⟩ (by simp) rfl
          have e51 : a.tmps.getD 95 undef = (if p = true then .bool (!q) else undef) := hR.dep ⟨51, .data⟩ (by simp) rfl
          have e39 : a.tmps.getD 83 undef = .bool false := hR.dep ⟨39, .guard⟩ (by simp) rfl
          cases p
          · refine guard_step rfl rfl rfl (b := false) e39 ?_
            go_simp
            exact hK _ _ (rfl) (Below.refl _ _)
          · refine guard_step rfl rfl rfl (b := false) e39 ?_
            go_simp
            exact hK _ _ (rfl) (Below.refl _ _)
        · simp at ho
          subst ho
          have e47 : a.tmps.getD 91 undef = .bool (p && !q) := hR.dep ⟨47, .data⟩ (by simp) rfl
          have e52 : a.tmps.getD 96 undef = .bool (p && !q) := hR.dep ⟨52, .data⟩ (by simp) rfl
          have e39 : a.tmps.getD 83 undef = .bool false := hR.dep ⟨39, .guard⟩ (by simp) rfl
          refine guard_step rfl rfl rfl (b := false) e39 ?_
          go_simp
          exact hK _ _ (rfl) (Below.refl _ _)
        · simp at ho
          subst ho
          have e39 : a.tmps.getD 83 undef = .bool false := hR.dep ⟨39, .data⟩ (by simp) rfl
          have e53 : a.tmps.getD 97 undef = .bool false := hR.dep ⟨53, .data⟩ (by simp) rfl
          refine plain_step rfl rfl ?_
          go_simp
          exact hK _ _ (rfl) (Below.refl _ _)
      · intro s w hS hb
        have e54 : s 98 = .bool false := hS 54 (by decide)
        simp only [over, List.toList_toArray, Nat.zero_add, Nat.reduceAdd, Nat.reduceLeDiff, Nat.reduceLT, decide_true, decide_false, Bool.and_true, Bool.and_false, Bool.true_and, Bool.false_and, Bool.or_false, Bool.false_or, Bool.or_true, Bool.true_or, cond_true, cond_false]
        have HBW := Lib.hid (HBW.out.trans (hb.mono HBW.out.size))
        clear hb hS hltB
        rw [e54]
        clear e54
        go_wp2_with fail
        go_roundw
        case rel => exact ⟨k + 1, by omega, by go_num, HBW⟩
        case measure => simp [intOf]; omega
    · have hge : (3 : Int) ≤ (k : Int) := by omega
      have HB := Lib.hid (HB.out.trans (HBW.out.mono HB.out.size))
      go_wp2_with fail
      go_ret
      exact ⟨rfl, HB.out⟩

/-! ### THE ROW's STEP -/
set_option maxRecDepth 100000 in
theorem lifted (os : Os) (started : os.Started) (H : Type) (enc : TypeId × Value → H) :
    ReturnsInHanded {} Try.checked os 5 .any (Rows.spanDaysSpec.pre6 enc Try.prog Try.f5 Rows.spanDaysRow.domain false) (Rows.spanDaysSpec.post enc Try.prog Try.f5 false true false false) := by
  refine returnsInHanded_of_change (C := Try.checked) own started (by kernel_rfl) Try.func5
    (ChangeSpec.witness6 (enc := enc) (C := Try.checked) false ⟨#[], #[.slice none 0 0, .slice none 0 0, .int .i64 0], []⟩ 8 (by kernel_rfl) (by kernel_rfl) (by kernel_rfl) (by kernel_rfl)) ?_
  intro W base args ds gs before hval0 hW hcnd _
  have hval : ∀ (j : Nat) t v, Try.f5.params[j]? = some t → args[j]? = some v → Value.okWide Try.prog W .any base t v := hval0
  have hW' := hW
  obtain ⟨p, q, hA0, hV, rfl, hfz, hnd⟩ := hW
  have hA : DataW.TrodAll enc Try.prog W 0 (fun _ => true) true Try.f5.params.toList args.toList ds p := hA0
  rw [Try.params5] at hA hval
  obtain ⟨v0, vs0, d0, ds0, p0, q0, hargs, rfl, rfl, h0, r0⟩ := trodAll_cons hA
  obtain ⟨v1, vs1, d1, ds1, p1, q1, rfl, rfl, rfl, h1, r1⟩ := trodAll_cons r0
  obtain ⟨v2, vs2, d2, ds2, p2, q2, rfl, rfl, rfl, h2, r2⟩ := trodAll_cons r1
  obtain ⟨rfl, rfl, rfl⟩ := trodAll_nil r2
  obtain rfl : args = #[v0, v1, v2] := by cases args; simp_all
  obtain ⟨rfl, rfl⟩ := trodVars_none hV
  have a0 : ArgP W v0 := arg_arrays Try.underlying22 Try.underlying30 Try.underlying3 (by kernel_rfl) (by kernel_rfl) (hval 0 22 v0 rfl rfl) h0
  have lt0 : ∀ x ∈ p0, x.block < W.heap.size := fun x hx => hW'.lt x (by simp [hx])
  have a1 : ArgP W v1 := arg_arrays Try.underlying22 Try.underlying30 Try.underlying3 (by kernel_rfl) (by kernel_rfl) (hval 1 22 v1 rfl rfl) h1
  have lt1 : ∀ x ∈ p1, x.block < W.heap.size := fun x hx => hW'.lt x (by simp [hx])
  obtain ⟨n2, rfl, rfl, rfl, w2⟩ := open_int Try.underlying3 (hval 2 3 v2 rfl rfl) h2
  clear hA0 hval0
  simp only [List.append_nil] at hW'
  refine (walk v0 v1 n2 W a0 a1 (wf_in w2)).mono fun e W' ⟨he, hb⟩ => ?_
  subst he
  exact ⟨_, rfl, post_of_below (pv := []) hW' (fun _ _ _ => (trodAll_cons_mk (shut_bool Try.underlying4 _) trodAll_mk0)) (fun sp hsp => (trodAll_cons_mk (WideElems.Trod_stays (by kernel_rfl) (by kernel_rfl) (of_decide_eq_true (by kernel_rfl)) h0 (fun x hx => hb.same (lt0 x hx)) (fun x hx => hsp x (by simp [hx]))) (trodAll_cons_mk (WideElems.Trod_stays (by kernel_rfl) (by kernel_rfl) (of_decide_eq_true (by kernel_rfl)) h1 (fun x hx => hb.same (lt1 x hx)) (fun x hx => hsp x (by simp [hx]))) (trodAll_cons_mk (shut_int Try.underlying3 w2) trodAll_mk0)))) (fun _ _ => rfl) (by simp)
    hb (ok_one (by kernel_rfl) rfl (okWide_bool_mk Try.underlying4 _))⟩

theorem over : Rows.spanDaysRow.holds Try.pinned (OpenSpec.ofChange Rows.spanDaysSpec) :=
  OpenClaim.holds_of_wide 5 Try.f5 rfl rfl rfl rfl rfl rfl rfl ⟨rfl, rfl, rfl, rfl, rfl⟩ rfl rfl rfl rfl rfl (by kernel_rfl) Try.func5 (by kernel_rfl)
    (of_decide_eq_true (by kernel_rfl)) (by unfold Func.isWrapper; first | (rw [if_pos (by decide +kernel)]; kernel_rfl) | (rw [if_neg (by decide +kernel)]; exact ⟨rfl, rfl⟩))
    (fun os started H enc _ => lifted os started H enc)

theorem proved : Rows.SpanDaysSaid :=
  over
#print axioms proved
end Go.Proofs.Ytodkppeikpaclaa.spanDays
