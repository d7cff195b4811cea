/- Right, Has, with and bounds of the reference model; each theorem names its conditions. -/
import Derived.Test.YtodkppeikpaclaaSpnD
namespace Go.Proofs.Ytodkppeikpaclaa
open Go.RowKit Go.Shelf
open Spn
set_option linter.unusedVariables false

theorem rRight_any (f t : Int) (w : World) : Calls Try.prog 25 #[.agg #[.int .i64 f, .int .i64 t]] w (fun e w' => e = .returned (.bool (rightS (f, t))) ∧ Below w.heap.size w w') := by
  have HB := Lib.hid ((Below.refl w.heap.size w).alloc (Nat.le_refl _) (.cells #[.int .i64 f, .int .i64 t] 33))
  by_cases h1 : 0 ≤ f
  · by_cases h2 : f < t
    · have HR : Hid (rightS (f, t) = decide (t ≤ 3652059)) := Lib.hid (by simp [rightS, h1, h2])
      go_enter Try.func25, Try.ntmps25
      go_wp2_with fail
      go_ret
      exact ⟨by rw [HR.out]; rfl, HB.out⟩
    · have HR : Hid (rightS (f, t) = false) := Lib.hid (by simp [rightS, h2])
      go_enter Try.func25, Try.ntmps25
      go_wp2_with fail
      go_ret
      exact ⟨by rw [HR.out]; rfl, HB.out⟩
  · have HR : Hid (rightS (f, t) = false) := Lib.hid (by simp [rightS, h1])
    go_enter Try.func25, Try.ntmps25
    go_wp2_with fail
    go_ret
    exact ⟨by rw [HR.out]; rfl, HB.out⟩

set_option maxHeartbeats 2000000 in
theorem rHas_any (d : Int) (v : Value) (l : List Sp) (w : World) (hl : Lst w v l) :
    Calls Try.prog 29 #[v, .int .i64 d] w (fun e w' => e = .returned (.bool (hasB l d)) ∧ Below w.heap.size w w') := by
  obtain ⟨p, cap, rfl, hlen, hcell⟩ := hl.open
  have HC := Lib.hid hcell
  clear hl hcell
  go_enter Try.func29, Try.ntmps29
  go_wp2_with fail
  go_loopw [5] (fun i wr => ∃ k : Nat, k ≤ l.length ∧ i = .int .i64 (k : Int) ∧ Hid (hasB (l.take k) d = false) ∧ Hid (Below w.heap.size w wr)) (fun i _ => l.length - (intOf i).toNat)
  case atStart => exact ⟨0, by omega, rfl, Lib.hid rfl, Lib.hid (Below.refl _ _)⟩
  case round =>
    obtain ⟨k, hk, rfl, HN, HB⟩ := hrel
    by_cases hlt : k < l.length
    · have hlt' : (k : Int) < (l.length : Int) := by omega
      obtain ⟨g, off, rfl, hg, h1, h2⟩ := HC.out k hlt
      have cA : wr.cell? ⟨g, off + k * 2, none⟩ = some (.int .i64 l[k].1) := by rw [cell_up HB.out hg]; exact h1
      have cB : wr.cell? ⟨g, off + k * 2 + 1, none⟩ = some (.int .i64 l[k].2) := by rw [cell_up HB.out hg]; exact h2
      have HM := Lib.hid (List.getElem_mem hlt)
      have HT := Lib.hid (List.take_succ_eq_append_getElem hlt)
      obtain ⟨sf, hsf⟩ : ∃ sf, l[k].1 = sf := ⟨_, rfl⟩
      obtain ⟨st, hst⟩ : ∃ st, l[k].2 = st := ⟨_, rfl⟩
      have HE : Hid (l[k] = (sf, st)) := Lib.hid (by rw [← hsf, ← hst])
      rw [hsf] at cA; rw [hst] at cB
      clear hsf hst h1 h2
      obtain ⟨wo, hwo⟩ : ∃ wo, wo = wr := ⟨_, rfl⟩
      subst hwo
      have HYES : Hid (coverS (sf, st) d = true → hasB l d = true) := Lib.hid (fun h => List.any_eq_true.2 ⟨l[k], HM.out, by rw [HE.out]; exact h⟩)
      have HNO : Hid (coverS (sf, st) d = false → hasB (l.take (k + 1)) d = false) := Lib.hid (fun h => by
        rw [HT.out, hasB_append, HN.out, HE.out]; simp only [Bool.false_or]; rw [hasB_cons, hasB_nil, Bool.or_false]; exact h)
      go_wp2_with fail
      refine (rRight_any sf st _).mono ?_
      rintro e w1 ⟨rfl, hb1⟩
      have eA : w1.cell? ⟨g, off + k * 2, none⟩ = some (.int .i64 sf) := by rw [cell_up hb1 (Nat.lt_of_lt_of_le hg HB.out.size)]; exact cA
      have eB : w1.cell? ⟨g, off + k * 2 + 1, none⟩ = some (.int .i64 st) := by rw [cell_up hb1 (Nat.lt_of_lt_of_le hg HB.out.size)]; exact cB
      have HB1 := Lib.hid (HB.out.trans (hb1.mono HB.out.size))
      clear hb1 cA cB
      have hrr : rightS (sf, st) = true ∨ rightS (sf, st) = false := by cases rightS (sf, st) <;> simp
      rcases hrr with hr | hr
      · by_cases h1 : sf ≤ d
        · by_cases h2 : d < st
          · have HH := Lib.hid (HYES.out (by simp [coverS, hr, h1, h2]))
            rw [hr]
            clear hr
            go_wp2_with fail
            go_ret
            exact ⟨by rw [HH.out]; rfl, HB1.out⟩
          · have HH := Lib.hid (HNO.out (by simp [coverS, h2]))
            rw [hr]
            clear hr
            go_wp2_with fail
            go_roundw
            case rel => exact ⟨k + 1, by omega, by go_num, HH, HB1⟩
            case measure => simp [intOf]; omega
        · have HH := Lib.hid (HNO.out (by simp [coverS, h1]))
          rw [hr]
          clear hr
          go_wp2_with fail
          go_roundw
          case rel => exact ⟨k + 1, by omega, by go_num, HH, HB1⟩
          case measure => simp [intOf]; omega
      · have HH := Lib.hid (HNO.out (by simp [coverS, hr]))
        rw [hr]
        clear hr
        go_wp2_with fail
        go_roundw
        case rel => exact ⟨k + 1, by omega, by go_num, HH, HB1⟩
        case measure => simp [intOf]; omega
    · have hge : (l.length : Int) ≤ (k : Int) := by omega
      have HH : Hid (hasB l d = false) := Lib.hid (by have := HN.out; rwa [List.take_of_length_le (by omega)] at this)
      go_wp2_with fail
      go_ret
      exact ⟨by rw [HH.out]; rfl, HB.out⟩
/-- the value of a list of numbers -/
def LstI (W : World) (v : Value) (c : List Int) : Prop :=
  ∃ p cap, v = .slice p c.length cap ∧ c.length ≤ 1000000 ∧ ∀ i (h : i < c.length), ∃ g off, p = some ⟨g, off, none⟩ ∧ g < W.heap.size ∧ W.cell? ⟨g, off + i, none⟩ = some (.int .i64 c[i])
theorem LstI.up {A W : World} {v : Value} {c : List Int} (h : LstI A v c) (hb : Below A.heap.size A W) : LstI W v c := by
  obtain ⟨p, cap, h1, h2, h3⟩ := h
  refine ⟨p, cap, h1, h2, fun i hi => ?_⟩
  obtain ⟨g, off, e1, e2, e3⟩ := h3 i hi
  exact ⟨g, off, e1, Nat.lt_of_lt_of_le e2 hb.size, by rw [cell_up hb e2]; exact e3⟩
theorem own_lstI {W : World} {base : Nat} {e : TypeId} {v : Value} {c : List Int} (h : W.ownsRow base e 1 v c.length (ints c)) (hl : c.length ≤ 1000000) : LstI W v c := by
  rcases h.2 with ⟨rfl, h0⟩ | ⟨g, cap, cur, rfl, hg, hgh, hnc, hcm, hcs, hct⟩
  · have : c = [] := List.eq_nil_of_length_eq_zero h0
    subst this
    exact ⟨none, 0, rfl, by simp, fun i hi => absurd hi (by simp)⟩
  · refine ⟨_, cap, rfl, hl, fun i hi => ⟨g, 0, rfl, (Array.getElem?_eq_some_iff.1 hgh).1, ?_⟩⟩
    have hx : (ints c)[i]? = some (.int .i64 c[i]) := by simp [ints, hi]
    rw [← hct, List.getElem?_take] at hx
    split at hx
    · rw [Nat.zero_add, Lib.cell_of_heap hgh, ← Array.getElem?_toList]; exact hx
    · cases hx
theorem cell_fresh1 (w : World) (x : Value) (t : TypeId) : ∀ (j : Nat) (u : Value), [x][j]? = some u → (w.alloc (.cells #[x] t)).cell? ((⟨w.heap.size, 0, none⟩ : Addr).add j) = some u := by
  intro j u h
  have hj : j = 0 := by have := (List.getElem?_eq_some_iff.1 h).1; simp at this; omega
  subst hj; simp at h; subst h
  rw [show (⟨w.heap.size, 0, none⟩ : Addr).add 0 = ⟨w.heap.size, 0, none⟩ from rfl, Lib.cell_of_heap (heap_alloc_new w _)]; rfl
theorem withL_len : ∀ (c : List Int) (n : Int), (withL c n).length ≤ c.length + 1
  | [], n => by simp [withL]
  | x :: r, n => by
    unfold withL
    have := withL_len r n
    split
    · simp; omega
    split <;> simp
set_option maxHeartbeats 4000000 in
set_option maxRecDepth 20000 in
theorem with_any (v : Value) (c : List Int) (n : Int) (w : World) (hc : LstI w v c) (hcl : c.length ≤ 100000) :
    Calls Try.prog 60 #[v, .int .i64 n] w (fun e w' => ∃ v', e = .returned v' ∧ LstI w' v' (withL c n) ∧ Below w.heap.size w w') := by
  obtain ⟨i0, hi, hz0, hz1, hz2⟩ := info_parts infoInt
  obtain ⟨p, cap, rfl, hlen, hcell⟩ := hc
  have HC := Lib.hid hcell
  have hwl := withL_len c n
  clear hcell
  go_enter Try.func60, Try.ntmps60
  go_wp2_with fail
  go_loopw [5, 6, 7] (fun vo vd i wr => ∃ (k : Nat) (out : List Int) (dn : Bool), k ≤ c.length ∧ i = .int .i64 (k : Int) ∧ vd = .bool dn ∧ (dn = false → out.length ≤ k) ∧ out.length ≤ k + 1 ∧ Hid (wr.ownsRow w.heap.size 3 1 vo out.length (ints out)) ∧ Hid (Below w.heap.size w wr) ∧ Hid (withL c n = out ++ (if dn = true then c.drop k else withL (c.drop k) n))) (fun _ _ i _ => c.length - (intOf i).toNat)
  case atStart => exact ⟨0, [], false, by omega, rfl, rfl, by simp, by simp, Lib.hid (World.ownsRow_nil _ _ _ _), Lib.hid (Below.refl _ _), Lib.hid rfl⟩
  case round =>
    obtain ⟨k, out, dn, hk, rfl, rfl, hol0, hol, HOWN, HB, HW⟩ := hrel
    by_cases hlt : k < c.length
    · have hlt' : (k : Int) < (c.length : Int) := by omega
      obtain ⟨g, off, rfl, hg, h1⟩ := HC.out k hlt
      have HDR := Lib.hid (List.drop_eq_getElem_cons hlt)
      obtain ⟨x, hx⟩ : ∃ x, c[k] = x := ⟨_, rfl⟩
      have cA : wr.cell? ⟨g, off + k, none⟩ = some (.int .i64 x) := by rw [cell_up HB.out hg, ← hx]; exact h1
      have cB : ∀ o, (wr.alloc o).cell? ⟨g, off + k, none⟩ = some (.int .i64 x) := fun o => by rw [cell_up ((Below.refl _ wr).alloc (Nat.le_refl _) o) (Nat.lt_of_lt_of_le hg HB.out.size)]; exact cA
      rw [hx] at HDR
      clear h1 hx
      cases dn
      · have hol1 : out.length ≤ k := hol0 rfl
        clear hol0
        by_cases hlo : x < n
        · have HW2 : Hid (withL c n = (out ++ [x]) ++ withL (c.drop (k + 1)) n) := Lib.hid (by have h := HW.out; rw [HDR.out] at h; simp only [Bool.false_eq_true, if_false] at h; rw [h, withL, if_pos hlo, List.append_assoc]; rfl)
          go_wp2_with (first | (at_builtin; refine wpList_append_own _ rfl _ _ 40 rfl w.heap.size 3 i0 (.int .i64 0) 1 8 Try.underlying40 hi hz0 hz1 hz2 rfl (by decide) _ _ _ rfl (HOWN.out.alloc _) ⟨wr.heap.size, 0, none⟩ 1 1 [.int .i64 x] rfl rfl (cell_fresh1 wr _ _) (by simp [Value.oneCell']) (by unfold maxLen; omega) (by omega) (by have := HB.out.size; simp; omega) ?_; intro v1 w1 hown' hgrow hnn; have HO1 := Lib.hid hown'; have HG1 := Lib.hid hgrow; clear hown' hgrow hnn) | fail)
          go_roundw
          case rel => exact ⟨k + 1, out ++ [x], false, by omega, by go_num, rfl, by simp; try omega, by simp; omega, Lib.hid (by simpa [ints] using HO1.out), Lib.hid (below_own HB.out HOWN.out HG1.out (Nat.le_refl _) (Nat.le_refl _)), Lib.hid (by rw [HW2.out]; rfl)⟩
          case measure => simp [intOf]; omega
        · by_cases hhi : n < x
          · have HW2 : Hid (withL c n = ((out ++ [n]) ++ [x]) ++ c.drop (k + 1)) := Lib.hid (by have h := HW.out; rw [HDR.out] at h; simp only [Bool.false_eq_true, if_false] at h; rw [h, withL, if_neg hlo, if_pos hhi, List.append_assoc, List.append_assoc]; rfl)
            go_upto_region 10 with (first | (at_builtin; refine wpList_append_own _ rfl _ _ 40 rfl w.heap.size 3 i0 (.int .i64 0) 1 8 Try.underlying40 hi hz0 hz1 hz2 rfl (by decide) _ _ _ rfl (HOWN.out.alloc _) ⟨wr.heap.size, 0, none⟩ 1 1 [.int .i64 n] rfl rfl (cell_fresh1 wr _ _) (by simp [Value.oneCell']) (by unfold maxLen; omega) (by omega) (by have := HB.out.size; simp; omega) ?_; intro v1 w1 hown' hgrow hnn; have HO1 := Lib.hid hown'; have HG1 := Lib.hid hgrow; clear hown' hgrow hnn) | fail)
            have HB1 := Lib.hid (below_own HB.out HOWN.out HG1.out (Nat.le_refl _) (Nat.le_refl _))
            have cC : w1.cell? ⟨g, off + k, none⟩ = some (.int .i64 x) := by
              rw [World.cell?_of_block (w := wr) ((HG1.out.block g (by have := HB.out.size; simp; omega) (fun e => by have := (HOWN.out.lt g e.symm).1; omega)).trans (Below.heap_alloc wr _ g (Nat.lt_of_lt_of_le hg HB.out.size)))]
              exact cA
            have HO1' : Hid (w1.ownsRow w.heap.size 3 1 v1 (out ++ [n]).length (ints (out ++ [n]))) := Lib.hid (by simpa [ints] using HO1.out)
            have hl1 : (out ++ [n]).length = out.length + 1 := by simp
            go_wp2_with (first | (at_builtin; refine wpList_append_own _ rfl _ _ 40 rfl w.heap.size 3 i0 (.int .i64 0) 1 8 Try.underlying40 hi hz0 hz1 hz2 rfl (by decide) _ _ _ rfl (HO1'.out.alloc _) ⟨w1.heap.size, 0, none⟩ 1 1 [.int .i64 x] rfl rfl (cell_fresh1 w1 _ _) (by simp [Value.oneCell']) (by unfold maxLen; omega) (by omega) (by have := HB1.out.size; simp; omega) ?_; intro v2 w2 hown' hgrow hnn; have HO2 := Lib.hid hown'; have HG2 := Lib.hid hgrow; clear hown' hgrow hnn) | fail)
            go_roundw
            case rel => exact ⟨k + 1, (out ++ [n]) ++ [x], true, by omega, by go_num, rfl, by simp; try omega, by simp; omega, Lib.hid (by have h := HO2.out; simpa [ints] using h), Lib.hid (below_own HB1.out HO1'.out HG2.out (Nat.le_refl _) (Nat.le_refl _)), Lib.hid (by rw [HW2.out]; rfl)⟩
            case measure => simp [intOf]; omega
          · have hxn : x = n := by omega
            have HW2 : Hid (withL c n = (out ++ [x]) ++ c.drop (k + 1)) := Lib.hid (by have h := HW.out; rw [HDR.out] at h; simp only [Bool.false_eq_true, if_false] at h; rw [h, withL, if_neg hlo, if_neg hhi, List.append_assoc]; rfl)
            subst hxn
            go_wp2_with (first | (at_builtin; refine wpList_append_own _ rfl _ _ 40 rfl w.heap.size 3 i0 (.int .i64 0) 1 8 Try.underlying40 hi hz0 hz1 hz2 rfl (by decide) _ _ _ rfl (HOWN.out.alloc _) ⟨wr.heap.size, 0, none⟩ 1 1 [.int .i64 x] rfl rfl (cell_fresh1 wr _ _) (by simp [Value.oneCell']) (by unfold maxLen; omega) (by omega) (by have := HB.out.size; simp; omega) ?_; intro v1 w1 hown' hgrow hnn; have HO1 := Lib.hid hown'; have HG1 := Lib.hid hgrow; clear hown' hgrow hnn) | fail)
            go_roundw
            case rel => exact ⟨k + 1, out ++ [x], true, by omega, by go_num, rfl, by simp; try omega, by simp; omega, Lib.hid (by simpa [ints] using HO1.out), Lib.hid (below_own HB.out HOWN.out HG1.out (Nat.le_refl _) (Nat.le_refl _)), Lib.hid (by rw [HW2.out]; rfl)⟩
            case measure => simp [intOf]; omega
      · clear hol0
        have HW2 : Hid (withL c n = (out ++ [x]) ++ c.drop (k + 1)) := Lib.hid (by have h := HW.out; rw [HDR.out] at h; simp only [if_true] at h; rw [h, List.append_assoc]; rfl)
        go_wp2_with (first | (at_builtin; refine wpList_append_own _ rfl _ _ 40 rfl w.heap.size 3 i0 (.int .i64 0) 1 8 Try.underlying40 hi hz0 hz1 hz2 rfl (by decide) _ _ _ rfl (HOWN.out.alloc _) ⟨wr.heap.size, 0, none⟩ 1 1 [.int .i64 x] rfl rfl (cell_fresh1 wr _ _) (by simp [Value.oneCell']) (by unfold maxLen; omega) (by omega) (by have := HB.out.size; simp; omega) ?_; intro v1 w1 hown' hgrow hnn; have HO1 := Lib.hid hown'; have HG1 := Lib.hid hgrow; clear hown' hgrow hnn) | fail)
        go_roundw
        case rel => exact ⟨k + 1, out ++ [x], true, by omega, by go_num, rfl, by simp; try omega, by simp; omega, Lib.hid (by simpa [ints] using HO1.out), Lib.hid (below_own HB.out HOWN.out HG1.out (Nat.le_refl _) (Nat.le_refl _)), Lib.hid (by rw [HW2.out]; rfl)⟩
        case measure => simp [intOf]; omega
    · clear hol0
      have hge : (c.length : Int) ≤ (k : Int) := by omega
      have HDR : Hid (c.drop k = []) := Lib.hid (List.drop_eq_nil_of_le (by omega))
      cases dn
      · have HW2 : Hid (withL c n = out ++ [n]) := Lib.hid (by have h := HW.out; rw [HDR.out] at h; exact h)
        go_wp2_with (first | (at_builtin; refine wpList_append_own _ rfl _ _ 40 rfl w.heap.size 3 i0 (.int .i64 0) 1 8 Try.underlying40 hi hz0 hz1 hz2 rfl (by decide) _ _ _ rfl (HOWN.out.alloc _) ⟨wr.heap.size, 0, none⟩ 1 1 [.int .i64 n] rfl rfl (cell_fresh1 wr _ _) (by simp [Value.oneCell']) (by unfold maxLen; omega) (by omega) (by have := HB.out.size; simp; omega) ?_; intro v1 w1 hown' hgrow hnn; have HO1 := Lib.hid hown'; have HG1 := Lib.hid hgrow; clear hown' hgrow hnn) | fail)
        have HL1 := Lib.hid (own_lstI (c := out ++ [n]) (by simpa [ints] using HO1.out) (by simp; omega))
        have HB1 := Lib.hid (below_own HB.out HOWN.out HG1.out (Nat.le_refl _) (Nat.le_refl _))
        go_ret
        exact ⟨_, rfl, by rw [HW2.out]; exact HL1.out, HB1.out⟩
      · have HW2 : Hid (withL c n = out) := Lib.hid (by have h := HW.out; rw [HDR.out] at h; simpa using h)
        have HL1 := Lib.hid (own_lstI HOWN.out (by omega))
        go_wp2_with fail
        go_ret
        exact ⟨_, rfl, by rw [HW2.out]; exact HL1.out, HB.out⟩
end Go.Proofs.Ytodkppeikpaclaa
