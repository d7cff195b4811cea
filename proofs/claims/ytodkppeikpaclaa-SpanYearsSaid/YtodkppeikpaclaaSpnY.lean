/- Year and Period of package span, and of the reference model; each theorem names its conditions. -/
import Derived.Test.YtodkppeikpaclaaSpnI
import Derived.Test.YtodkppeikpaclaaDayB
import Derived.Test.YtodkppeikpaclaaRefA
namespace Go.Proofs.Ytodkppeikpaclaa
open Go.RowKit Go.Shelf
open Spn Cal
set_option linter.unusedVariables false

def yOk (p : Int) : Bool := decide (0 ≤ p ∧ p < 20)
def yS (p : Int) : Sp := if yOk p = true then (num (2000 + p) 1 1, num (2000 + p + 1) 1 1) else (0, 0)
theorem yS_ok {p : Int} (h0 : 0 ≤ p) (h1 : p < 20) : yOk p = true ∧ yS p = (numV (2000 + p) 1 1, numV (2000 + p + 1) 1 1) ∧ validB (2000 + p) 1 1 = true ∧ validB (2000 + p + 1) 1 1 = true := by
  have a : yOk p = true := by simp [yOk, h0, h1]
  have v : ∀ y : Int, 1 ≤ y → y ≤ 9999 → validB y 1 1 = true := fun y e1 e2 => by
    rw [valid_iff]; have := dim_lo y 1; omega
  have b1 := v (2000 + p) (by omega) (by omega)
  have b2 := v (2000 + p + 1) (by omega) (by omega)
  exact ⟨a, by rw [yS, if_pos a]; simp [numV, b1, b2], b1, b2⟩
theorem yS_no {p : Int} (h : p < 0 ∨ 20 ≤ p) : yOk p = false ∧ yS p = (0, 0) := by
  have a : yOk p = false := by simp only [yOk, decide_eq_false_iff_not]; omega
  exact ⟨a, by simp [yS, a]⟩
theorem Year_res {tmps : Array Value} {W : World} {b : Nat} {f t : Int} {k : Bool} (hp : tmps[2]?.getD undef = .pointer (some ⟨b, 0, none⟩)) (hq : tmps[3]?.getD undef = .bool k) (hb : W.heap[b]? = some (.cells #[.int .i64 f, .int .i64 t] 33 (0, 0))) :
    (results Try.f33 tmps).run Try.prog W = .ok (.tuple #[.agg #[.int .i64 f, .int .i64 t], .bool k]) W := by
  have c0 : W.cell? ⟨b, 0, none⟩ = some (.int .i64 f) := by rw [Lib.cell_of_heap hb]; rfl
  have c1 : W.cell? ⟨b, 1, none⟩ = some (.int .i64 t) := by rw [Lib.cell_of_heap hb]; rfl
  have ha := Try.isAgg33
  have hs := Try.sizeOf33
  have ha2 := Try.isAgg4
  have hs2 := Try.sizeOf4
  simp only [results, show Try.f33.results = #[.cell 2 33, .tmp 3] from rfl]
  simp [Sem.run_bind, Result.andThen, hp, hq]
  go_simp
set_option maxHeartbeats 1000000 in
theorem Year_any (p : Int) (l0 : -9223372036854775808 ≤ p) (l1 : p ≤ 9223372036854775807) (w : World) : Calls Try.prog 33 #[.int .i64 p] w fun e w' => e = .returned (.tuple #[.agg #[.int .i64 (yS p).1, .int .i64 (yS p).2], .bool (yOk p)]) ∧ Below w.heap.size w w' := by
  by_cases h0 : p < 0
  · have HY := Lib.hid (yS_no (p := p) (.inl h0))
    go_enter Try.func33, Try.ntmps33
    go_wp2_with fail
    refine bodyPost_ret (Year_res rfl rfl (heap_alloc_new w _)) rfl ?_
    exact ⟨by rw [HY.out.1, HY.out.2], (Below.refl _ _).alloc (Nat.le_refl _) _⟩
  by_cases h1 : 20 ≤ p
  · have HY := Lib.hid (yS_no (p := p) (.inr h1))
    go_enter Try.func33, Try.ntmps33
    go_wp2_with fail
    refine bodyPost_ret (Year_res rfl rfl (heap_alloc_new w _)) rfl ?_
    exact ⟨by rw [HY.out.1, HY.out.2], (Below.refl _ _).alloc (Nat.le_refl _) _⟩
  have HY := Lib.hid (yS_ok (p := p) (by omega) (by omega))
  have g0 : 0 ≤ p := by omega
  have g1 : p < 20 := by omega
  go_enter Try.func33, Try.ntmps33
  go_wp2_with fail
  refine (Number_any _ _ _ _).mono ?_
  rintro e w1 ⟨rfl, hb⟩
  have k1 := heap_up hb (heap_alloc_new w (.cells #[.int .i64 0, .int .i64 0] 33))
  have HB1 := Lib.hid (((Below.refl w.heap.size w).alloc (Nat.le_refl _) (.cells #[.int .i64 0, .int .i64 0] 33)).trans (hb.mono (by simp)))
  have HK1 := Lib.hid k1
  clear hb k1
  go_wp2_with fail
  refine (Number_any _ _ _ _).mono ?_
  rintro e w2 ⟨rfl, hb⟩
  have k2 := heap_up hb HK1.out
  have HB2 := Lib.hid (HB1.out.trans (hb.mono HB1.out.size))
  have z0 : ∀ j, w2.frozen? ⟨w.heap.size, j, none⟩ = false := fun j => Lib.frozen_of_heap k2 j
  have c0 : w2.cell? ⟨w.heap.size, 0, none⟩ = some (.int .i64 0) := by rw [Lib.cell_of_heap k2]; rfl
  have c1 : w2.cell? ⟨w.heap.size, 1, none⟩ = some (.int .i64 0) := by rw [Lib.cell_of_heap k2]; rfl
  have HK2 := Lib.hid k2
  clear hb k2
  go_wp2_with fail
  refine bodyPost_ret (Year_res rfl rfl (by rw [heap_self (heap_self HK2.out _) _]; rfl)) rfl ?_
  exact ⟨by rw [HY.out.1, HY.out.2.1], (HB2.out.setCell (p := ⟨w.heap.size, 0, none⟩) (Nat.le_refl _) _).setCell (p := ⟨w.heap.size, 1, none⟩) (Nat.le_refl _) _⟩
theorem rYear_res {tmps : Array Value} {W : World} {b : Nat} {f t : Int} {k : Bool} (hp : tmps[2]?.getD undef = .pointer (some ⟨b, 0, none⟩)) (hq : tmps[3]?.getD undef = .bool k) (hb : W.heap[b]? = some (.cells #[.int .i64 f, .int .i64 t] 33 (0, 0))) :
    (results Try.f34 tmps).run Try.prog W = .ok (.tuple #[.agg #[.int .i64 f, .int .i64 t], .bool k]) W := by
  have c0 : W.cell? ⟨b, 0, none⟩ = some (.int .i64 f) := by rw [Lib.cell_of_heap hb]; rfl
  have c1 : W.cell? ⟨b, 1, none⟩ = some (.int .i64 t) := by rw [Lib.cell_of_heap hb]; rfl
  have ha := Try.isAgg33
  have hs := Try.sizeOf33
  have ha2 := Try.isAgg4
  have hs2 := Try.sizeOf4
  simp only [results, show Try.f34.results = #[.cell 2 33, .tmp 3] from rfl]
  simp [Sem.run_bind, Result.andThen, hp, hq]
  go_simp
set_option maxHeartbeats 1000000 in
theorem rYear_any (p : Int) (l0 : -9223372036854775808 ≤ p) (l1 : p ≤ 9223372036854775807) (w : World) : Calls Try.prog 34 #[.int .i64 p] w fun e w' => e = .returned (.tuple #[.agg #[.int .i64 (yS p).1, .int .i64 (yS p).2], .bool (yOk p)]) ∧ Below w.heap.size w w' := by
  by_cases h0 : p < 0
  · have HY := Lib.hid (yS_no (p := p) (.inl h0))
    go_enter Try.func34, Try.ntmps34
    go_wp2_with fail
    refine bodyPost_ret (rYear_res rfl rfl (heap_alloc_new w _)) rfl ?_
    exact ⟨by rw [HY.out.1, HY.out.2], (Below.refl _ _).alloc (Nat.le_refl _) _⟩
  by_cases h1 : 20 ≤ p
  · have HY := Lib.hid (yS_no (p := p) (.inr h1))
    go_enter Try.func34, Try.ntmps34
    go_wp2_with fail
    refine bodyPost_ret (rYear_res rfl rfl (heap_alloc_new w _)) rfl ?_
    exact ⟨by rw [HY.out.1, HY.out.2], (Below.refl _ _).alloc (Nat.le_refl _) _⟩
  have HY := Lib.hid (yS_ok (p := p) (by omega) (by omega))
  have g0 : 0 ≤ p := by omega
  have g1 : p < 20 := by omega
  go_enter Try.func34, Try.ntmps34
  go_wp2_with fail
  refine (rNumber_any _ _ _ _).mono ?_
  rintro e w1 ⟨rfl, rfl⟩
  go_wp2_with fail
  refine (rNumber_any _ _ _ _).mono ?_
  rintro e w2 ⟨rfl, rfl⟩
  go_wp2_with fail
  refine bodyPost_ret (rYear_res rfl rfl (heap_alloc_new w _)) rfl ?_
  exact ⟨by rw [HY.out.1, HY.out.2.1], (Below.refl _ _).alloc (Nat.le_refl _) _⟩
/-- the first period from k on, of f ones, that has a day -/
def perG (d : Int) : Nat → Nat → Int × Bool
  | _, 0 => (0, false)
  | k, f + 1 => if coverS (yS k) d = true then ((k : Int), true) else perG d (k + 1) f
def perN (d : Int) : Int := (perG d 0 20).1
def perOk (d : Int) : Bool := (perG d 0 20).2
set_option maxHeartbeats 1000000 in
theorem Period_any (d : Int) (w : World) : Calls Try.prog 36 #[.int .i64 d] w fun e w' => e = .returned (.tuple #[.int .i64 (perN d), .bool (perOk d)]) ∧ Below w.heap.size w w' := by
  go_enter Try.func36, Try.ntmps36
  go_wp2_with fail
  go_loopw [7] (fun i wr => ∃ k : Nat, k ≤ 20 ∧ i = .int .i64 (k : Int) ∧ Hid (perG d 0 20 = perG d k (20 - k)) ∧ Hid (Below w.heap.size w wr)) (fun i _ => 20 - (intOf i).toNat)
  case atStart => exact ⟨0, by omega, rfl, Lib.hid rfl, Lib.hid (Below.refl _ _)⟩
  case round =>
    obtain ⟨k, hk, rfl, HG, HB⟩ := hrel
    by_cases hlt : k < 20
    · have hlt' : (k : Int) < 20 := by omega
      have HN : Hid (perG d 0 20 = if coverS (yS k) d = true then ((k : Int), true) else perG d (k + 1) (20 - (k + 1))) := Lib.hid (by
        rw [HG.out, show 20 - k = (20 - (k + 1)) + 1 by omega, perG])
      go_wp2_with fail
      refine (Year_any k (by omega) (by omega) _).mono ?_
      rintro e w1 ⟨rfl, hb1⟩
      have HB1 := Lib.hid (HB.out.trans (hb1.mono HB.out.size))
      obtain ⟨sf, hsf⟩ : ∃ sf, (yS k).1 = sf := ⟨_, rfl⟩
      obtain ⟨st, hst⟩ : ∃ st, (yS k).2 = st := ⟨_, rfl⟩
      have HE : Hid (yS k = (sf, st)) := Lib.hid (by rw [← hsf, ← hst])
      rw [hsf, hst]
      rw [HE.out] at HN
      clear hb1 hsf hst
      go_wp2_with fail
      refine (Has_any d _ [(sf, st)] _ (.inr ⟨w1.heap.size + 1, 0, 1, rfl, by simp, by simp, fun i hi => ?lst⟩)).mono ?_
      case lst =>
        have : i = 0 := by simp at hi; omega
        subst this
        have h := al_new (w := w1.alloc (.cells #[.int .i64 sf, .int .i64 st] 33)) (k := w1.heap.size + 1) (c := #[.int .i64 sf, .int .i64 st]) (t := 33) (by simp)
        exact ⟨by rw [Lib.cell_of_heap h]; rfl, by rw [Lib.cell_of_heap h]; rfl⟩
      rintro e w2 ⟨rfl, hb2⟩
      have hbz := HB1.out.size
      have HB2 := Lib.hid (((HB1.out.alloc HB1.out.size (.cells #[.int .i64 sf, .int .i64 st] 33)).alloc (by simp; omega) (.cells #[.int .i64 sf, .int .i64 st] 33)).trans (hb2.mono (by simp; omega)))
      clear hb2 hbz
      have hcc : coverS (sf, st) d = true ∨ coverS (sf, st) d = false := by cases coverS (sf, st) d <;> simp
      rcases hcc with hc | hc
      · have H1 : Hid (hasB [(sf, st)] d = true) := Lib.hid (by simp [hasB, hc])
        have HP : Hid (perN d = k ∧ perOk d = true) := Lib.hid (by unfold perN perOk; rw [HN.out, if_pos hc]; exact ⟨rfl, rfl⟩)
        rw [H1.out]
        go_wp2_with fail
        go_ret2
        exact ⟨by rw [HP.out.1, HP.out.2]; rfl, HB2.out⟩
      · have H1 : Hid (hasB [(sf, st)] d = false) := Lib.hid (by simp [hasB, hc])
        have HG2 : Hid (perG d 0 20 = perG d (k + 1) (20 - (k + 1))) := Lib.hid (by rw [HN.out, if_neg (by rw [hc]; decide)])
        rw [H1.out]
        go_wp2_with fail
        go_roundw
        case rel => exact ⟨k + 1, by omega, by go_num, HG2, HB2⟩
        case measure => simp [intOf]; omega
    · have hge : (20 : Int) ≤ (k : Int) := by omega
      have HP : Hid (perN d = 0 ∧ perOk d = false) := Lib.hid (by unfold perN perOk; rw [HG.out, show 20 - k = 0 by omega]; exact ⟨rfl, rfl⟩)
      go_wp2_with fail
      go_ret2
      exact ⟨by rw [HP.out.1, HP.out.2]; rfl, HB.out⟩
end Go.Proofs.Ytodkppeikpaclaa
