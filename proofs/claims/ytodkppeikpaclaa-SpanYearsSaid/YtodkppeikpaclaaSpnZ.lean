/- Period of the reference model; years and their periods, plain. Each theorem names its conditions. -/
import Derived.Test.YtodkppeikpaclaaSpnY
namespace Go.Proofs.Ytodkppeikpaclaa
open Go.RowKit Go.Shelf
open Spn Cal
set_option linter.unusedVariables false

theorem year_right : ∀ k : Nat, k < 20 → rightS (yS k) = true := by decide +kernel
theorem cover_year {k : Nat} (h : k < 20) (d : Int) : coverS (yS k) d = (decide ((yS k).1 ≤ d) && decide (d < (yS k).2)) := by
  unfold coverS; rw [year_right k h, Bool.true_and]
theorem perG_have (d : Int) : ∀ (f k : Nat), k + f ≤ 20 → (perG d k f).2 = true → ∃ j : Nat, j < 20 ∧ (perG d k f).1 = j ∧ coverS (yS j) d = true
  | 0, k, _, h => by simp [perG] at h
  | f + 1, k, hk, h => by
    unfold perG at h ⊢
    by_cases hc : coverS (yS k) d = true
    · rw [if_pos hc]; exact ⟨k, by omega, rfl, hc⟩
    · rw [if_neg hc] at h ⊢; exact perG_have d f (k + 1) (by omega) h
theorem per_have {d : Int} (h : perOk d = true) : ∃ j : Nat, j < 20 ∧ perN d = j ∧ coverS (yS j) d = true := perG_have d 20 0 (by omega) h
theorem perG_bd (d : Int) : ∀ (f k : Nat), k + f ≤ 20 → 0 ≤ (perG d k f).1 ∧ (perG d k f).1 ≤ 20
  | 0, k, _ => by simp [perG]
  | f + 1, k, hk => by
    unfold perG
    split
    · exact ⟨by simp, by simp; omega⟩
    · exact perG_bd d f (k + 1) (by omega)
theorem per_bd (d : Int) : 0 ≤ perN d ∧ perN d ≤ 20 := perG_bd d 20 0 (by omega)
def yearB (k : Nat) : Bool :=
  decide (cyV (yS k).1 = 2000 + k) && decide (cmV (yS k).1 = 1) && decide (cdV (yS k).1 = 1) && insideB (yS k).1 && decide (perN (yS k).1 = k) && perOk (yS k).1 &&
  decide (perN ((yS k).2 - 1) = k) && perOk ((yS k).2 - 1) && (decide ((yS k).2 = (yS k).1 + 365) || decide ((yS k).2 = (yS k).1 + 366)) && (decide (k = 19) || decide ((yS (k + 1)).1 = (yS k).2)) && decide (0 ≤ (yS k).1) && decide ((yS k).1 ≤ 4000000)
theorem year_all : ∀ k : Nat, k < 20 → yearB k = true := by decide +kernel
theorem year_parts {p : Int} (h0 : 0 ≤ p) (h1 : p < 20) : cyV (yS p).1 = 2000 + p ∧ cmV (yS p).1 = 1 ∧ cdV (yS p).1 = 1 ∧ insideB (yS p).1 = true ∧ perN (yS p).1 = p ∧ perOk (yS p).1 = true ∧
    perN ((yS p).2 - 1) = p ∧ perOk ((yS p).2 - 1) = true ∧ ((yS p).2 = (yS p).1 + 365 ∨ (yS p).2 = (yS p).1 + 366) ∧ (p < 19 → (yS (p + 1)).1 = (yS p).2) ∧ 0 ≤ (yS p).1 ∧ (yS p).1 ≤ 4000000 := by
  obtain ⟨k, rfl⟩ : ∃ k : Nat, p = k := ⟨p.toNat, by omega⟩
  have h := year_all k (by omega)
  unfold yearB at h
  simp only [Bool.and_eq_true, Bool.or_eq_true, decide_eq_true_eq] at h
  obtain ⟨⟨⟨⟨⟨⟨⟨⟨⟨⟨⟨a1, a2⟩, a3⟩, a4⟩, a5⟩, a6⟩, a7⟩, a8⟩, a9⟩, a10⟩, a11⟩, a12⟩ := h
  exact ⟨a1, a2, a3, a4, a5, a6, a7, a8, a9, fun hp => a10.elim (fun e => by omega) id, a11, a12⟩
set_option maxHeartbeats 1000000 in
theorem rPeriod_any (d : Int) (w : World) : Calls Try.prog 37 #[.int .i64 d] w fun e w' => e = .returned (.tuple #[.int .i64 (perN d), .bool (perOk d)]) ∧ Below w.heap.size w w' := by
  go_enter Try.func37, Try.ntmps37
  go_wp2_with fail
  go_loopw [4] (fun i wr => ∃ k : Nat, k ≤ 20 ∧ i = .int .i64 (k : Int) ∧ Hid (perG d 0 20 = perG d k (20 - k)) ∧ Hid (Below w.heap.size w wr)) (fun i _ => 20 - (intOf i).toNat)
  case atStart => exact ⟨0, by omega, rfl, Lib.hid rfl, Lib.hid (Below.refl _ _)⟩
  case round =>
    obtain ⟨k, hk, rfl, HG, HB⟩ := hrel
    by_cases hlt : k < 20
    · have hlt' : (k : Int) < 20 := by omega
      have HN : Hid (perG d 0 20 = if coverS (yS k) d = true then ((k : Int), true) else perG d (k + 1) (20 - (k + 1))) := Lib.hid (by
        rw [HG.out, show 20 - k = (20 - (k + 1)) + 1 by omega, perG])
      rw [cover_year hlt] at HN
      go_wp2_with fail
      refine (rYear_any k (by omega) (by omega) _).mono ?_
      rintro e w1 ⟨rfl, hb1⟩
      have HB1 := Lib.hid (HB.out.trans (hb1.mono HB.out.size))
      obtain ⟨sf, hsf⟩ : ∃ sf, (yS k).1 = sf := ⟨_, rfl⟩
      obtain ⟨st, hst⟩ : ∃ st, (yS k).2 = st := ⟨_, rfl⟩
      rw [hsf, hst] at HN ⊢
      have HB2 := Lib.hid (HB1.out.alloc HB1.out.size (.cells #[.int .i64 sf, .int .i64 st] 33))
      clear hb1 hsf hst
      by_cases h1 : sf ≤ d
      · by_cases h2 : d < st
        · have HP : Hid (perN d = k ∧ perOk d = true) := Lib.hid (by unfold perN perOk; rw [HN.out, if_pos (by simp [h1, h2])]; exact ⟨rfl, rfl⟩)
          go_wp2_with fail
          go_ret2
          exact ⟨by rw [HP.out.1, HP.out.2]; rfl, HB2.out⟩
        · have HG2 : Hid (perG d 0 20 = perG d (k + 1) (20 - (k + 1))) := Lib.hid (by rw [HN.out, if_neg (by simp [h2])])
          go_wp2_with fail
          go_roundw
          case rel => exact ⟨k + 1, by omega, by go_num, HG2, HB2⟩
          case measure => simp [intOf]; omega
      · have HG2 : Hid (perG d 0 20 = perG d (k + 1) (20 - (k + 1))) := Lib.hid (by rw [HN.out, if_neg (by simp [h1])])
        go_wp2_with fail
        go_roundw
        case rel => exact ⟨k + 1, by omega, by go_num, HG2, HB2⟩
        case measure => simp [intOf]; omega
    · have hge : (20 : Int) ≤ (k : Int) := by omega
      have HP : Hid (perN d = 0 ∧ perOk d = false) := Lib.hid (by unfold perN perOk; rw [HG.out, show 20 - k = 0 by omega]; exact ⟨rfl, rfl⟩)
      go_wp2_with fail
      go_ret2
      exact ⟨by rw [HP.out.1, HP.out.2]; rfl, HB.out⟩
end Go.Proofs.Ytodkppeikpaclaa
