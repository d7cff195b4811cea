/- Made of the reference model, few and to of the laws; each theorem names its conditions. -/
import Derived.Test.YtodkppeikpaclaaSpnH
namespace Go.Proofs.Ytodkppeikpaclaa
open Go.RowKit Go.Shelf
open Spn
set_option linter.unusedVariables false

def inI (x : Int) : Prop := -9223372036854775808 ≤ x ∧ x ≤ 9223372036854775807
/-- an argument that is a slice of pairs of numbers -/
def ArgP (W : World) (v : Value) : Prop :=
  ∃ p len cap, v = .slice p len cap ∧ len ≤ cap ∧ cap ≤ 9223372036854775807 ∧ (p = none → cap = 0) ∧ ∀ i, i < len → ∃ g off f t, p = some ⟨g, off, none⟩ ∧ g < W.heap.size ∧ inI f ∧ inI t ∧ W.cell? ⟨g, off + i * 2, none⟩ = some (.int .i64 f) ∧ W.cell? ⟨g, off + i * 2 + 1, none⟩ = some (.int .i64 t)
theorem ArgP.up {A W : World} {v : Value} (h : ArgP A v) (hb : Below A.heap.size A W) : ArgP W v := by
  obtain ⟨p, len, cap, h1, h2, h3, hn, h4⟩ := h
  refine ⟨p, len, cap, h1, h2, h3, hn, fun i hi => ?_⟩
  obtain ⟨g, off, f, t, e1, e2, e3, e4, e5, e6⟩ := h4 i hi
  exact ⟨g, off, f, t, e1, Nat.lt_of_lt_of_le e2 hb.size, e3, e4, by rw [cell_up hb e2]; exact e5, by rw [cell_up hb e2]; exact e6⟩
/-- what Made makes -/
def madeP (s : Sp) : Prop := ((0 ≤ s.1 ∧ s.1 ≤ 59) ∨ (3652039 ≤ s.1 ∧ s.1 ≤ 3652058)) ∧ s.1 ≤ s.2 ∧ s.2 ≤ s.1 + 11
set_option maxHeartbeats 4000000 in
set_option maxRecDepth 100000 in
theorem Made_any (v : Value) (w : World) (hv : ArgP w v) :
    Calls Try.prog 13 #[v] w fun e w' => ∃ v' l, e = .returned v' ∧ Lst w' v' l ∧ l.length ≤ 8 ∧ (∀ s ∈ l, madeP s) ∧ Below w.heap.size w w' := by
  obtain ⟨i0, hi, hz0, hz1, hz2⟩ := info_parts infoSpan
  obtain ⟨p, len, cap, rfl, hlc, hcm, -, hcell⟩ := hv
  have HC := Lib.hid hcell
  clear hcell
  go_enter Try.func13, Try.ntmps13
  go_wp2_with fail
  go_loopw [3, 4] (fun vo i wr => ∃ (k : Nat) (l : List Sp), k ≤ len ∧ k ≤ 8 ∧ i = .int .i64 (k : Int) ∧ Hid (wr.ownsRow w.heap.size 33 2 vo l.length (cells2 l)) ∧ l.length ≤ k ∧ Hid (∀ s ∈ l, madeP s) ∧ Hid (Below w.heap.size w wr)) (fun _ i _ => 8 - (intOf i).toNat)
  case atStart => exact ⟨0, [], by omega, by omega, rfl, Lib.hid (World.ownsRow_nil _ _ _ _), by simp, Lib.hid (by simp), Lib.hid (Below.refl _ _)⟩
  case round =>
    obtain ⟨k, l, hk, hk8, rfl, HO, hlk, HP, HB⟩ := hrel
    by_cases hlt : k < len
    · have hlt' : (k : Int) < (len : Int) := by omega
      by_cases h8 : k < 8
      · have h8' : (k : Int) < 8 := by omega
        obtain ⟨g, off, x, y, rfl, hg, hx, hy, h1, h2⟩ := HC.out k hlt
        have hx0 := hx.1; have hx1 := hx.2; have hy0 := hy.1; have hy1 := hy.2
        have d1 : wr.cell? ⟨g, off + k * 2, none⟩ = some (.int .i64 x) := by rw [cell_up HB.out hg]; exact h1
        have d2 : wr.cell? ⟨g, off + k * 2 + 1, none⟩ = some (.int .i64 y) := by rw [cell_up HB.out hg]; exact h2
        clear h1 h2 hx hy
        have m1 : 0 ≤ x % 60 := by omega
        have m2 : x % 60 < 60 := by omega
        have m3 : 0 ≤ x % 20 := by omega
        have m4 : x % 20 < 20 := by omega
        have m5 : 0 ≤ y % 12 := by omega
        have m6 : y % 12 < 12 := by omega
        obtain ⟨a, ha⟩ : ∃ a, x % 60 = a := ⟨_, rfl⟩
        obtain ⟨b, hb⟩ : ∃ b, x % 20 = b := ⟨_, rfl⟩
        obtain ⟨c, hc⟩ : ∃ c, y % 12 = c := ⟨_, rfl⟩
        rw [ha] at m1 m2; rw [hb] at m3 m4; rw [hc] at m5 m6
        have HA := Lib.hid ha; have HBB := Lib.hid hb; have HCC := Lib.hid hc
        clear ha hb hc
        go_wp2_with fail
        refine (rMod_any x 60 (by decide) (by decide) hx0 hx1 _).mono ?_
        rintro e w1 ⟨rfl, rfl⟩
        rw [HA.out]
        by_cases hneg : x < 0
        · go_wp2_with fail
          refine (rMod_any x 20 (by decide) (by decide) hx0 hx1 _).mono ?_
          rintro e w1 ⟨rfl, rfl⟩
          rw [HBB.out]
          go_wp2_with fail
          refine (rMod_any y 12 (by decide) (by decide) hy0 hy1 _).mono ?_
          rintro e w1 ⟨rfl, rfl⟩
          rw [HCC.out]
          go_wp2_with (first | (at_builtin; refine wpList_append_own _ rfl _ _ 24 rfl w.heap.size 33 i0 (.agg #[.int .i64 0, .int .i64 0]) 2 16 Try.underlying24 hi hz0 hz1 hz2 rfl (by decide) _ _ _ rfl (HO.out.alloc _) ⟨wr.heap.size, 0, none⟩ 1 1 [.int .i64 (3652058 - b), .int .i64 (3652058 - b + c)] rfl rfl (cell_fresh2 wr _ _ _) (by simp [Value.oneCell']) (by unfold maxLen; omega) (by omega) (by have := HB.out.size; simp; omega) ?_; intro v' w2 hown' hgrow hnn; have HO2 := Lib.hid hown'; have HG := Lib.hid hgrow; clear hown' hgrow hnn) | fail)
          go_roundw
          case rel => exact ⟨k + 1, l ++ [(3652058 - b, 3652058 - b + c)], by omega, by omega, by go_num, Lib.hid (by simpa [cells2] using HO2.out), by simp; omega, Lib.hid (fun s hs => by
            rcases List.mem_append.1 hs with h | h
            · exact HP.out s h
            · rw [List.mem_singleton.1 h]; exact ⟨by simp only []; omega, by simp only []; omega, by simp only []; omega⟩), Lib.hid (below_own HB.out HO.out HG.out (Nat.le_refl _) (Nat.le_refl _))⟩
          case measure => simp [intOf]; omega
        · go_wp2_with fail
          refine (rMod_any y 12 (by decide) (by decide) hy0 hy1 _).mono ?_
          rintro e w1 ⟨rfl, rfl⟩
          rw [HCC.out]
          go_wp2_with (first | (at_builtin; refine wpList_append_own _ rfl _ _ 24 rfl w.heap.size 33 i0 (.agg #[.int .i64 0, .int .i64 0]) 2 16 Try.underlying24 hi hz0 hz1 hz2 rfl (by decide) _ _ _ rfl (HO.out.alloc _) ⟨wr.heap.size, 0, none⟩ 1 1 [.int .i64 (a), .int .i64 (a + c)] rfl rfl (cell_fresh2 wr _ _ _) (by simp [Value.oneCell']) (by unfold maxLen; omega) (by omega) (by have := HB.out.size; simp; omega) ?_; intro v' w2 hown' hgrow hnn; have HO2 := Lib.hid hown'; have HG := Lib.hid hgrow; clear hown' hgrow hnn) | fail)
          go_roundw
          case rel => exact ⟨k + 1, l ++ [(a, a + c)], by omega, by omega, by go_num, Lib.hid (by simpa [cells2] using HO2.out), by simp; omega, Lib.hid (fun s hs => by
            rcases List.mem_append.1 hs with h | h
            · exact HP.out s h
            · rw [List.mem_singleton.1 h]; exact ⟨by simp only []; omega, by simp only []; omega, by simp only []; omega⟩), Lib.hid (below_own HB.out HO.out HG.out (Nat.le_refl _) (Nat.le_refl _))⟩
          case measure => simp [intOf]; omega
      · have h8' : (8 : Int) ≤ (k : Int) := by omega
        have HL := Lib.hid (own_lst HO.out (by omega))
        go_wp2_with fail
        go_ret
        exact ⟨_, l, rfl, HL.out, by omega, HP.out, HB.out⟩
    · have hge : (len : Int) ≤ (k : Int) := by omega
      have HL := Lib.hid (own_lst HO.out (by omega))
      go_wp2_with fail
      go_ret
      exact ⟨_, l, rfl, HL.out, by omega, HP.out, HB.out⟩
theorem to_res {tmps : Array Value} {W : World} {b : Nat} {f t : Int} (hp : tmps[4]?.getD undef = .pointer (some ⟨b, 0, none⟩)) (hb : W.heap[b]? = some (.cells #[.int .i64 f, .int .i64 t] 33 (0, 0))) :
    (results Try.f38 tmps).run Try.prog W = .ok (.agg #[.int .i64 f, .int .i64 t]) W := by
  have c0 : W.cell? ⟨b, 0, none⟩ = some (.int .i64 f) := by rw [Lib.cell_of_heap hb]; rfl
  have c1 : W.cell? ⟨b, 1, none⟩ = some (.int .i64 t) := by rw [Lib.cell_of_heap hb]; rfl
  have ha := Try.isAgg33
  have hs := Try.sizeOf33
  simp only [results, show Try.f38.results = #[.cell 4 33] from rfl]
  simp [Sem.run_bind, Result.andThen, hp]
  go_simp
theorem to_any (f t : Int) (w : World) : Calls Try.prog 38 #[.int .i64 f, .int .i64 t] w fun e w' => e = .returned (.agg #[.int .i64 f, .int .i64 t]) ∧ Below w.heap.size w w' := by
  go_enter Try.func38, Try.ntmps38
  go_wp2_with fail
  refine bodyPost_ret (to_res rfl (heap_alloc_new w _)) rfl ?_
  exact ⟨rfl, (Below.refl _ _).alloc (Nat.le_refl _) _⟩
end Go.Proofs.Ytodkppeikpaclaa
