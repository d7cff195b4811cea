/- few of the laws: a fresh list of at most the first eight; each theorem names its conditions. -/
import Derived.Test.YtodkppeikpaclaaSpnI
namespace Go.Proofs.Ytodkppeikpaclaa
open Go.RowKit Go.Shelf
open Spn
set_option linter.unusedVariables false

theorem cells2_len (l : List Sp) : (cells2 l).length = l.length * 2 := by
  induction l with
  | nil => rfl
  | cons s l ih => simp [cells2] at ih ⊢; omega
theorem cells2_get {l : List Sp} {j : Nat} {u : Value} (h : (cells2 l)[j]? = some u) : ∃ i, ∃ hi : i < l.length, (j = i * 2 ∧ u = .int .i64 l[i].1) ∨ (j = i * 2 + 1 ∧ u = .int .i64 l[i].2) := by
  have hj := (List.getElem?_eq_some_iff.1 h).1
  rw [cells2_len] at hj
  have hi : j / 2 < l.length := by omega
  have hat := cells2_at l (j / 2) hi
  refine ⟨j / 2, hi, ?_⟩
  rcases (by omega : j = j / 2 * 2 ∨ j = j / 2 * 2 + 1) with e | e
  · left; refine ⟨e, ?_⟩; rw [e] at h; rw [hat.1] at h; simpa using h.symm
  · right; refine ⟨e, ?_⟩; rw [e] at h; rw [hat.2] at h; simpa using h.symm
set_option maxHeartbeats 1000000 in
theorem few_any (v : Value) (w : World) (hv : ArgP w v) :
    Calls Try.prog 23 #[v] w fun e w' => ∃ v' l, e = .returned v' ∧ Lst w' v' l ∧ l.length ≤ 8 ∧ Below w.heap.size w w' := by
  obtain ⟨i0, hi, hz0, hz1, hz2⟩ := info_parts infoSpan
  obtain ⟨p, len, cap, rfl, hlc, hcm, hn, hcell⟩ := hv
  cases p with
  | none =>
    have hc0 := hn rfl
    subst hc0
    have hl0 : len = 0 := by omega
    subst hl0
    clear hcell hn
    go_enter Try.func23, Try.ntmps23
    go_wp2_with fail
    go_ret
    exact ⟨_, [], rfl, .inr ⟨w.heap.size, 0, _, rfl, by simp, by simp, fun i h => absurd h (by simp)⟩, by simp, (Below.refl _ _).alloc (Nat.le_refl _) _⟩
  | some a =>
    clear hn
    have hch : ∀ i, ∃ s : Sp, i < len → ∃ g off, a = ⟨g, off, none⟩ ∧ g < w.heap.size ∧ w.cell? ⟨g, off + i * 2, none⟩ = some (.int .i64 s.1) ∧ w.cell? ⟨g, off + i * 2 + 1, none⟩ = some (.int .i64 s.2) := by
      intro i
      by_cases h : i < len
      · obtain ⟨g, off, f, t, e1, e2, -, -, e3, e4⟩ := hcell i h
        exact ⟨(f, t), fun _ => ⟨g, off, by cases e1; rfl, e2, e3, e4⟩⟩
      · exact ⟨(0, 0), fun h' => absurd h' h⟩
    obtain ⟨F, hF⟩ : ∃ F : Nat → Sp, ∀ i, i < len → ∃ g off, a = ⟨g, off, none⟩ ∧ g < w.heap.size ∧ w.cell? ⟨g, off + i * 2, none⟩ = some (.int .i64 (F i).1) ∧ w.cell? ⟨g, off + i * 2 + 1, none⟩ = some (.int .i64 (F i).2) :=
      ⟨fun i => Classical.choose (hch i), fun i => Classical.choose_spec (hch i)⟩
    obtain ⟨l, hl⟩ : ∃ l, l = (List.range (min (len : Int) 8).toNat).map F := ⟨_, rfl⟩
    have hll : l.length = (min (len : Int) 8).toNat := by rw [hl]; simp
    have hnews : ∀ o, ∀ (j : Nat) (u : Value), (cells2 l)[j]? = some u → (w.alloc o).cell? (a.add j) = some u := by
      intro o j u hu
      obtain ⟨i, hil, h⟩ := cells2_get hu
      have hgi : l[i] = F i := by subst hl; simp
      have hin : i < len := by rw [hll] at hil; omega
      obtain ⟨g, off, rfl, hg, e1, e2⟩ := hF i hin
      have hadd : ((⟨g, off, none⟩ : Addr).add j) = ⟨g, off + j, none⟩ := by unfold Addr.add; split <;> simp_all
      rw [hadd, cell_up ((Below.refl _ w).alloc (Nat.le_refl _) o) hg]
      rcases h with ⟨rfl, rfl⟩ | ⟨rfl, rfl⟩
      · rw [hgi]; exact e1
      · rw [hgi]; exact e2
    have HNW := Lib.hid hnews
    have HOWN : Hid ((w.alloc (.cells #[] 33)).ownsRow w.heap.size 33 2 (.slice (some ⟨w.heap.size, 0, none⟩) 0 0) 0 []) := Lib.hid ⟨rfl, .inr ⟨w.heap.size, 0, #[], rfl, Nat.le_refl _, heap_alloc_new w _, Nat.le_refl _, by unfold maxLen; omega, rfl, rfl⟩⟩
    have hm8 : (min (len : Int) 8).toNat ≤ 8 := by omega
    have hmc : min (len : Int) 8 ≤ (cap : Int) := by omega
    have HLL := Lib.hid hll
    have h1c : ∀ u ∈ cells2 l, u.oneCell' = true := by
      intro u hu
      obtain ⟨j, hj, e⟩ := List.getElem_of_mem hu
      obtain ⟨i, hi2, h⟩ := cells2_get (l := l) (j := j) (u := u) (by rw [List.getElem?_eq_getElem hj, e])
      rcases h with ⟨-, rfl⟩ | ⟨-, rfl⟩ <;> simp [Value.oneCell']
    have H1C := Lib.hid h1c
    have HC2 : Hid ((cells2 l).length = (min (len : Int) 8).toNat * 2) := Lib.hid (by rw [cells2_len, hll])
    clear hcell hch hF hl hll hnews h1c
    go_enter Try.func23, Try.ntmps23
    go_wp2_with (first | (at_builtin; refine wpList_append_own _ rfl _ _ 24 rfl w.heap.size 33 i0 (.agg #[.int .i64 0, .int .i64 0]) 2 16 Try.underlying24 hi hz0 hz1 hz2 rfl (by decide) _ _ _ rfl HOWN.out a (min (len : Int) 8).toNat cap (cells2 l) rfl HC2.out (HNW.out _) H1C.out (by unfold maxLen; omega) (by omega) (by simp) ?_; intro v' w2 hown' hgrow hnn; have HO2 := Lib.hid hown'; have HG := Lib.hid hgrow; clear hown' hgrow hnn) | fail)
    go_ret
    have h2 : w2.ownsRow w.heap.size 33 2 v' l.length (cells2 l) := by
      have h := HO2.out
      rw [Nat.zero_add, List.nil_append] at h
      rw [HLL.out]; exact h
    refine ⟨_, l, rfl, own_lst h2 (by rw [HLL.out]; omega), by rw [HLL.out]; exact hm8, ?_⟩
    exact ((Below.refl _ w).alloc (Nat.le_refl _) _).grown HG.out (by simp) (fun k h => by cases h; exact Nat.le_refl _)
end Go.Proofs.Ytodkppeikpaclaa
