/- Contracts of package span: Right, Has; each theorem names its conditions. -/
import Derived.Test.YtodkppeikpaclaaShelf
import Derived.Test.YtodkppeikpaclaaSpn
import Derived.WalkKit
import Derived.WalkSpells
import Derived.WalkLawsBesides
import Derived.Lib.Hide
namespace Go.Proofs.Ytodkppeikpaclaa
open Go.RowKit Go.Shelf
open Spn
set_option linter.unusedVariables false

/-- the value of a list of spans -/
def Lst (W : World) (v : Value) (l : List Sp) : Prop :=
  (v = .slice none 0 0 ∧ l = []) ∨ ∃ g off cap, v = .slice (some ⟨g, off, none⟩) l.length cap ∧ g < W.heap.size ∧ l.length ≤ 1000000 ∧
    ∀ i (h : i < l.length), W.cell? ⟨g, off + i * 2, none⟩ = some (.int .i64 l[i].1) ∧ W.cell? ⟨g, off + i * 2 + 1, none⟩ = some (.int .i64 l[i].2)
theorem cell_up {A W : World} {g k : Nat} (hb : Below A.heap.size A W) (h : g < A.heap.size) : W.cell? ⟨g, k, none⟩ = A.cell? ⟨g, k, none⟩ := World.cell?_of_block (hb.block g h)
theorem heap_up {A W : World} {g : Nat} {o : Obj} (hb : Below A.heap.size A W) (h : A.heap[g]? = some o) : W.heap[g]? = some o := (hb.block g (Array.getElem?_eq_some_iff.1 h).1).trans h
theorem Lst.up {A W : World} {v : Value} {l : List Sp} (h : Lst A v l) (hb : Below A.heap.size A W) : Lst W v l := by
  rcases h with h | ⟨g, off, cap, h1, h2, h3, h4⟩
  · exact .inl h
  · refine .inr ⟨g, off, cap, h1, Nat.lt_of_lt_of_le h2 hb.size, h3, fun i hi => ?_⟩
    rw [cell_up hb h2, cell_up hb h2]
    exact h4 i hi
theorem Right_any (f t : Int) (w : World) : Calls Try.prog 24 #[.agg #[.int .i64 f, .int .i64 t]] w (fun e w' => e = .returned (.bool (rightS (f, t))) ∧ Below w.heap.size w w') := by
  have HB := Lib.hid ((Below.refl w.heap.size w).alloc (Nat.le_refl _) (.cells #[.int .i64 f, .int .i64 t] 33))
  by_cases h1 : 0 ≤ f
  · by_cases h2 : f < t
    · have HR : Hid (rightS (f, t) = decide (t ≤ 3652059)) := Lib.hid (by simp [rightS, h1, h2])
      go_enter Try.func24, Try.ntmps24
      go_wp2_with fail
      go_ret
      exact ⟨by rw [HR.out]; rfl, HB.out⟩
    · have HR : Hid (rightS (f, t) = false) := Lib.hid (by simp [rightS, h2])
      go_enter Try.func24, Try.ntmps24
      go_wp2_with fail
      go_ret
      exact ⟨by rw [HR.out]; rfl, HB.out⟩
  · have HR : Hid (rightS (f, t) = false) := Lib.hid (by simp [rightS, h1])
    go_enter Try.func24, Try.ntmps24
    go_wp2_with fail
    go_ret
    exact ⟨by rw [HR.out]; rfl, HB.out⟩

theorem Lst.up2 {A W : World} {v : Value} {l : List Sp} (h : Lst A v l) (hs : A.heap.size ≤ W.heap.size) (hk : ∀ k, k < A.heap.size → W.heap[k]? = A.heap[k]?) : Lst W v l := by
  rcases h with h | ⟨g, off, cap, h1, h2, h3, h4⟩
  · exact .inl h
  · refine .inr ⟨g, off, cap, h1, Nat.lt_of_lt_of_le h2 hs, h3, fun i hi => ?_⟩
    have e : ∀ k, W.cell? ⟨g, k, none⟩ = A.cell? ⟨g, k, none⟩ := fun k => World.cell?_of_block (hk g h2)
    rw [e, e]; exact h4 i hi
theorem hasF_any (b : Nat) (d f t : Int) (w : World) (hb : w.heap[b]? = some (.cells #[.int .i64 d] 3 (0, 0))) :
    Calls Try.prog 45 #[.agg #[.int .i64 f, .int .i64 t], .pointer (some ⟨b, 0, none⟩)] w (fun e w' => e = .returned (.bool (coverS (f, t) d)) ∧ Below w.heap.size w w') := by
  have HK := Lib.hid hb
  have hblt := (Array.getElem?_eq_some_iff.1 hb).1
  clear hb
  have hnb : b ≠ w.heap.size := Nat.ne_of_lt hblt
  go_enter Try.func45, Try.ntmps45
  go_wp2_with fail
  refine (Right_any f t _).mono ?_
  rintro e w1 ⟨rfl, hb1⟩
  have HB1 := Lib.hid (((Below.refl w.heap.size w).alloc (Nat.le_refl _) _).trans (hb1.mono (by simp)))
  have k1 : w1.heap[w.heap.size]? = some (.cells #[.int .i64 f, .int .i64 t] 33 (0, 0)) := by rw [hb1.block _ (by simp)]; exact heap_alloc_new w _
  have cd : w1.cell? ⟨b, 0, none⟩ = some (.int .i64 d) := by rw [cell_up HB1.out hblt, Lib.cell_of_heap HK.out]; rfl
  have cf : w1.cell? ⟨w.heap.size, 0, none⟩ = some (.int .i64 f) := by rw [Lib.cell_of_heap k1]; rfl
  have ct : w1.cell? ⟨w.heap.size, 1, none⟩ = some (.int .i64 t) := by rw [Lib.cell_of_heap k1]; rfl
  clear hb1 k1
  have hrr : rightS (f, t) = true ∨ rightS (f, t) = false := by cases rightS (f, t) <;> simp
  rcases hrr with hr | hr
  · rw [hr]
    by_cases h1 : f ≤ d
    · have HR : Hid (coverS (f, t) d = decide (d < t)) := Lib.hid (by simp [coverS, hr, h1])
      clear hr
      go_wp2_with fail
      go_ret
      exact ⟨by rw [HR.out]; rfl, HB1.out⟩
    · have HR : Hid (coverS (f, t) d = false) := Lib.hid (by simp [coverS, h1])
      clear hr
      go_wp2_with fail
      go_ret
      exact ⟨by rw [HR.out]; rfl, HB1.out⟩
  · have HR : Hid (coverS (f, t) d = false) := Lib.hid (by simp [coverS, hr])
    rw [hr]
    clear hr
    go_wp2_with fail
    go_ret
    exact ⟨by rw [HR.out]; rfl, HB1.out⟩
set_option maxHeartbeats 1000000 in
theorem idx_any (b : Nat) (d : Int) (v : Value) (l : List Sp) (w : World) (hb : w.heap[b]? = some (.cells #[.int .i64 d] 3 (0, 0))) (hl : Lst w v l) :
    Calls Try.prog 52 #[v, .func (Fn.func 45) #[] #[.pointer (some ⟨b, 0, none⟩)]] w (fun e w' => ∃ k : Int, e = .returned (.int .i64 k) ∧ decide (0 ≤ k) = hasB l d ∧ Below w.heap.size w w') := by
  have HK := Lib.hid hb
  have hblt := (Array.getElem?_eq_some_iff.1 hb).1
  clear hb
  rcases hl with ⟨rfl, rfl⟩ | ⟨g, off, cap, rfl, hg, hlen, hcell⟩
  · go_enter Try.func52, Try.ntmps52
    go_wp2_with fail
    refine wp_loop_rounds 1 ?_
    rw [rounds_succ]
    go_wp2_with fail
    go_ret
    exact ⟨_, rfl, rfl, Below.refl _ _⟩
  have HC := Lib.hid hcell
  clear hcell
  go_enter Try.func52, Try.ntmps52
  go_wp2_with fail
  go_loopw [8] (fun i wr => ∃ k : Nat, k ≤ l.length ∧ i = .int .i64 (k : Int) ∧ Hid (hasB (l.take k) d = false) ∧ Hid (Below w.heap.size w wr)) (fun i _ => l.length - (intOf i).toNat)
  case atStart => exact ⟨0, by omega, rfl, Lib.hid rfl, Lib.hid (Below.refl _ _)⟩
  case round =>
    obtain ⟨k, hk, rfl, HN, HB⟩ := hrel
    by_cases hlt : k < l.length
    · have hlt' : (k : Int) < (l.length : Int) := by omega
      have cA : wr.cell? ⟨g, off + k * 2, none⟩ = some (.int .i64 l[k].1) := by rw [World.cell?_of_block (w := w) (HB.out.block g hg)]; exact (HC.out k hlt).1
      have cB : wr.cell? ⟨g, off + k * 2 + 1, none⟩ = some (.int .i64 l[k].2) := by rw [World.cell?_of_block (w := w) (HB.out.block g hg)]; exact (HC.out k hlt).2
      obtain ⟨wo, hwo⟩ : ∃ wo, wo = wr := ⟨_, rfl⟩
      subst hwo
      go_wp2_with fail
      refine (hasF_any b d _ _ _ (heap_up HB.out HK.out)).mono ?_
      rintro e w1 ⟨rfl, hb1⟩
      have HB1 := Lib.hid (HB.out.trans (hb1.mono HB.out.size))
      clear hb1
      have hcc : coverS (l[k].1, l[k].2) d = true ∨ coverS (l[k].1, l[k].2) d = false := by cases coverS (l[k].1, l[k].2) d <;> simp
      rcases hcc with hc | hc
      · have HH : Hid (hasB l d = true) := Lib.hid (by
          have hm := List.getElem_mem hlt
          exact List.any_eq_true.2 ⟨l[k], hm, hc⟩)
        rw [hc]
        clear hc
        go_wp2_with fail
        go_ret
        exact ⟨_, rfl, by rw [HH.out]; exact decide_eq_true (Int.natCast_nonneg k), HB1.out⟩
      · have HN1 : Hid (hasB (l.take (k + 1)) d = false) := Lib.hid (by
          rw [List.take_succ_eq_append_getElem hlt, hasB_append, HN.out]
          simp only [Bool.false_or]
          rw [hasB_cons, hasB_nil, Bool.or_false]; exact hc)
        rw [hc]
        clear hc
        go_wp2_with fail
        go_roundw
        case rel => exact ⟨k + 1, by omega, by go_num, HN1, HB1⟩
        case measure => simp [intOf]; omega
    · have hge : (l.length : Int) ≤ (k : Int) := by omega
      have HH : Hid (hasB l d = false) := Lib.hid (by have := HN.out; rwa [List.take_of_length_le (by omega)] at this)
      go_wp2_with fail
      go_ret
      exact ⟨_, rfl, by rw [HH.out]; decide, HB.out⟩
theorem contains_any (b : Nat) (d : Int) (v : Value) (l : List Sp) (w : World) (hb : w.heap[b]? = some (.cells #[.int .i64 d] 3 (0, 0))) (hl : Lst w v l) :
    Calls Try.prog 44 #[v, .func (Fn.func 45) #[] #[.pointer (some ⟨b, 0, none⟩)]] w (fun e w' => e = .returned (.bool (hasB l d)) ∧ Below w.heap.size w w') := by
  have HK := Lib.hid hb; have HL := Lib.hid hl
  clear hb hl
  go_enter Try.func44, Try.ntmps44
  go_wp2_with fail
  refine (idx_any b d v l _ HK.out HL.out).mono ?_
  rintro e w1 ⟨k, rfl, hk, hb⟩
  have HKK := Lib.hid hk; have HB := Lib.hid hb
  clear hk hb
  go_wp2_with fail
  go_ret
  exact ⟨by rw [← HKK.out]; rfl, HB.out⟩
theorem Has_any (d : Int) (v : Value) (l : List Sp) (w : World) (hl : Lst w v l) :
    Calls Try.prog 28 #[v, .int .i64 d] w (fun e w' => e = .returned (.bool (hasB l d)) ∧ Below w.heap.size w w') := by
  have HL := Lib.hid (hl.up ((Below.refl w.heap.size w).alloc (Nat.le_refl _) (.cells #[.int .i64 d] 3)))
  have HB0 := Lib.hid ((Below.refl w.heap.size w).alloc (Nat.le_refl _) (.cells #[.int .i64 d] 3))
  clear hl
  go_enter Try.func28, Try.ntmps28
  go_wp2_with fail
  refine (contains_any w.heap.size d v l _ (heap_alloc_new w _) HL.out).mono ?_
  rintro e w1 ⟨rfl, hb⟩
  have HB := Lib.hid (HB0.out.trans (hb.mono (by simp)))
  clear hb
  go_wp2_with fail
  go_ret
  exact ⟨rfl, HB.out⟩
end Go.Proofs.Ytodkppeikpaclaa
