/- trim of the reference implementation. Each theorem names its conditions. -/
import Derived.Test.YtakbkbmjeanboaaGreatDoorRefP
namespace Go.Proofs.YtakbkbmjeanboaaGreatDoor
open Go.RowKit Go.Shelf
open Dgt
set_option linter.unusedVariables false

/-- v reads as a list of digits to the base 2^24, in cells of kind int; no bound for its room -/
def LimR (W : World) (v : Value) (l : List Nat) : Prop :=
  okB 16777216 l ∧ l.length ≤ 1000000000 ∧ ∃ p cap, v = .slice p l.length cap ∧ l.length ≤ cap ∧ ∀ i (h : i < l.length), ∃ g off, p = some ⟨g, off, none⟩ ∧ g < W.heap.size ∧ W.cell? ⟨g, off + i, none⟩ = some (.int .i64 (l[i] : Int))
theorem LimR.up {A W : World} {v : Value} {l : List Nat} (h : LimR A v l) (hb : Below A.heap.size A W) : LimR W v l := by
  obtain ⟨ho, h0, p, cap, h1, h2, h4⟩ := h
  refine ⟨ho, h0, p, cap, h1, h2, fun i hi => ?_⟩
  obtain ⟨g, off, e1, e2, e3⟩ := h4 i hi
  exact ⟨g, off, e1, Nat.lt_of_lt_of_le e2 hb.size, by rw [cell_up hb e2]; exact e3⟩
theorem LimR.nil_ (W : World) : LimR W (.slice none 0 0) [] := ⟨okB_nil _, by simp, none, 0, rfl, Nat.le_refl _, fun i h => absurd h (by simp)⟩
theorem LimR.take {W : World} {p : Option Addr} {n cap : Nat} {l : List Nat} (h : LimR W (.slice p n cap) l) {k : Nat} (hk : k ≤ n) : LimR W (.slice p k cap) (l.take k) := by
  obtain ⟨ho, h0, p', cap', e, h1, h3⟩ := h
  injection e with e1 e2 e3
  subst e1; subst e2; subst e3
  have hl : (l.take k).length = k := by rw [List.length_take, Nat.min_eq_left hk]
  refine ⟨ho.take k, by omega, p, cap, by rw [hl], by omega, fun i hi => ?_⟩
  rw [hl] at hi
  obtain ⟨g, off, a, b, c⟩ := h3 i (by omega)
  exact ⟨g, off, a, b, by rw [List.getElem_take]; exact c⟩
theorem LimR.len {W : World} {p : Option Addr} {n cap : Nat} {l : List Nat} (h : LimR W (.slice p n cap) l) : n = l.length ∧ n ≤ cap ∧ n ≤ 1000000000 := by
  obtain ⟨ho, h0, p', cap', e, h1, h2⟩ := h
  injection e with e1 e2 e3
  subst e2; subst e3
  exact ⟨rfl, h1, h0⟩
theorem LimR.open_ {W : World} {v : Value} {l : List Nat} (h : LimR W v l) : ∃ p n cap, v = .slice p n cap ∧ n = l.length ∧ n ≤ cap ∧ n ≤ 1000000000 := by
  obtain ⟨ho, h0, p', cap', e, h1, h2⟩ := h
  exact ⟨_, _, _, e, rfl, h1, h0⟩
theorem LimR.cell {W : World} {p : Option Addr} {n cap : Nat} {l : List Nat} (h : LimR W (.slice p n cap) l) {i : Nat} (hi : i < l.length) : ∃ g off, p = some ⟨g, off, none⟩ ∧ g < W.heap.size ∧ W.cell? ⟨g, off + i, none⟩ = some (.int .i64 (l[i] : Int)) := by
  obtain ⟨ho, h0, p', cap', e, h1, h3⟩ := h
  injection e with e1 e2 e3
  subst e1
  exact h3 i hi
theorem LimR.ok {W : World} {v : Value} {l : List Nat} (h : LimR W v l) : okB 16777216 l := h.1
theorem LimR.block {W : World} {g cap : Nat} {t : TypeId} {l : List Nat} (ho : okB 16777216 l) {cs : Array Value} (hb : W.heap[g]? = some (.cells cs t (0, 0))) (hc : ∀ i (h : i < l.length), cs[i]? = some (.int .i64 (l[i] : Int))) (h1 : l.length ≤ cap) (h2 : l.length ≤ 1000000000) : LimR W (.slice (some ⟨g, 0, none⟩) l.length cap) l :=
  ⟨ho, h2, _, cap, rfl, h1, fun i hi => ⟨g, 0, rfl, (Array.getElem?_eq_some_iff.1 hb).1, by rw [Lib.cell_of_heap hb, Nat.zero_add]; exact hc i hi⟩⟩
/-- the cells of digits -/
def digC (kd : IntKind) (l : List Nat) : List Value := l.map fun x : Nat => Value.int kd (x : Int)
theorem LimR.own {W : World} {base : Nat} {e : TypeId} {v : Value} {l : List Nat} (h : W.ownsRow base e 1 v l.length (digC .i64 l)) (ho : okB 16777216 l) (hl : l.length ≤ 1000000000) : LimR W v l := by
  rcases h.2 with ⟨rfl, h0⟩ | ⟨g, cap, cur, rfl, hg, hgh, hnc, hcm, hcs, hct⟩
  · have : l = [] := List.eq_nil_of_length_eq_zero h0
    subst this
    exact LimR.nil_ W
  · refine LimR.block ho hgh (fun i hi => ?_) hnc hl
    have hx : (digC .i64 l)[i]? = some (.int .i64 (l[i] : Int)) := by simp [digC, hi]
    rw [← hct, List.getElem?_take] at hx
    split at hx
    · rw [← Array.getElem?_toList]; exact hx
    · cases hx
set_option maxHeartbeats 1000000 in
theorem rtrim_at (p : Option Addr) (n cap : Nat) (l : List Nat) (w : World) (hl : LimR w (.slice p n cap) l) :
    Calls Tryz.prog 49 #[.slice p n cap] w fun e w' => ∃ k, e = .returned (.slice p k cap) ∧ LimR w' (.slice p k cap) (trimL 16777216 l) ∧ w = w' := by
  obtain ⟨hn, hc, hcm⟩ := hl.len
  have HL := Lib.hid hl
  have HN := Lib.hid hn
  clear hl hn
  go_enter Tryz.func49, Tryz.ntmps49
  go_wp2_with fail
  go_loop [0] (fun s => ∃ k : Nat, k ≤ n ∧ s = .slice p k cap ∧ Hid (trimL 16777216 (l.take k) = trimL 16777216 l)) (fun s => slen s)
  case atStart => exact ⟨n, Nat.le_refl _, rfl, Lib.hid (by rw [HN.out, List.take_length])⟩
  case round =>
    obtain ⟨k, hk, rfl, HT⟩ := hrel
    rcases k with _ | j
    · go_wp2_with fail
      go_ret
      exact ⟨_, rfl, by rw [← HT.out, List.take_zero, trimL_self (by decide) (okB_nil _) nzL_nil]; exact HL.out.take hk, rfl⟩
    · have hj : j < l.length := by have := HN.out; omega
      obtain ⟨g, off, hp, hg, h1⟩ := HL.out.cell hj
      have HO := Lib.hid (HL.out.ok.get hj)
      obtain ⟨x, hx⟩ : ∃ x, l[j] = x := ⟨_, rfl⟩
      rw [hx] at h1 HO
      subst hp
      have HX := Lib.hid hx
      clear hx
      have hj2 : (j : Int) ≤ 1000000000 := by omega
      by_cases h0 : x = 0
      · subst h0
        have HS : Hid (trimL 16777216 (l.take j) = trimL 16777216 l) := Lib.hid (by
          rw [← HT.out, List.take_succ_eq_append_getElem hj, HX.out, trimL_zero])
        go_wp2_with fail
        go_round
        case rel => exact ⟨j, by omega, rfl, HS⟩
        case measure => simp [slen]
      · have HS : Hid (trimL 16777216 l = l.take (j + 1)) := Lib.hid (by
          rw [← HT.out]
          refine trimL_self (by decide) (HL.out.ok.take _) fun hne => ?_
          have e : l.take (j + 1) = l.take j ++ [x] := by rw [List.take_succ_eq_append_getElem hj, HX.out]
          simp only [e, List.getLast_append, List.isEmpty_cons]
          simpa using h0)
        have hx0 : ¬ ((x : Int) = 0) := by omega
        go_wp2_with fail
        go_ret
        exact ⟨_, rfl, by rw [HS.out]; exact HL.out.take hk, rfl⟩
theorem rtrim_any (v : Value) (l : List Nat) (w : World) (hl : LimR w v l) :
    Calls Tryz.prog 49 #[v] w fun e w' => ∃ v', e = .returned v' ∧ LimR w' v' (trimL 16777216 l) ∧ w = w' := by
  obtain ⟨p, n, cap, rfl, hn, hc, hcm⟩ := hl.open_
  exact (rtrim_at p n cap l w hl).mono fun e w' ⟨k, h1, h2, h3⟩ => ⟨_, h1, h2, h3⟩
end Go.Proofs.YtakbkbmjeanboaaGreatDoor
