/- Slices of digits in memory; trim of package nat. Each theorem names its conditions. -/
import Derived.Test.YtakbkbmjeanboaaGreatDoorProg
import Derived.Test.YtakbkbmjeanboaaGreatDoorNum
import Derived.Test.YtakbkbmjeanboaaGreatDoorHeap
import Derived.WalkKit
import Derived.WalkSpells
import Derived.WalkLawsBesides
import Derived.IntWalk
import Derived.Lib.Hide
namespace Go.Proofs.YtakbkbmjeanboaaGreatDoor
open Go.RowKit Go.Shelf
open Dgt
set_option linter.unusedVariables false

theorem cell_up {A W : World} {g k : Nat} (hb : Below A.heap.size A W) (h : g < A.heap.size) : W.cell? ⟨g, k, none⟩ = A.cell? ⟨g, k, none⟩ := World.cell?_of_block (hb.block g h)
theorem heap_up {A W : World} {g : Nat} {o : Obj} (hb : Below A.heap.size A W) (h : A.heap[g]? = some o) : W.heap[g]? = some o := (hb.block g (Array.getElem?_eq_some_iff.1 h).1).trans h
/-- v reads as a list of digits to the base B, in cells of kind kd -/
def LimK (kd : IntKind) (B : Nat) (W : World) (v : Value) (l : List Nat) : Prop :=
  okB B l ∧ ∃ p cap, v = .slice p l.length cap ∧ l.length ≤ cap ∧ cap ≤ 1000000000000 ∧ ∀ i (h : i < l.length), ∃ g off, p = some ⟨g, off, none⟩ ∧ g < W.heap.size ∧ W.cell? ⟨g, off + i, none⟩ = some (.int kd (l[i] : Int))
abbrev Lim (W : World) (v : Value) (l : List Nat) : Prop := LimK .u32 4294967296 W v l
theorem LimK.up {kd : IntKind} {B : Nat} {A W : World} {v : Value} {l : List Nat} (h : LimK kd B A v l) (hb : Below A.heap.size A W) : LimK kd B W v l := by
  obtain ⟨ho, p, cap, h1, h2, h3, h4⟩ := h
  refine ⟨ho, p, cap, h1, h2, h3, fun i hi => ?_⟩
  obtain ⟨g, off, e1, e2, e3⟩ := h4 i hi
  exact ⟨g, off, e1, Nat.lt_of_lt_of_le e2 hb.size, by rw [cell_up hb e2]; exact e3⟩
theorem LimK.nil_ (kd : IntKind) (B : Nat) (W : World) : LimK kd B W (.slice none 0 0) [] := ⟨okB_nil B, none, 0, rfl, Nat.le_refl _, by omega, fun i h => absurd h (by simp)⟩
/-- a block of its own -/
theorem LimK.block {kd : IntKind} {B : Nat} {W : World} {g cap : Nat} {t : TypeId} {l : List Nat} (ho : okB B l) {cs : Array Value} (hb : W.heap[g]? = some (.cells cs t (0, 0))) (hc : ∀ i (h : i < l.length), cs[i]? = some (.int kd (l[i] : Int))) (h1 : l.length ≤ cap) (h2 : cap ≤ 1000000000000) : LimK kd B W (.slice (some ⟨g, 0, none⟩) l.length cap) l :=
  ⟨ho, _, cap, rfl, h1, h2, fun i hi => ⟨g, 0, rfl, (Array.getElem?_eq_some_iff.1 hb).1, by rw [Lib.cell_of_heap hb, Nat.zero_add]; exact hc i hi⟩⟩
/-- the first ones -/
theorem LimK.take {kd : IntKind} {B : Nat} {W : World} {p : Option Addr} {n cap : Nat} {l : List Nat} (h : LimK kd B W (.slice p n cap) l) {k : Nat} (hk : k ≤ n) : LimK kd B W (.slice p k cap) (l.take k) := by
  obtain ⟨ho, p', cap', e, h1, h2, h3⟩ := h
  injection e with e1 e2 e3
  subst e1; subst e2; subst e3
  have hl : (l.take k).length = k := by rw [List.length_take, Nat.min_eq_left hk]
  refine ⟨ho.take k, p, cap, by rw [hl], by omega, h2, fun i hi => ?_⟩
  rw [hl] at hi
  obtain ⟨g, off, a, b, c⟩ := h3 i (by omega)
  exact ⟨g, off, a, b, by rw [List.getElem_take]; exact c⟩
theorem LimK.len {kd : IntKind} {B : Nat} {W : World} {p : Option Addr} {n cap : Nat} {l : List Nat} (h : LimK kd B W (.slice p n cap) l) : n = l.length ∧ n ≤ cap ∧ cap ≤ 1000000000000 := by
  obtain ⟨ho, p', cap', e, h1, h2, h3⟩ := h
  injection e with e1 e2 e3
  subst e2; subst e3
  exact ⟨rfl, h1, h2⟩
theorem LimK.open_ {kd : IntKind} {B : Nat} {W : World} {v : Value} {l : List Nat} (h : LimK kd B W v l) : ∃ p n cap, v = .slice p n cap ∧ n = l.length ∧ n ≤ cap ∧ cap ≤ 1000000000000 := by
  obtain ⟨ho, p', cap', e, h1, h2, h3⟩ := h
  exact ⟨_, _, _, e, rfl, h1, h2⟩
theorem LimK.cell {kd : IntKind} {B : Nat} {W : World} {p : Option Addr} {n cap : Nat} {l : List Nat} (h : LimK kd B W (.slice p n cap) l) {i : Nat} (hi : i < l.length) : ∃ g off, p = some ⟨g, off, none⟩ ∧ g < W.heap.size ∧ W.cell? ⟨g, off + i, none⟩ = some (.int kd (l[i] : Int)) := by
  obtain ⟨ho, p', cap', e, h1, h2, h3⟩ := h
  injection e with e1 e2 e3
  subst e1
  exact h3 i hi
theorem LimK.ok {kd : IntKind} {B : Nat} {W : World} {v : Value} {l : List Nat} (h : LimK kd B W v l) : okB B l := h.1
def slen : Value → Nat
  | .slice _ k _ => k
  | _ => 0
set_option maxHeartbeats 1000000 in
theorem trim_at (p : Option Addr) (n cap : Nat) (l : List Nat) (w : World) (hl : Lim w (.slice p n cap) l) :
    Calls Tryz.prog 64 #[.slice p n cap] w fun e w' => ∃ k, e = .returned (.slice p k cap) ∧ Lim w' (.slice p k cap) (trimL 4294967296 l) ∧ w = w' := by
  obtain ⟨hn, hc, hcm⟩ := hl.len
  have HL := Lib.hid hl
  have HN := Lib.hid hn
  clear hl hn
  go_enter Tryz.func64, Tryz.ntmps64
  go_wp2_with fail
  go_loop [0] (fun s => ∃ k : Nat, k ≤ n ∧ s = .slice p k cap ∧ Hid (trimL 4294967296 (l.take k) = trimL 4294967296 l)) (fun s => slen s)
  case atStart => exact ⟨n, Nat.le_refl _, rfl, Lib.hid (by rw [HN.out, List.take_length])⟩
  case round =>
    obtain ⟨k, hk, rfl, HT⟩ := hrel
    rcases k with _ | j
    · go_wp2_with fail
      go_ret
      exact ⟨_, rfl, by rw [← HT.out, List.take_zero, trimL_self (by decide) (okB_nil _) nzL_nil]; exact HL.out.take hk, rfl⟩
    · have hj : j < l.length := by have := HN.out; omega
      obtain ⟨g, off, hp, hg, h1⟩ := HL.out.cell hj
      have HO := Lib.hid (HL.out.ok.get hj)
      obtain ⟨x, hx⟩ : ∃ x, l[j] = x := ⟨_, rfl⟩
      rw [hx] at h1 HO
      subst hp
      have HX := Lib.hid hx
      clear hx
      have hj2 : (j : Int) ≤ 1000000000000 := by omega
      by_cases h0 : x = 0
      · subst h0
        have HS : Hid (trimL 4294967296 (l.take j) = trimL 4294967296 l) := Lib.hid (by
          rw [← HT.out, List.take_succ_eq_append_getElem hj, HX.out, trimL_zero])
        go_wp2_with fail
        go_round
        case rel => exact ⟨j, by omega, rfl, HS⟩
        case measure => simp [slen]
      · have HS : Hid (trimL 4294967296 l = l.take (j + 1)) := Lib.hid (by
          rw [← HT.out]
          refine trimL_self (by decide) (HL.out.ok.take _) fun hne => ?_
          have e : l.take (j + 1) = l.take j ++ [x] := by rw [List.take_succ_eq_append_getElem hj, HX.out]
          simp only [e, List.getLast_append, List.isEmpty_cons]
          simpa using h0)
        have hx0 : ¬ ((x : Int) = 0) := by omega
        go_wp2_with fail
        go_ret
        exact ⟨_, rfl, by rw [HS.out]; exact HL.out.take hk, rfl⟩
theorem trim_any (v : Value) (l : List Nat) (w : World) (hl : Lim w v l) :
    Calls Tryz.prog 64 #[v] w fun e w' => ∃ v', e = .returned v' ∧ Lim w' v' (trimL 4294967296 l) ∧ w = w' := by
  obtain ⟨p, n, cap, rfl, hn, hc, hcm⟩ := hl.open_
  exact (trim_at p n cap l w hl).mono fun e w' ⟨k, h1, h2, h3⟩ => ⟨_, h1, h2, h3⟩
end Go.Proofs.YtakbkbmjeanboaaGreatDoor
