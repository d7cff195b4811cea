/- RatioCommon: plain parts, and appends of lists of numbers. Each theorem names its conditions. -/
import Derived.Test.YtancflpioigjbaaGreatDoorRaH
import Derived.Test.YtancflpioigjbaaGreatDoorRgu
namespace Go.Proofs.YtancflpioigjbaaGreatDoor
open Go.RowKit Go.Shelf
open Dgt
set_option linter.unusedVariables false

def absT (a : Rt) : Rt := ⟨false, a.num, a.den⟩
theorem absT_ok {a : Rt} (h : a.Ok) : (absT a).Ok := ⟨h.pos, h.one, fun e => by cases e⟩
def goodL (l : List Rt) : List Rw := l.map fun a => rawR (absT a)
theorem goodL_len (l : List Rt) : (goodL l).length = l.length := by simp [goodL]
theorem goodL_take {l : List Rt} {k : Nat} (h : k < l.length) : goodL (l.take (k + 1)) = goodL (l.take k) ++ [rawR (absT l[k])] := by
  unfold goodL; rw [List.take_succ_eq_append_getElem h, List.map_append]; rfl
theorem goodL_sz {l : List Rt} (h : ∀ a ∈ l, a.Ok ∧ Rz a 32) : SzL (goodL l) 1000 := by
  intro r hr
  obtain ⟨a, ha, rfl⟩ := List.mem_map.1 hr
  exact rawR_sz (a := absT a) (Rz.mono (a := absT a) (h a ha).2 (by decide))
theorem rawL_sz {l : List Rt} (h : ∀ a ∈ l, a.Ok ∧ Rz a 32) : SzL (l.map rawR) 1000 := by
  intro r hr
  obtain ⟨a, ha, rfl⟩ := List.mem_map.1 hr
  exact rawR_sz ((h a ha).2.mono (by decide))
theorem goodL_oks {l : List Rt} (h : ∀ a ∈ l, a.Ok ∧ Rz a 32) : oksL (goodL l) = true := by
  unfold oksL
  rw [List.all_eq_true]
  intro r hr
  obtain ⟨a, ha, rfl⟩ := List.mem_map.1 hr
  have := rawR_right (absT_ok (h a ha).1)
  rw [this]; rfl
theorem dvd_lcmL : ∀ (l : List Rw) (D : Nat), D ∣ lcmL l D
  | [], D => Nat.dvd_refl D
  | r :: l, D => Nat.dvd_trans (Nat.dvd_mul_right D _) (dvd_lcmL l _)
theorem den_dvd : ∀ (l : List Rw) (D : Nat) (r : Rw), r ∈ l → numS r.d ∣ lcmL l D
  | s :: l, D, r, h => by
    rcases List.mem_cons.1 h with rfl | h
    · refine Nat.dvd_trans ?_ (dvd_lcmL l _)
      show numS r.d ∣ D * (numS r.d / Nat.gcd D (numS r.d))
      obtain ⟨e, he⟩ := Nat.gcd_dvd_left D (numS r.d)
      have h2 : Nat.gcd D (numS r.d) * (numS r.d / Nat.gcd D (numS r.d)) = numS r.d := Nat.mul_div_cancel' (Nat.gcd_dvd_right D (numS r.d))
      refine ⟨e, ?_⟩
      calc D * (numS r.d / Nat.gcd D (numS r.d)) = Nat.gcd D (numS r.d) * e * (numS r.d / Nat.gcd D (numS r.d)) := by rw [← he]
        _ = Nat.gcd D (numS r.d) * (numS r.d / Nat.gcd D (numS r.d)) * e := by rw [Nat.mul_assoc, Nat.mul_comm e, ← Nat.mul_assoc]
        _ = numS r.d * e := by rw [h2]
    · exact den_dvd l _ r h
theorem whole_back {a : Rt} (ha : a.Ok) {D : Nat} (hD : 0 < D) (hd : a.den ∣ D) (hn : a.neg = false) : low false (a.num * (D / a.den)) D = a := by
  obtain ⟨e, rfl⟩ := hd
  have he : e ≠ 0 := fun h => by rw [h] at hD; simp at hD
  refine q_inj (low_ok _ hD) ha ?_
  rw [q_low _ hD, Nat.mul_div_cancel_left e ha.pos]
  unfold Rt.q iv
  rw [hn]
  simp only [Bool.false_eq_true, if_false]
  have := Rat.mkRat_mul_right (n := (a.num : Int)) (d := a.den) he
  rw [← this]; congr 1
/-- what Make hands back for the numerators -/
theorem make_good {a : Rt} (ha : a.Ok) {D : Nat} (hD : 0 < D) (hd : a.den ∣ D) : makeV false (encS (a.num * (D / a.den))) (encS D) = .tuple #[rtV (absT a), .bool true] := by
  unfold makeV
  rw [right_enc, right_enc, numS_encS, numS_encS]
  rw [show low false (a.num * (D / a.den)) D = absT a from whole_back (a := absT a) (absT_ok ha) hD hd rfl]
  simp [hD]
theorem own_slice {w : World} {B size : Nat} {e : TypeId} {v : Value} {n : Nat} {xs : List Value} (h : w.ownsRow B e size v n xs) : ∃ p cap, v = .slice p n cap ∧ n ≤ cap := by
  rcases h.2 with ⟨rfl, h0⟩ | ⟨g, cap, cur, rfl, _, _, hnc, _⟩
  · subst h0; exact ⟨none, 0, rfl, Nat.le_refl _⟩
  · exact ⟨_, cap, rfl, hnc⟩
theorem row_other {W : World} {b g k : Nat} {o : Obj} (h : W.heap[g]? = some o) (hne : b ≠ g) (u : Value) : (W.setCell ⟨b, k, none⟩ u).heap[g]? = some o := by
  simp [World.setCell, Array.getElem?_modify, hne, h]
/-- a row of another type stays where a cell is set -/
theorem own_set {w : World} {B size g k : Nat} {e t : TypeId} {v u : Value} {n : Nat} {xs : List Value} {cs : Array Value} {fr : Nat × Nat} (h : w.ownsRow B e size v n xs) (hg : w.heap[g]? = some (.cells cs t fr)) (hne : t ≠ e) :
    (w.setCell ⟨g, k, none⟩ u).ownsRow B e size v n xs := by
  refine ⟨h.1, ?_⟩
  rcases h.2 with h0 | ⟨g', cap, cur, e1, h1, h2, h3⟩
  · exact .inl h0
  · refine .inr ⟨g', cap, cur, e1, h1, row_other h2 (fun e => ?_) u, h3⟩
    subst e
    rw [hg] at h2
    injection h2 with h2
    injection h2 with _ h2 _
    exact hne h2
/-- a copy of a list, by an append to an empty row -/
theorem app_copy {w : World} {ws base g2 : Nat} {pg : Option Addr} {cg : Nat} {gl : List Rw} (h2 : w.heap[g2]? = some (.cells #[] 26 (0, 0))) (hg2 : ws ≤ g2)
    (hown : w.ownsRow base 26 3 (.slice pg gl.length cg) gl.length (cells3 gl)) (hl : gl.length ≤ 100) :
    ∃ v' w', (Builtin.append_ #[43, 43] 43 #[.slice (some ⟨g2, 0, none⟩) 0 0, .slice pg gl.length cg]).run Tryz.prog w = .ok v' w' ∧ w'.ownsRow ws 26 3 v' gl.length (cells3 gl) ∧ w.grownBy w' (some g2) := by
  obtain ⟨i0, hi, hz0, hz1, hz2⟩ := info_partsN infoRat
  have h0 : w.ownsRow ws 26 3 (.slice (some ⟨g2, 0, none⟩) 0 0) 0 [] := ⟨rfl, .inr ⟨g2, 0, #[], rfl, hg2, h2, Nat.le_refl _, by unfold maxLen; omega, rfl, rfl⟩⟩
  have hlt := (Array.getElem?_eq_some_iff.1 h2).1
  rcases hown.2 with ⟨e1, e2⟩ | ⟨g, cap, cur, e1, -, hgh, hnc, -⟩
  · injection e1 with e3 e4 e5
    subst e3
    have hgl : gl = [] := List.eq_nil_of_length_eq_zero e2
    subst hgl
    have e5 : cg = 0 := e5
    subst e5
    refine ⟨_, w, append_none w _ _ _ i0 Tryz.underlying43 hi _ 0 0 (Nat.le_refl _), h0, ⟨rfl, rfl, rfl, Nat.le_refl _, fun _ _ _ => rfl⟩⟩
  · injection e1 with e3 e4 e5
    subst e3
    obtain ⟨v', w', hr, r1, r2, -⟩ := run_append_own (P := Tryz.prog) w ws 43 43 26 i0 (.agg #[.bool false, .string ⟨#[]⟩, .string ⟨#[]⟩]) 3 40 Tryz.underlying43 hi hz0 hz1 hz2 rfl (by decide)
      _ 0 [] h0 ⟨g, 0, none⟩ gl.length cg (cells3 gl) hown.1 (hown.cells (g := g) rfl) (cells3_one gl) (by unfold maxLen; omega) (by omega) (by omega)
    rw [Nat.zero_add, List.nil_append] at r1
    exact ⟨v', w', hr, r1, r2⟩
/-- one number more -/
theorem app_one {w : World} {ws g6 : Nat} {v4 : Value} {gl : List Rw} {r : Rw} (h4 : w.ownsRow ws 26 3 v4 gl.length (cells3 gl)) (h6 : w.heap[g6]? = some (.cells #[.bool r.neg, .string r.n, .string r.d] 26 (0, 0)))
    (hws : ws ≤ w.heap.size) (hl : gl.length ≤ 100) :
    ∃ v' w', (Builtin.append_ #[43, 43] 43 #[v4, .slice (some ⟨g6, 0, none⟩) 1 1]).run Tryz.prog w = .ok v' w' ∧ w'.ownsRow ws 26 3 v' (gl.length + 1) (cells3 (gl ++ [r])) ∧ w.grownBy w' v4.ownBlock := by
  obtain ⟨i0, hi, hz0, hz1, hz2⟩ := info_partsN infoRat
  obtain ⟨v', w', hr, r1, r2, -⟩ := run_append_own (P := Tryz.prog) w ws 43 43 26 i0 (.agg #[.bool false, .string ⟨#[]⟩, .string ⟨#[]⟩]) 3 40 Tryz.underlying43 hi hz0 hz1 hz2 rfl (by decide)
    v4 gl.length (cells3 gl) h4 ⟨g6, 0, none⟩ 1 1 (cells3 [r]) rfl (fun j u hj => by
      have e : (⟨g6, 0, none⟩ : Addr).add j = ⟨g6, j, none⟩ := by cases j <;> simp [Addr.add]
      rw [e, Lib.cell_of_heap h6]
      simpa [cells3] using hj) (cells3_one [r]) (by unfold maxLen; omega) (by omega) hws
  rw [← cells3_append] at r1
  exact ⟨v', w', hr, r1, r2⟩
end Go.Proofs.YtancflpioigjbaaGreatDoor
