/- Lists of numbers: what they are; Same, lcm. Each theorem names its conditions. -/
import Derived.Test.YtancflpioigjbaaGreatDoorRcA
namespace Go.Proofs.YtancflpioigjbaaGreatDoor
open Go.RowKit Go.Shelf
open Dgt
set_option linter.unusedVariables false

/-- a raw number -/
structure Rw where
  neg : Bool
  n : ByteArray
  d : ByteArray
def Rw.val (r : Rw) : Rt := valQ r.neg r.n r.d
def Rw.right (r : Rw) : Bool := rightR r.neg r.n r.d
def rawR (a : Rt) : Rw := ⟨a.neg, encS a.num, encS a.den⟩
theorem rawR_val {a : Rt} (h : a.Ok) : (rawR a).val = a := valQ_of h
theorem rawR_right {a : Rt} (h : a.Ok) : (rawR a).right = true := rightR_of h
/-- both parts of each are at most k bytes -/
def SzL (l : List Rw) (k : Nat) : Prop := ∀ r ∈ l, r.n.size ≤ k ∧ r.d.size ≤ k
theorem Rw.isR {r : Rw} {k : Nat} (h : r.n.size ≤ k ∧ r.d.size ≤ k) : IsR (.agg #[.bool r.neg, .string r.n, .string r.d]) r.val k := ⟨_, _, _, rfl, h.1, h.2, rfl⟩
theorem rawR_sz {a : Rt} {k : Nat} (h : Rz a k) : (rawR a).n.size ≤ k ∧ (rawR a).d.size ≤ k := ⟨encS_size_lt h.1, encS_size_lt h.2⟩
/-- v is the list l of raw numbers -/
def LstR (W : World) (v : Value) (l : List Rw) : Prop :=
  (v = .slice none 0 0 ∧ l = []) ∨ ∃ g off cap, v = .slice (some ⟨g, off, none⟩) l.length cap ∧ g < W.heap.size ∧ l.length ≤ 1000 ∧
    ∀ i (h : i < l.length), W.cell? ⟨g, off + i * 3, none⟩ = some (.bool l[i].neg) ∧ W.cell? ⟨g, off + i * 3 + 1, none⟩ = some (.string l[i].n) ∧ W.cell? ⟨g, off + i * 3 + 2, none⟩ = some (.string l[i].d)
/-- v is the list l of natural numbers -/
def LstN (W : World) (v : Value) (l : List Nat) : Prop :=
  (v = .slice none 0 0 ∧ l = []) ∨ ∃ g off cap, v = .slice (some ⟨g, off, none⟩) l.length cap ∧ g < W.heap.size ∧ l.length ≤ 1000 ∧
    ∀ i (h : i < l.length), W.cell? ⟨g, off + i, none⟩ = some (.string (encS l[i]))
theorem LstR.up {A W : World} {v : Value} {l : List Rw} (h : LstR A v l) (hb : Below A.heap.size A W) : LstR W v l := by
  rcases h with h | ⟨g, off, cap, h1, h2, h3, h4⟩
  · exact .inl h
  · refine .inr ⟨g, off, cap, h1, Nat.lt_of_lt_of_le h2 hb.size, h3, fun i hi => ?_⟩
    rw [cell_up hb h2, cell_up hb h2, cell_up hb h2]
    exact h4 i hi
theorem LstN.up {A W : World} {v : Value} {l : List Nat} (h : LstN A v l) (hb : Below A.heap.size A W) : LstN W v l := by
  rcases h with h | ⟨g, off, cap, h1, h2, h3, h4⟩
  · exact .inl h
  · refine .inr ⟨g, off, cap, h1, Nat.lt_of_lt_of_le h2 hb.size, h3, fun i hi => ?_⟩
    rw [cell_up hb h2]
    exact h4 i hi
theorem LstR.open {W : World} {v : Value} {l : List Rw} (h : LstR W v l) : ∃ p cap, v = .slice p l.length cap ∧ l.length ≤ 1000 ∧ ∀ i (h : i < l.length), ∃ g off, p = some ⟨g, off, none⟩ ∧ g < W.heap.size ∧
    W.cell? ⟨g, off + i * 3, none⟩ = some (.bool l[i].neg) ∧ W.cell? ⟨g, off + i * 3 + 1, none⟩ = some (.string l[i].n) ∧ W.cell? ⟨g, off + i * 3 + 2, none⟩ = some (.string l[i].d) := by
  rcases h with ⟨rfl, rfl⟩ | ⟨g, off, cap, h1, h2, h3, h4⟩
  · exact ⟨none, 0, rfl, by simp, fun i h => absurd h (by simp)⟩
  · exact ⟨some ⟨g, off, none⟩, cap, h1, h3, fun i hi => ⟨g, off, rfl, h2, h4 i hi⟩⟩
theorem LstN.open {W : World} {v : Value} {l : List Nat} (h : LstN W v l) : ∃ p cap, v = .slice p l.length cap ∧ l.length ≤ 1000 ∧ ∀ i (h : i < l.length), ∃ g off, p = some ⟨g, off, none⟩ ∧ g < W.heap.size ∧
    W.cell? ⟨g, off + i, none⟩ = some (.string (encS l[i])) := by
  rcases h with ⟨rfl, rfl⟩ | ⟨g, off, cap, h1, h2, h3, h4⟩
  · exact ⟨none, 0, rfl, by simp, fun i h => absurd h (by simp)⟩
  · exact ⟨some ⟨g, off, none⟩, cap, h1, h3, fun i hi => ⟨g, off, rfl, h2, h4 i hi⟩⟩
theorem take_ext {la lb : List Nat} {k : Nat} (h : la.take k = lb.take k) (h1 : k < la.length) (h2 : k < lb.length) (e : la[k] = lb[k]) : la.take (k + 1) = lb.take (k + 1) := by
  rw [List.take_succ_eq_append_getElem h1, List.take_succ_eq_append_getElem h2, h, e]
set_option maxHeartbeats 1000000 in
theorem Same_any (la lb : List Nat) (va vb : Value) (wq : World) (ha : LstN wq va la) (hb : LstN wq vb lb) :
    Calls Tryz.prog 26 #[va, vb] wq fun e w' => e = .returned (.bool (decide (la = lb))) ∧ Below wq.heap.size wq w' := by
  obtain ⟨p, ca, rfl, hla, hca⟩ := ha.open
  obtain ⟨q, cb, rfl, hlb, hcb⟩ := hb.open
  have HA := Lib.hid hca; have HB := Lib.hid hcb
  clear hca hcb ha hb
  by_cases hlen : la.length = lb.length
  · rw [← hlen]
    have HLEN := Lib.hid hlen
    clear hlen hlb
    go_enter Tryz.func26, Tryz.ntmps26
    go_wp2_with fail
    go_loopw [5] (fun i wr => ∃ k : Nat, k ≤ la.length ∧ i = .int .i64 (k : Int) ∧ Hid (la.take k = lb.take k) ∧ Hid (Below wq.heap.size wq wr)) (fun i _ => la.length - (intOf i).toNat)
    case atStart => exact ⟨0, by omega, rfl, Lib.hid rfl, Lib.hid (Below.refl _ _)⟩
    case round =>
      obtain ⟨k, hk, rfl, HT, HBW⟩ := hrel
      by_cases hlt : k < la.length
      · have hlt' : (k : Int) < (la.length : Int) := by omega
        have hlb' : k < lb.length := by rw [← HLEN.out]; exact hlt
        obtain ⟨g, off, rfl, hg, c1⟩ := HA.out k hlt
        obtain ⟨g2, off2, rfl, hg2, c2⟩ := HB.out k hlb'
        have d1 : wr.cell? ⟨g, off + k, none⟩ = some (.string (encS la[k])) := by rw [cell_up HBW.out hg]; exact c1
        have d2 : wr.cell? ⟨g2, off2 + k, none⟩ = some (.string (encS lb[k])) := by rw [cell_up HBW.out hg2]; exact c2
        clear c1 c2
        obtain ⟨x, hx⟩ : ∃ x, la[k] = x := ⟨_, rfl⟩
        obtain ⟨y, hy⟩ : ∃ y, lb[k] = y := ⟨_, rfl⟩
        rw [hx] at d1; rw [hy] at d2
        have HX := Lib.hid hx; have HY := Lib.hid hy
        clear hx hy
        obtain ⟨wo, hwo⟩ : ∃ wo, wo = wr := ⟨_, rfl⟩
        subst hwo
        by_cases hxy : x = y
        · subst hxy
          have HT2 := Lib.hid (take_ext HT.out hlt hlb' (by rw [HX.out, HY.out]))
          clear HX HY hlb'
          go_wp2_with (go_quiet (fail))
          go_roundw
          case rel => exact ⟨k + 1, by omega, by go_num, HT2, Lib.hid (by first | exact HBW.out | exact below_drewN HBW.out _)⟩
          case measure => simp [intOf]; omega
        · have HNE : Hid (decide (la = lb) = false) := Lib.hid (decide_eq_false (fun h => hxy (by rw [← HX.out, ← HY.out]; subst h; rfl)))
          obtain ⟨X, hX⟩ : ∃ X, encS x = X := ⟨_, rfl⟩
          obtain ⟨Y, hY⟩ : ∃ Y, encS y = Y := ⟨_, rfl⟩
          have hn : ¬ X.toList = Y.toList := fun h => hxy (encS_inj (by rw [hX, hY]; exact bytes_ext.1 h))
          have hn2 : (X.toList == Y.toList) = false := by simpa using hn
          rw [hX] at d1; rw [hY] at d2
          clear hxy hX hY HX HY hlb'
          go_wp2_with (go_quiet (fail))
          go_ret
          exact ⟨by rw [HNE.out]; rfl, by first | exact HBW.out | exact below_drewN HBW.out _⟩
      · have hge : (la.length : Int) ≤ (k : Int) := by omega
        have HE : Hid (decide (la = lb) = true) := Lib.hid (decide_eq_true (by have := HT.out; rwa [List.take_of_length_le (by omega), List.take_of_length_le (by have := HLEN.out; omega)] at this))
        go_wp2_with fail
        go_ret
        exact ⟨by rw [HE.out]; rfl, HBW.out⟩
  · have hne : ¬ (la.length : Int) = (lb.length : Int) := by omega
    have hne2 : ((la.length : Int) != (lb.length : Int)) = true := by simpa using hne
    have HE : Hid (decide (la = lb) = false) := Lib.hid (decide_eq_false (fun h => hlen (by rw [h])))
    clear hlen
    go_enter Tryz.func26, Tryz.ntmps26
    go_wp2_with fail
    go_ret
    exact ⟨by rw [HE.out]; rfl, Below.refl _ _⟩
/-- the least common multiple, with the denominator of one more -/
def lcmR (D : Nat) (a : Rt) : Nat := D * (a.den / Nat.gcd D a.den)
def ELC (bx D G Q R : Nat) (d : ByteArray) : Nat → Value
  | 0 => .pointer (some ⟨bx, 2, none⟩)
  | 1 => .string d
  | 2 => .string (encS D)
  | 3 => .pointer (some ⟨bx, 2, none⟩)
  | 4 => .string d
  | 5 => .string (encS G)
  | 6 => .tuple #[.string (encS Q), .string (encS R), .bool true]
  | 7 => .tuple #[.string (encS Q), .string (encS R), .bool true]
  | 8 => .string (encS Q)
  | 9 => .string (encS R)
  | 10 => .bool true
  | 11 => .string (encS Q)
  | 12 => .string (encS R)
  | 13 => .bool true
  | _ => undef
def SLC (bx D G Q R : Nat) (d : ByteArray) (ix : Nat) (v : Value) (w : World) : Prop :=
  match ix with
  | ix => v = ELC bx D G Q R d ix
theorem SLC_up (bx D G Q R : Nat) (d : ByteArray) (ix : Nat) (v : Value) (w w' : World) (hb : Below w.heap.size w w') (h : SLC bx D G Q R d ix v w) : SLC bx D G Q R d ix v w' := by
  exact h
set_option maxHeartbeats 1000000 in
set_option maxRecDepth 100000 in
theorem lcm_any (D : Nat) (neg : Bool) (n d : ByteArray) (wq : World) (d0 : 0 < numS d) (hD : Sz D 100000) (hd : d.size ≤ 100000) :
    Calls Tryz.prog 65 #[.string (encS D), .agg #[.bool neg, .string n, .string d]] wq fun e w' => e = .returned (.string (encS (D * (numS d / Nat.gcd D (numS d))))) ∧ Below wq.heap.size wq w' := by
  have hg0 : 0 < Nat.gcd D (numS d) := Nat.gcd_pos_of_pos_right _ d0
  have hds : Sz (numS d) 100000 := (Sz.num d).mono hd
  have HG := Lib.hid (fun w => Gcd_n (numS_encS D) (rfl : numS d = numS d) (Nat.le_trans (encS_size_lt hD) (by decide)) (Nat.le_trans hd (by decide)) w)
  have hgs : Sz (Nat.gcd D (numS d)) 100000 := Nat.lt_of_le_of_lt (Nat.le_of_dvd d0 (Nat.gcd_dvd_right _ _)) hds
  have HQ := Lib.hid (fun w => Quo_n (rfl : numS d = numS d) (numS_encS (Nat.gcd D (numS d))) (Nat.le_trans hd (by decide)) (Nat.le_trans (encS_size_lt hgs) (by decide)) w)
  have HM := Lib.hid (fun w => Mul_n (numS_encS D) (numS_encS (numS d / Nat.gcd D (numS d))) (Nat.le_trans (encS_size_lt hD) (by decide)) (Nat.le_trans (encS_size_lt (hds.div _)) (by decide)) w)
  simp only [decide_eq_true hg0] at HQ
  obtain ⟨G, hG⟩ : ∃ G, Nat.gcd D (numS d) = G := ⟨_, rfl⟩
  rw [hG] at HG HQ HM ⊢
  obtain ⟨Q, hQ⟩ : ∃ Q, numS d / G = Q := ⟨_, rfl⟩
  obtain ⟨R, hR⟩ : ∃ R, remS (numS d) G = R := ⟨_, rfl⟩
  rw [hQ] at HQ HM ⊢
  rw [hR] at HQ
  clear hg0 hds hgs hG hQ hR d0 hD hd
  have HX := Lib.hid (heap_alloc_new wq (.cells #[.bool neg, .string n, .string d] 26))
  have HB0 := Lib.hid ((Below.refl wq.heap.size wq).alloc (Nat.le_refl _) (.cells #[.bool neg, .string n, .string d] 26))
  go_enter Tryz.func65, Tryz.ntmps65
  go_wp2_with fail
  obtain ⟨W0, hW0⟩ : ∃ W0, wq.alloc (.cells #[.bool neg, .string n, .string d] 26) = W0 := ⟨_, rfl⟩
  rw [hW0] at HX HB0 ⊢
  obtain ⟨bx, hbx⟩ : ∃ b, wq.heap.size = b := ⟨_, rfl⟩
  rw [hbx] at HX ⊢
  clear hW0
  refine wp_region_vals (w := W0) (by kernel_rfl) (SLC bx D G Q R d) (fun t => (decide (5 ≤ t) && decide (t < 19))) (by kernel_rfl) (by kernel_rfl) (by kernel_rfl) (SLC_up bx D G Q R d) ?_ ?_
  · intro i hi o listed a w hR K hK
    have ho := hR.at_
    have hi : i < 14 := hi
    have hii : i = 0 ∨ i = 1 ∨ i = 2 ∨ i = 3 ∨ i = 4 ∨ i = 5 ∨ i = 6 ∨ i = 7 ∨ i = 8 ∨ i = 9 ∨ i = 10 ∨ i = 11 ∨ i = 12 ∨ i = 13 := by omega
    rcases hii with rfl | rfl | rfl | rfl | rfl | rfl | rfl | rfl | rfl | rfl | rfl | rfl | rfl | rfl
    · simp at ho
      subst ho
      have b3 : a.tmps.getD 3 undef = .pointer (some ⟨bx, 0, none⟩) := hR.base 3 (by kernel_rfl)
      refine plain_step rfl rfl ?_
      go_simp
      exact hK _ _ (rfl) (Below.refl _ _)
    · simp at ho
      subst ho
      have e0 : a.tmps.getD 9 undef = .pointer (some ⟨bx, 2, none⟩) := hR.dep ⟨0, .data⟩ (by simp) rfl
      obtain ⟨⟨cx0, cx1, cx2⟩, -⟩ := row_cells (heap_up hR.below HX.out)
      refine plain_step rfl rfl ?_
      go_simp
      exact hK _ _ (rfl) (Below.refl _ _)
    · simp at ho
      subst ho
      have b0 : a.tmps.getD 0 undef = .string (encS D) := hR.base 0 (by kernel_rfl)
      refine plain_step rfl rfl ?_
      go_simp
      exact hK _ _ (rfl) (Below.refl _ _)
    · simp at ho
      subst ho
      have b3 : a.tmps.getD 3 undef = .pointer (some ⟨bx, 0, none⟩) := hR.base 3 (by kernel_rfl)
      refine plain_step rfl rfl ?_
      go_simp
      exact hK _ _ (rfl) (Below.refl _ _)
    · simp at ho
      subst ho
      have e3 : a.tmps.getD 12 undef = .pointer (some ⟨bx, 2, none⟩) := hR.dep ⟨3, .data⟩ (by simp) rfl
      obtain ⟨⟨cx0, cx1, cx2⟩, -⟩ := row_cells (heap_up hR.below HX.out)
      refine plain_step rfl rfl ?_
      go_simp
      exact hK _ _ (rfl) (Below.refl _ _)
    · simp at ho
      subst ho
      have e2 : a.tmps.getD 11 undef = .string (encS D) := hR.dep ⟨2, .data⟩ (by simp) rfl
      have e4 : a.tmps.getD 13 undef = .string d := hR.dep ⟨4, .data⟩ (by simp) rfl
      refine plain_step rfl rfl ?_
      go_simp
      refine (HG.out w).mono ?_
      rintro e w' ⟨rfl, hb⟩
      exact hK _ _ (rfl) hb
    · simp at ho
      subst ho
      have e1 : a.tmps.getD 10 undef = .string d := hR.dep ⟨1, .data⟩ (by simp) rfl
      have e5 : a.tmps.getD 14 undef = .string (encS G) := hR.dep ⟨5, .data⟩ (by simp) rfl
      refine plain_step rfl rfl ?_
      go_simp
      refine (HQ.out w).mono ?_
      rintro e w' ⟨rfl, hb⟩
      exact hK _ _ (rfl) hb
    · simp at ho
      subst ho
      have e6 : a.tmps.getD 15 undef = .tuple #[.string (encS Q), .string (encS R), .bool true] := hR.dep ⟨6, .data⟩ (by simp) rfl
      refine plain_step rfl rfl ?_
      go_simp
      exact hK _ _ (rfl) (Below.refl _ _)
    · simp at ho
      subst ho
      have e7 : a.tmps.getD 8 undef = .tuple #[.string (encS Q), .string (encS R), .bool true] := hR.dep ⟨7, .data⟩ (by simp) rfl
      refine plain_step rfl rfl ?_
      go_simp
      exact hK _ _ (rfl) (Below.refl _ _)
    · simp at ho
      subst ho
      have e7 : a.tmps.getD 8 undef = .tuple #[.string (encS Q), .string (encS R), .bool true] := hR.dep ⟨7, .data⟩ (by simp) rfl
      refine plain_step rfl rfl ?_
      go_simp
      exact hK _ _ (rfl) (Below.refl _ _)
    · simp at ho
      subst ho
      have e7 : a.tmps.getD 8 undef = .tuple #[.string (encS Q), .string (encS R), .bool true] := hR.dep ⟨7, .data⟩ (by simp) rfl
      refine plain_step rfl rfl ?_
      go_simp
      exact hK _ _ (rfl) (Below.refl _ _)
    · simp at ho
      subst ho
      have e8 : a.tmps.getD 16 undef = .string (encS Q) := hR.dep ⟨8, .data⟩ (by simp) rfl
      refine plain_step rfl rfl ?_
      go_simp
      exact hK _ _ (rfl) (Below.refl _ _)
    · simp at ho
      subst ho
      have e9 : a.tmps.getD 17 undef = .string (encS R) := hR.dep ⟨9, .data⟩ (by simp) rfl
      refine plain_step rfl rfl ?_
      go_simp
      exact hK _ _ (rfl) (Below.refl _ _)
    · simp at ho
      subst ho
      have e10 : a.tmps.getD 18 undef = .bool true := hR.dep ⟨10, .data⟩ (by simp) rfl
      refine plain_step rfl rfl ?_
      go_simp
      exact hK _ _ (rfl) (Below.refl _ _)
  · intro s w hS hb
    have e11 : s 5 = .string (encS Q) := hS 11 (by decide)
    simp only [over, Nat.zero_add, Nat.reduceAdd, Nat.reduceLeDiff, Nat.reduceLT, decide_true, decide_false, Bool.and_true, Bool.and_false, cond_true, cond_false]
    rw [e11]
    have HB1 := Lib.hid (HB0.out.trans (hb.mono HB0.out.size))
    clear hS hb
    go_wp2_with fail
    refine (HM.out _).mono ?_
    rintro e w1 ⟨rfl, hb⟩
    have HB2 := Lib.hid (HB1.out.trans (hb.mono HB1.out.size))
    clear hb
    go_wp2_with fail
    go_ret
    have hbf := HB2.out; rw [hbx] at hbf; first | exact ⟨rfl, HB2.out⟩ | exact ⟨rfl, hbf⟩
end Go.Proofs.YtancflpioigjbaaGreatDoor
