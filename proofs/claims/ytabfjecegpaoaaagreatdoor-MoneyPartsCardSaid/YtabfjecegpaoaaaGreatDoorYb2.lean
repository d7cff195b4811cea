/- Contracts that the proofs of this seat share. Each theorem names its conditions. -/

import Derived.Test.YtabfjecegpaoaaaGreatDoorYb1
namespace Go.Proofs.YtabfjecegpaoaaaGreatDoor
open Go.RowKit Go.Shelf
open Dgt
set_option linter.unusedVariables false
theorem bytes_ext {a b : ByteArray} : a.toList = b.toList ↔ a = b := by
 rw [ByteArray.toList_eq, ByteArray.toList_eq]
 constructor
 ·intro h; cases a; cases b; simp at h; rw [h]
 ·intro h; rw [h]
theorem eql3 {x y z : Prop} [Decidable x] [Decidable y] [Decidable z] (w : World) :
  (if x then if y then if z then Result.ok (Next.value (Value.bool true)) w else Result.ok (Next.value (Value.bool false)) w else Result.ok (Next.value (Value.bool false)) w else Result.ok (Next.value (Value.bool false)) w) = Result.ok (Next.value (Value.bool (decide x && (decide y && decide z)))) w := by
 by_cases hx : x <;> by_cases hy : y <;> by_cases hz : z <;> simp [hx, hy, hz]
def sameR (neg : Bool) (n d : ByteArray) : Bool := ((low neg (numS n) (numS d)).neg == neg) && (decide (encS (low neg (numS n) (numS d)).num = n) && decide (encS (low neg (numS n) (numS d)).den = d))
theorem right_same (neg : Bool) (n d : ByteArray) : ((rightN d && decide (0 < numS d)) && rightN n && sameR neg n d) = rightR neg n d := by
 by_cases h1 : rightN d = true
 ·by_cases h2 : rightN n = true
  ·by_cases h3 : 0 < numS d
   ·have hd := rightN_eq h1; have hn := rightN_eq h2;unfold rightR sameR;rw [h1, h2];simp only [Bool.true_and, Bool.and_true, decide_eq_true h3];obtain ⟨a, ha⟩ : ∃ a, numS n = a := ⟨_, rfl⟩;obtain ⟨b, hb⟩ : ∃ b, numS d = b := ⟨_, rfl⟩;rw [ha] at hn ⊢; rw [hb] at hd h3 ⊢;have e1 : (encS (a / Nat.gcd a b) = n) ↔ (a / Nat.gcd a b = a) := by rw [← hn]; exact ⟨encS_inj, fun h => by rw [h]⟩
    have e2 : (encS (b / Nat.gcd a b) = d) ↔ (b / Nat.gcd a b = b) := by rw [← hd]; exact ⟨encS_inj, fun h => by rw [h]⟩
    have e3 : b / Nat.gcd a b = b ↔ Nat.gcd a b = 1 := by
     have hg : 0 < Nat.gcd a b := Nat.gcd_pos_of_pos_right a h3
     constructor
     ·intro h;rcases Nat.lt_or_ge 1 (Nat.gcd a b) with h4 | h4
      ·have := Nat.div_lt_self h3 h4; omega
      ·omega
     ·intro h; rw [h, Nat.div_one]
    simp only [low, e1, e2, e3]
    by_cases hg : Nat.gcd a b = 1
    ·simp only [hg, Nat.div_one, decide_true, Bool.and_true, Bool.true_and];cases neg <;> simp
    ·simp [hg]
   ·unfold rightR; simp [h3]
  ·unfold rightR; simp [h2]
 ·unfold rightR; simp [h1]
def ERR (bx : Nat) (neg : Bool) (n d : ByteArray) (B1 R B2 B3 B4 : Bool) (L : Rt) : Nat → Value
 | 0 => .func (.func 95) #[.agg #[.string ⟨#[]⟩]] #[]
 | 1 => .pointer (some ⟨bx, 2, none⟩)
 | 2 => .string d
 | 3 => .bool B1
 | 4 => .bool B1
 | 5 => (bif B1 then .pointer (some ⟨bx, 1, none⟩) else undef)
 | 6 => (bif B1 then .string n else undef)
 | 7 => (bif B1 then .bool R else undef)
 | 8 => .bool B2
 | 9 => .bool B2
 | 10 => (bif B2 then .pointer (some ⟨bx, 0, none⟩) else undef)
 | 11 => (bif B2 then .bool neg else undef)
 | 12 => (bif B2 then .pointer (some ⟨bx, 1, none⟩) else undef)
 | 13 => (bif B2 then .string n else undef)
 | 14 => (bif B2 then .pointer (some ⟨bx, 2, none⟩) else undef)
 | 15 => (bif B2 then .string d else undef)
 | 16 => (bif B2 then rtV L else undef)
 | 17 => (bif B2 then ratV neg n d else undef)
 | 18 => (bif B2 then .bool B3 else undef)
 | 19 => .bool B4
 | 20 => .bool B4
 | _ => undef
def SRR (bx : Nat) (neg : Bool) (n d : ByteArray) (B1 R B2 B3 B4 : Bool) (L : Rt) (ix : Nat) (v : Value) (w : World) : Prop :=
 match ix with
 | ix => v = ERR bx neg n d B1 R B2 B3 B4 L ix
theorem SRR_up (bx : Nat) (neg : Bool) (n d : ByteArray) (B1 R B2 B3 B4 : Bool) (L : Rt) (ix : Nat) (v : Value) (w w' : World) (hb : Below w.heap.size w w') (h : SRR bx neg n d B1 R B2 B3 B4 L ix v w) : SRR bx neg n d B1 R B2 B3 B4 L ix v w' := by
 exact h
set_option maxHeartbeats 4000000 in
set_option maxRecDepth 100000 in
theorem RatRight_any (neg : Bool) (n d : ByteArray) (w : World) (sn : n.size ≤ 10000000) (sd : d.size ≤ 10000000) :
  Calls Tryz.prog 58 #[ratV neg n d] w fun e w' => e = .returned (.bool (rightR neg n d)) ∧ Below w.heap.size w w' := by
 obtain ⟨L, hL⟩ : ∃ L, low neg (numS n) (numS d) = L := ⟨_, rfl⟩;obtain ⟨B1, hB1⟩ : ∃ b, (rightN d && decide (0 < numS d)) = b := ⟨_, rfl⟩;obtain ⟨R, hR⟩ : ∃ b, rightN n = b := ⟨_, rfl⟩;obtain ⟨B2, hB2⟩ : ∃ b, b = (B1 && R) := ⟨_, rfl⟩;obtain ⟨B3, hB3⟩ : ∃ b, sameR neg n d = b := ⟨_, rfl⟩;obtain ⟨B4, hB4⟩ : ∃ b, b = (B2 && B3) := ⟨_, rfl⟩;have HPOS := Lib.hid (fun w => positive_any d w (by omega)); have HRN := Lib.hid (fun w => Right_any n w (by omega));simp only [hB1] at HPOS; simp only [hR] at HRN;have HLOW : Hid (B2 = true → ∀ w, Calls Tryz.prog 97 #[.bool neg, .string n, .string d] w fun e w' => e = .returned (rtV L) ∧ Below w.heap.size w w') := Lib.hid fun h w => by
  rw [← hL];refine lowest_n neg n d _ _ w rfl rfl ?_ sn sd;rw [hB2, ← hB1] at h;simp only [Bool.and_eq_true, decide_eq_true_eq] at h;exact h.1.2
 have HEND : Hid (B4 = rightR neg n d) := Lib.hid (by rw [hB4, hB2, ← hB1, ← hR, ← hB3]; exact right_same neg n d);have HEQ : Hid ((decide (L.neg = neg) && (decide ((encS L.num).toList = n.toList) && decide ((encS L.den).toList = d.toList))) = B3) := Lib.hid (by
  rw [← hB3, ← hL]; unfold sameR;simp only [bytes_ext, Bool.beq_eq_decide_eq])
 have HB2 := Lib.hid hB2; have HB4 := Lib.hid hB4;rw [← HEND.out];clear hL hB1 hR hB2 hB3 hB4 sn sd;unfold ratV;go_enter Tryz.func58, Tryz.ntmps58;go_wp2_with fail;obtain ⟨w0, hw0⟩ : ∃ w0, w.alloc (.cells #[.bool neg, .string n, .string d] 26) = w0 := ⟨_, rfl⟩;obtain ⟨bx, hbx⟩ : ∃ b, w.heap.size = b := ⟨_, rfl⟩;have HB0 : Hid (Below w.heap.size w w0) := Lib.hid (by rw [← hw0]; exact (Below.refl _ w).alloc (Nat.le_refl _) _);have HX0 : Hid (w0.heap[bx]? = some (.cells #[.bool neg, .string n, .string d] 26 (0, 0))) := Lib.hid (by rw [← hw0, ← hbx]; exact heap_alloc_new w _);have HCX : Hid (∀ W', Below w0.heap.size w0 W' → W'.cell? ⟨bx, 0, none⟩ = some (.bool neg) ∧ W'.cell? ⟨bx, 1, none⟩ = some (.string n) ∧ W'.cell? ⟨bx, 2, none⟩ = some (.string d)) := Lib.hid fun W' h => (row_cells (heap_up h HX0.out)).1
 rw [hw0, hbx];clear hw0 hbx;refine wp_region_vals (w := w0) (by kernel_rfl) (SRR bx neg n d B1 R B2 B3 B4 L) (fun t => (decide (2 ≤ t) && decide (t < 3)) || (decide (6 ≤ t) && decide (t < 26))) (by kernel_rfl) (by kernel_rfl) (by kernel_rfl) (SRR_up bx neg n d B1 R B2 B3 B4 L) ?_ ?_
 ·intro i hi o listed a w hR K hK;have ho := hR.at_;have hi : i < 21 := hi;have hii : i = 0 ∨ i = 1 ∨ i = 2 ∨ i = 3 ∨ i = 4 ∨ i = 5 ∨ i = 6 ∨ i = 7 ∨ i = 8 ∨ i = 9 ∨ i = 10 ∨ i = 11 ∨ i = 12 ∨ i = 13 ∨ i = 14 ∨ i = 15 ∨ i = 16 ∨ i = 17 ∨ i = 18 ∨ i = 19 ∨ i = 20 := by omega
  rcases hii with rfl | rfl | rfl | rfl | rfl | rfl | rfl | rfl | rfl | rfl | rfl | rfl | rfl | rfl | rfl | rfl | rfl | rfl | rfl | rfl | rfl
  ·simp at ho;subst ho;have b3 : a.tmps.getD 3 undef = .func (.func 95) #[.agg #[.string ⟨#[]⟩]] #[] := hR.base 3 (by kernel_rfl);refine plain_step rfl rfl ?_;go_simp;exact hK _ _ rfl rB
  ·simp at ho;subst ho;have b1 : a.tmps.getD 1 undef = .pointer (some ⟨bx, 0, none⟩) := hR.base 1 (by kernel_rfl);refine plain_step rfl rfl ?_;go_simp;exact hK _ _ rfl rB
  ·simp at ho;subst ho;have e1 : a.tmps.getD 7 undef = .pointer (some ⟨bx, 2, none⟩) := hR.dep ⟨1, .data⟩ (by simp) rfl;obtain ⟨cx0, cx1, cx2⟩ := HCX.out w hR.below;refine plain_step rfl rfl ?_;go_simp;exact hK _ _ rfl rB
  ·simp at ho;subst ho;have e0 : a.tmps.getD 6 undef = .func (.func 95) #[.agg #[.string ⟨#[]⟩]] #[] := hR.dep ⟨0, .data⟩ (by simp) rfl;have e2 : a.tmps.getD 8 undef = .string d := hR.dep ⟨2, .data⟩ (by simp) rfl;refine plain_step rfl rfl ?_;go_simp;refine (HPOS.out w).mono ?_;rintro e w' ⟨rfl, hb⟩;exact hK _ _ (rfl) hb
  ·simp at ho;subst ho;have e3 : a.tmps.getD 9 undef = .bool B1 := hR.dep ⟨3, .data⟩ (by simp) rfl;refine plain_step rfl rfl ?_;go_simp;exact hK _ _ rfl rB
  ·simp at ho;subst ho;have e4 : a.tmps.getD 10 undef = .bool B1 := hR.dep ⟨4, .guard⟩ (by simp) rfl;have b1 : a.tmps.getD 1 undef = .pointer (some ⟨bx, 0, none⟩) := hR.base 1 (by kernel_rfl);cases B1
   ·refine guard_skip rfl rfl rfl (b := true) e4 (by decide) ?_;exact hK _ _ rfl rB
   ·refine guard_step rfl rfl rfl (b := true) e4 ?_;go_simp;exact hK _ _ rfl rB
  ·simp at ho;subst ho;have e5 : a.tmps.getD 11 undef = (bif B1 then .pointer (some ⟨bx, 1, none⟩) else undef) := hR.dep ⟨5, .data⟩ (by simp) rfl;have e4 : a.tmps.getD 10 undef = .bool B1 := hR.dep ⟨4, .guard⟩ (by simp) rfl;obtain ⟨cx0, cx1, cx2⟩ := HCX.out w hR.below;cases B1
   ·refine guard_skip rfl rfl rfl (b := true) e4 (by decide) ?_;exact hK _ _ rfl rB
   ·refine guard_step rfl rfl rfl (b := true) e4 ?_;go_simp;exact hK _ _ rfl rB
  ·simp at ho;subst ho;have e6 : a.tmps.getD 12 undef = (bif B1 then .string n else undef) := hR.dep ⟨6, .data⟩ (by simp) rfl;have e4 : a.tmps.getD 10 undef = .bool B1 := hR.dep ⟨4, .guard⟩ (by simp) rfl;cases B1
   ·refine guard_skip rfl rfl rfl (b := true) e4 (by decide) ?_;exact hK _ _ rfl rB
   ·refine guard_step rfl rfl rfl (b := true) e4 ?_;go_simp;refine (HRN.out w).mono ?_;rintro e w' ⟨rfl, rfl⟩;exact hK _ _ rfl rB
  ·simp at ho;subst ho;have e4 : a.tmps.getD 10 undef = .bool B1 := hR.dep ⟨4, .data⟩ (by simp) rfl;have e7 : a.tmps.getD 13 undef = (bif B1 then .bool R else undef) := hR.dep ⟨7, .data⟩ (by simp) rfl;cases B1
   ·refine plain_step rfl rfl ?_;go_simp;exact hK _ _ (by show Value.bool _ = Value.bool B2; rw [HB2.out]; rfl) rB
   ·refine plain_step rfl rfl ?_;go_simp;exact hK _ _ (by show Value.bool _ = Value.bool B2; rw [HB2.out]; rfl) rB
  ·simp at ho;subst ho;have e8 : a.tmps.getD 14 undef = .bool B2 := hR.dep ⟨8, .data⟩ (by simp) rfl;refine plain_step rfl rfl ?_;go_simp;exact hK _ _ rfl rB
  ·simp at ho;subst ho;have e9 : a.tmps.getD 15 undef = .bool B2 := hR.dep ⟨9, .guard⟩ (by simp) rfl;have b1 : a.tmps.getD 1 undef = .pointer (some ⟨bx, 0, none⟩) := hR.base 1 (by kernel_rfl);cases B2
   ·refine guard_skip rfl rfl rfl (b := true) e9 (by decide) ?_;exact hK _ _ rfl rB
   ·refine guard_step rfl rfl rfl (b := true) e9 ?_;go_simp;exact hK _ _ rfl rB
  ·simp at ho;subst ho;have e10 : a.tmps.getD 16 undef = (bif B2 then .pointer (some ⟨bx, 0, none⟩) else undef) := hR.dep ⟨10, .data⟩ (by simp) rfl;have e9 : a.tmps.getD 15 undef = .bool B2 := hR.dep ⟨9, .guard⟩ (by simp) rfl;obtain ⟨cx0, cx1, cx2⟩ := HCX.out w hR.below;cases B2
   ·refine guard_skip rfl rfl rfl (b := true) e9 (by decide) ?_;exact hK _ _ rfl rB
   ·refine guard_step rfl rfl rfl (b := true) e9 ?_;go_simp;exact hK _ _ rfl rB
  ·simp at ho;subst ho;have e9 : a.tmps.getD 15 undef = .bool B2 := hR.dep ⟨9, .guard⟩ (by simp) rfl;have b1 : a.tmps.getD 1 undef = .pointer (some ⟨bx, 0, none⟩) := hR.base 1 (by kernel_rfl);cases B2
   ·refine guard_skip rfl rfl rfl (b := true) e9 (by decide) ?_;exact hK _ _ rfl rB
   ·refine guard_step rfl rfl rfl (b := true) e9 ?_;go_simp;exact hK _ _ rfl rB
  ·simp at ho;subst ho;have e12 : a.tmps.getD 18 undef = (bif B2 then .pointer (some ⟨bx, 1, none⟩) else undef) := hR.dep ⟨12, .data⟩ (by simp) rfl;have e9 : a.tmps.getD 15 undef = .bool B2 := hR.dep ⟨9, .guard⟩ (by simp) rfl;obtain ⟨cx0, cx1, cx2⟩ := HCX.out w hR.below;cases B2
   ·refine guard_skip rfl rfl rfl (b := true) e9 (by decide) ?_;exact hK _ _ rfl rB
   ·refine guard_step rfl rfl rfl (b := true) e9 ?_;go_simp;exact hK _ _ rfl rB
  ·simp at ho;subst ho;have e9 : a.tmps.getD 15 undef = .bool B2 := hR.dep ⟨9, .guard⟩ (by simp) rfl;have b1 : a.tmps.getD 1 undef = .pointer (some ⟨bx, 0, none⟩) := hR.base 1 (by kernel_rfl);cases B2
   ·refine guard_skip rfl rfl rfl (b := true) e9 (by decide) ?_;exact hK _ _ rfl rB
   ·refine guard_step rfl rfl rfl (b := true) e9 ?_;go_simp;exact hK _ _ rfl rB
  ·simp at ho;subst ho;have e14 : a.tmps.getD 20 undef = (bif B2 then .pointer (some ⟨bx, 2, none⟩) else undef) := hR.dep ⟨14, .data⟩ (by simp) rfl;have e9 : a.tmps.getD 15 undef = .bool B2 := hR.dep ⟨9, .guard⟩ (by simp) rfl;obtain ⟨cx0, cx1, cx2⟩ := HCX.out w hR.below;cases B2
   ·refine guard_skip rfl rfl rfl (b := true) e9 (by decide) ?_;exact hK _ _ rfl rB
   ·refine guard_step rfl rfl rfl (b := true) e9 ?_;go_simp;exact hK _ _ rfl rB
  ·simp at ho;subst ho;have e11 : a.tmps.getD 17 undef = (bif B2 then .bool neg else undef) := hR.dep ⟨11, .data⟩ (by simp) rfl;have e13 : a.tmps.getD 19 undef = (bif B2 then .string n else undef) := hR.dep ⟨13, .data⟩ (by simp) rfl;have e15 : a.tmps.getD 21 undef = (bif B2 then .string d else undef) := hR.dep ⟨15, .data⟩ (by simp) rfl;have e9 : a.tmps.getD 15 undef = .bool B2 := hR.dep ⟨9, .guard⟩ (by simp) rfl;cases B2
   ·refine guard_skip rfl rfl rfl (b := true) e9 (by decide) ?_;exact hK _ _ rfl rB
   ·refine guard_step rfl rfl rfl (b := true) e9 ?_;go_simp;refine (HLOW.out rfl w).mono ?_;rintro e w' ⟨rfl, hb⟩;exact hK _ _ (rfl) hb
  ·simp at ho;subst ho;have e9 : a.tmps.getD 15 undef = .bool B2 := hR.dep ⟨9, .guard⟩ (by simp) rfl;have b1 : a.tmps.getD 1 undef = .pointer (some ⟨bx, 0, none⟩) := hR.base 1 (by kernel_rfl);obtain ⟨cx0, cx1, cx2⟩ := HCX.out w hR.below;cases B2
   ·refine guard_skip rfl rfl rfl (b := true) e9 (by decide) ?_;exact hK _ _ rfl rB
   ·refine guard_step rfl rfl rfl (b := true) e9 ?_;go_simp;exact hK _ _ rfl rB
  ·simp at ho;subst ho;have e16 : a.tmps.getD 22 undef = (bif B2 then rtV L else undef) := hR.dep ⟨16, .data⟩ (by simp) rfl;have e17 : a.tmps.getD 23 undef = (bif B2 then ratV neg n d else undef) := hR.dep ⟨17, .data⟩ (by simp) rfl;have e9 : a.tmps.getD 15 undef = .bool B2 := hR.dep ⟨9, .guard⟩ (by simp) rfl;have hq := HEQ.out;simp only [rtV, ratV] at e16 e17;cases B2
   ·refine guard_skip rfl rfl rfl (b := true) e9 (by decide) ?_;exact hK _ _ rfl rB
   ·refine guard_step rfl rfl rfl (b := true) e9 ?_;go_simp;rw [eql3, hq];go_simp;exact hK _ _ rfl rB
  ·simp at ho;subst ho;have e9 : a.tmps.getD 15 undef = .bool B2 := hR.dep ⟨9, .data⟩ (by simp) rfl;have e18 : a.tmps.getD 24 undef = (bif B2 then .bool B3 else undef) := hR.dep ⟨18, .data⟩ (by simp) rfl;cases B2
   ·refine plain_step rfl rfl ?_;go_simp;exact hK _ _ (by show Value.bool _ = Value.bool B4; rw [HB4.out]; rfl) rB
   ·refine plain_step rfl rfl ?_;go_simp;exact hK _ _ (by show Value.bool _ = Value.bool B4; rw [HB4.out]; rfl) rB
  ·simp at ho;subst ho;have e19 : a.tmps.getD 25 undef = .bool B4 := hR.dep ⟨19, .data⟩ (by simp) rfl;refine plain_step rfl rfl ?_;go_simp;exact hK _ _ rfl rB
 ·intro s w hS hb;have e20 : s 2 = .bool B4 := hS 20 (by decide);simp only [over, Nat.zero_add, Nat.reduceAdd, Nat.reduceLeDiff, Nat.reduceLT, decide_true, decide_false, Bool.and_true, Bool.and_false, Bool.or_false, Bool.or_true, cond_true, cond_false];have HBX := Lib.hid (HB0.out.trans (hb.mono HB0.out.size));rw [e20];clear hS hb e20;go_wp2_with fail;go_ret;exact ⟨rfl, HBX.out⟩
end Go.Proofs.YtabfjecegpaoaaaGreatDoor
