/- Contracts that the proofs of this seat share. Each theorem names its conditions. -/

import Derived.Test.YtabfjecegpaoaaaGreatDoorYb7
import Derived.Test.YtabfjecegpaoaaaGreatDoorYa9
namespace Go.Proofs.YtabfjecegpaoaaaGreatDoor
open Go.RowKit Go.Shelf
open Dgt
set_option linter.unusedVariables false
theorem below_zrow (w : World) {w1 : World} (h : Below (w.alloc (.cells #[.bool false, .string ⟨#[]⟩, .string ⟨#[]⟩] 26)).heap.size (w.alloc (.cells #[.bool false, .string ⟨#[]⟩, .string ⟨#[]⟩] 26)) w1) : Below w.heap.size w w1 :=
 ((Below.refl w.heap.size w).alloc (Nat.le_refl _) _).trans (h.mono (by simp))
theorem sz_one : Sz 1 1 := by unfold Sz; decide
set_option maxHeartbeats 1000000 in
set_option maxRecDepth 100000 in
theorem rRatOf_any (n : Int) (wq : World) (h1 : -9223372036854775808 ≤ n) (h2 : n ≤ 9223372036854775807) :
  Calls Tryz.prog 17 #[.int .i64 n] wq fun e w' => e = .returned (rtV (ofR n)) ∧ Below wq.heap.size wq w' := by
 have HO1 := Lib.hid (fun w => rOf_any 1 w (by decide));have HXZ := Lib.hid (zeroR_row wq);have HB0 := Lib.hid (below_zrow wq rB)
 by_cases hn : n < 0
 ·obtain ⟨m, hm⟩ : ∃ m : Nat, -(n + 1) = (m : Int) := ⟨(-(n + 1)).toNat, by omega⟩;have q5 : wrap64 (-(n + 1)) = (m : Int) := by unfold wrap64; omega
  have HO := Lib.hid (fun w => rOf_any (m : Int) w (by omega));simp only [Int.toNat_natCast] at HO;have hmz : Sz m 8 := Nat.lt_of_lt_of_le (show m < 9223372036854775808 by omega) (by decide);have HA := Lib.hid (fun w => rAdd_any (encS m) (encS 1) w (Nat.le_trans (encS_size_lt hmz) (by decide)) (Nat.le_trans (encS_size_lt sz_one) (by decide)));simp only [numS_encS] at HA;have HE : Hid (ofR n = ⟨true, m + 1, 1⟩) := Lib.hid (by unfold ofR; simp [hn]; omega);rw [HE.out];have q3 : ¬ (0 : Int) ≤ n := by omega
  have q6 : IntKind.i64.wrap (n + 1) = n + 1 := IntWalk.i64_in _ (by omega);clear hm hmz h1 h2;go_enter Tryz.func17, Tryz.ntmps17;go_wp2_with fail;refine (HO.out _).mono ?_;rintro e w1 ⟨rfl, hb⟩;have HXZ := uH hb HXZ; have HB0 := Lib.hid (HB0.out.trans (hb.mono HB0.out.size));clear hb;go_wp2_with fail;refine (HO1.out _).mono ?_;rintro e w2 ⟨rfl, hb⟩;rw [show (1 : Int).toNat = 1 from rfl];have HXZ := uH hb HXZ; have HB0 := Lib.hid (HB0.out.trans (hb.mono HB0.out.size));clear hb;go_wp2_with fail;refine (HA.out _).mono ?_;rintro e w3 ⟨rfl, hb⟩;have HXZ := uH hb HXZ; have HB0 := Lib.hid (HB0.out.trans (hb.mono HB0.out.size));clear hb;go_wp2_with fail;refine (HO1.out _).mono ?_;rintro e w4 ⟨rfl, hb⟩;rw [show (1 : Int).toNat = 1 from rfl];have HXZ := uH hb HXZ; have HB0 := Lib.hid (HB0.out.trans (hb.mono HB0.out.size));clear hb;obtain ⟨⟨c0, c1, c2⟩, hf⟩ := row_cells HXZ.out
  have hf0 := hf 0; have hf1 := hf 1; have hf2 := hf 2;clear hf;go_wp2_with fail;refine bodyPost_ret (results_cell_row rfl _ _ wq.heap.size 26 _ (0, 0) _ rfl (row_set HXZ.out _ _ _) Tryz.underlying26 rfl (by kernel_rfl)) rfl ?_;exact ⟨rfl, below_row HB0.out (Nat.le_refl _) _ _ _⟩
 ·obtain ⟨m, rfl⟩ : ∃ m : Nat, n = (m : Int) := ⟨n.toNat, by omega⟩;have HO := Lib.hid (fun w => rOf_any (m : Int) w (by omega));simp only [Int.toNat_natCast] at HO;have HE : Hid (ofR (m : Int) = ⟨false, m, 1⟩) := Lib.hid (by unfold ofR; simp);rw [HE.out];have q3 : (0 : Int) ≤ (m : Int) := by omega
  clear h1 h2;go_enter Tryz.func17, Tryz.ntmps17;go_wp2_with fail;refine (HO.out _).mono ?_;rintro e w1 ⟨rfl, hb⟩;have HXZ := uH hb HXZ; have HB0 := Lib.hid (HB0.out.trans (hb.mono HB0.out.size));clear hb;go_wp2_with fail;refine (HO1.out _).mono ?_;rintro e w2 ⟨rfl, hb⟩;rw [show (1 : Int).toNat = 1 from rfl];have HXZ := uH hb HXZ; have HB0 := Lib.hid (HB0.out.trans (hb.mono HB0.out.size));clear hb;obtain ⟨⟨c0, c1, c2⟩, hf⟩ := row_cells HXZ.out;have hf0 := hf 0; have hf1 := hf 1; have hf2 := hf 2;clear hf;go_wp2_with fail;refine bodyPost_ret (results_cell_row rfl _ _ wq.heap.size 26 _ (0, 0) _ rfl (row_set HXZ.out _ _ _) Tryz.underlying26 rfl (by kernel_rfl)) rfl ?_;exact ⟨rfl, below_row HB0.out (Nat.le_refl _) _ _ _⟩
theorem enc_nil {m : Nat} (h : m = 0) : (encS m).toList = [] := List.isEmpty_iff.1 (by rw [enc_empty]; simp [h])
theorem enc_not_nil {m : Nat} (h : m ≠ 0) : ¬ (encS m).toList = [] := fun e => by
 have := enc_some h;rw [e] at this; cases this
set_option maxHeartbeats 1000000 in
set_option maxRecDepth 100000 in
theorem rlowest_n (neg : Bool) (n d : Nat) (wq : World) (d0 : 0 < d) (sn : Sz n 1000000) (sd : Sz d 1000000) :
  Calls Tryz.prog 43 #[.bool neg, .string (encS n), .string (encS d)] wq fun e w' => e = .returned (rtV (low neg n d)) ∧ Below wq.heap.size wq w' := by
 have HXZ := Lib.hid (zeroR_row wq);have HB0 := Lib.hid (below_zrow wq rB)
 by_cases hn : n = 0
 ·subst hn;have HO1 := Lib.hid (fun w => rOf_any 1 w (by decide));rw [low_zero neg d0];have q := enc_nil (m := 0) rfl;have q2 := encS_zero;clear d0 sn sd;go_enter Tryz.func43, Tryz.ntmps43;go_wp2_with fail;refine (HO1.out _).mono ?_;rintro e w1 ⟨rfl, hb⟩;rw [show (1 : Int).toNat = 1 from rfl];have HXZ := uH hb HXZ; have HB0 := Lib.hid (HB0.out.trans (hb.mono HB0.out.size));clear hb;obtain ⟨⟨c0, c1, c2⟩, hf⟩ := row_cells HXZ.out;have hf0 := hf 0; have hf1 := hf 1; have hf2 := hf 2;clear hf;go_wp2_with fail;refine bodyPost_ret (results_cell_row rfl _ _ wq.heap.size 26 _ (0, 0) _ rfl (row_set HXZ.out _ _ _) Tryz.underlying26 rfl (by kernel_rfl)) rfl ?_;refine ⟨?_, below_row HB0.out (Nat.le_refl _) _ _ _⟩;simp [rtV, zeroR, encS_zero]
 ·obtain ⟨g, hg⟩ : ∃ g, Nat.gcd n d = g := ⟨_, rfl⟩;have hgd : g ≤ d := by rw [← hg]; exact Nat.gcd_le_right _ d0
  have hg0 : 0 < g := by rw [← hg]; exact Nat.gcd_pos_of_pos_right n d0
  have HG := Lib.hid (fun w => rGcd_any (encS n) (encS d) w (encS_size_lt sn) (encS_size_lt sd));have HQ := Lib.hid (fun w => rQuo_any (encS n) (encS g) w (encS_size_lt sn) (encS_size_lt (sd.le hgd)));have HQ2 := Lib.hid (fun w => rQuo_any (encS d) (encS g) w (encS_size_lt sd) (encS_size_lt (sd.le hgd)));simp only [numS_encS, hg] at HG HQ HQ2;have HL : Hid (low neg n d = ⟨neg, n / g, d / g⟩) := Lib.hid (by
   have h1 := low_num_pos (neg := neg) (d := d) (Nat.pos_of_ne_zero hn);unfold low; rw [hg] at h1 ⊢; rw [decide_eq_true h1, Bool.and_true])
  rw [HL.out];have q := enc_not_nil hn;have q2 := enc_some hn;clear hg hgd hg0 d0 sn sd hn;go_enter Tryz.func43, Tryz.ntmps43;go_wp2_with fail;refine (HG.out _).mono ?_;rintro e w1 ⟨rfl, hb⟩;have HXZ := uH hb HXZ; have HB0 := Lib.hid (HB0.out.trans (hb.mono HB0.out.size));clear hb;go_wp2_with fail;refine (HQ.out _).mono ?_;rintro e w2 ⟨rfl, hb⟩;have HXZ := uH hb HXZ; have HB0 := Lib.hid (HB0.out.trans (hb.mono HB0.out.size));clear hb;go_wp2_with fail;refine (HQ2.out _).mono ?_;rintro e w3 ⟨rfl, hb⟩;have HXZ := uH hb HXZ; have HB0 := Lib.hid (HB0.out.trans (hb.mono HB0.out.size));clear hb;obtain ⟨⟨c0, c1, c2⟩, hf⟩ := row_cells HXZ.out;have hf0 := hf 0; have hf1 := hf 1; have hf2 := hf 2;clear hf;go_wp2_with fail;refine bodyPost_ret (results_cell_row rfl _ _ wq.heap.size 26 _ (0, 0) _ rfl (row_set HXZ.out _ _ _) Tryz.underlying26 rfl (by kernel_rfl)) rfl ?_
  exact ⟨rfl, below_row HB0.out (Nat.le_refl _) _ _ _⟩
def ERY (ba : Nat) (neg : Bool) (b : Nat) (c : Int) (Q : Bool) : Nat → Value
 | 0 => .pointer (some ⟨ba, 0, none⟩)
 | 1 => .bool neg
 | 2 => .bool (!neg)
 | 3 => .bool (!neg)
 | 4 => (bif neg then undef else .pointer (some ⟨ba, 2, none⟩))
 | 5 => (bif neg then undef else .string (encS b))
 | 6 => (bif neg then undef else .string (encS 1))
 | 7 => (bif neg then undef else .int .i64 c)
 | 8 => (bif neg then undef else .bool Q)
 | 9 => .bool (!neg && Q)
 | 10 => .bool (!neg && Q)
 | _ => undef
def SRY (ba : Nat) (neg : Bool) (b : Nat) (c : Int) (Q : Bool) (ix : Nat) (v : Value) (w : World) : Prop :=
 match ix with
 | ix => v = ERY ba neg b c Q ix
theorem SRY_up (ba : Nat) (neg : Bool) (b : Nat) (c : Int) (Q : Bool) (ix : Nat) (v : Value) (w w' : World) (hb : Below w.heap.size w w') (h : SRY ba neg b c Q ix v w) : SRY ba neg b c Q ix v w' := by
 exact h
theorem rightR_enc (neg : Bool) (a b : Nat) : rightR neg (encS a) (encS b) = (decide (0 < b) && decide (Nat.gcd a b = 1) && (!neg || decide (0 < a))) := by
 unfold rightR;rw [right_enc, right_enc, numS_encS, numS_encS]; simp
set_option maxHeartbeats 1000000 in
set_option maxRecDepth 100000 in
theorem rRatRight_any (neg : Bool) (n d : ByteArray) (wq : World) (sn : n.size ≤ 1000000) (sd : d.size ≤ 1000000) :
  Calls Tryz.prog 89 #[.agg #[.bool neg, .string n, .string d]] wq fun e w' => e = .returned (.bool (rightR neg n d)) ∧ Below wq.heap.size wq w' := by
 have H1 := Lib.hid (fun w => rRight_any n w (by omega)); have H2 := Lib.hid (fun w => rRight_any d w (by omega));have hxa := heap_alloc_new wq (.cells #[.bool neg, .string n, .string d] 26);have hb0 := (Below.refl wq.heap.size wq).alloc (Nat.le_refl _) (.cells #[.bool neg, .string n, .string d] 26);obtain ⟨W1, hW1⟩ : ∃ W1, wq.alloc (.cells #[.bool neg, .string n, .string d] 26) = W1 := ⟨_, rfl⟩;rw [hW1] at hxa hb0;obtain ⟨⟨ca0, ca1, ca2⟩, -⟩ := row_cells hxa;have HB0 := Lib.hid hb0;have sn2 := Lib.hid sn; have sd2 := Lib.hid sd;clear hb0 sn sd
 by_cases r1 : rightN n = true
 ·by_cases r2 : rightN d = true
  ·obtain ⟨a, ha⟩ : ∃ a, numS n = a := ⟨_, rfl⟩;obtain ⟨b, hb⟩ : ∃ b, numS d = b := ⟨_, rfl⟩;have hn := rightN_eq r1; have hd := rightN_eq r2;rw [ha] at hn; rw [hb] at hd;subst hn; subst hd;rw [rightR_enc];simp only [right_enc] at H1 H2;clear r1 r2 ha hb
   by_cases b0 : b = 0
   ·have q := enc_nil b0;have qe : (encS b).toList.isEmpty = true := by rw [q]; rfl
    have HE : Hid ((decide (0 < b) && decide (Nat.gcd a b = 1) && (!neg || decide (0 < a))) = false) := Lib.hid (by simp [b0]);rw [HE.out];clear b0;go_enter Tryz.func89, Tryz.ntmps89;go_wp2_with fail;refine (H1.out _).mono ?_;rintro e w1 ⟨rfl, rfl⟩;go_wp2_with fail;refine (H2.out _).mono ?_;rintro e w1 ⟨rfl, rfl⟩;go_wp2_with fail;go_ret;exact ⟨rfl, HB0.out⟩
   ·have q := enc_not_nil b0;have qe := enc_some b0
    by_cases a0 : a = 0
    ·have q2 := enc_nil a0;have qe2 : (encS a).toList.isEmpty = true := by rw [q2]; rfl
     have HOF := Lib.hid (fun w => rOf_any 1 w (by decide));simp only [show (1 : Int).toNat = 1 from rfl] at HOF;have HCM := Lib.hid (fun w => rCmp_any (encS b) (encS 1) w (Nat.le_trans sd2.out (by decide)) (Nat.le_trans (encS_size_lt sz_one) (by decide)));simp only [numS_encS] at HCM;obtain ⟨c, hc⟩ : ∃ c, cmpI b 1 = c := ⟨_, rfl⟩;rw [hc] at HCM;obtain ⟨Q, hQ⟩ : ∃ Q, decide (b = 1) = Q := ⟨_, rfl⟩;have HQ0 : Hid (c = 0 ↔ Q = true) := Lib.hid (by
      rw [← hc, ← hQ, decide_eq_true_eq]; unfold cmpI
      split
      ·constructor <;> intro h <;> omega
      ·split
       ·constructor <;> intro h <;> omega
       ·constructor
        ·intro _; omega
        ·intro _; rfl)
     have HE : Hid ((decide (0 < b) && decide (Nat.gcd a b = 1) && (!neg || decide (0 < a))) = (!neg && Q)) := Lib.hid (by
      subst a0;rw [← hQ]
      by_cases h1 : b = 1
      ·subst h1; simp
      ·simp [h1])
     rw [HE.out];clear hc hQ a0 b0;go_enter Tryz.func89, Tryz.ntmps89;go_wp2_with fail;refine (H1.out _).mono ?_;rintro e w1 ⟨rfl, rfl⟩;go_wp2_with fail;refine (H2.out _).mono ?_;rintro e w1 ⟨rfl, rfl⟩;go_wp2_with fail;obtain ⟨ba, hba⟩ : ∃ b, wq.heap.size = b := ⟨_, rfl⟩;rw [hba] at hxa ca0 ca1 ca2 ⊢;have HXA := Lib.hid hxa;clear hxa ca0 ca1 ca2 hW1;refine wp_region_vals (w := W1) (by kernel_rfl) (SRY ba neg b c Q) (fun t => (decide (2 ≤ t) && decide (t < 3)) || (decide (25 ≤ t) && decide (t < 35))) (by kernel_rfl) (by kernel_rfl) (by kernel_rfl) (SRY_up ba neg b c Q) ?_ ?_
     ·intro i hi o listed a w hR K hK;have ho := hR.at_;have hi : i < 11 := hi;have hii : i = 0 ∨ i = 1 ∨ i = 2 ∨ i = 3 ∨ i = 4 ∨ i = 5 ∨ i = 6 ∨ i = 7 ∨ i = 8 ∨ i = 9 ∨ i = 10 := by omega
      rcases hii with rfl | rfl | rfl | rfl | rfl | rfl | rfl | rfl | rfl | rfl | rfl
      ·simp at ho;subst ho;have b1 : a.tmps.getD 1 undef = .pointer (some ⟨ba, 0, none⟩) := hR.base 1 (by kernel_rfl);refine plain_step rfl rfl ?_;go_simp;exact hK _ _ rfl rB
      ·simp at ho;subst ho;have e0 : a.tmps.getD 25 undef = .pointer (some ⟨ba, 0, none⟩) := hR.dep ⟨0, .data⟩ (by simp) rfl;obtain ⟨⟨cx0, cx1, cx2⟩, -⟩ := row_cells (heap_up hR.below HXA.out);refine plain_step rfl rfl ?_;go_simp;exact hK _ _ rfl rB
      ·simp at ho;subst ho;have e1 : a.tmps.getD 26 undef = .bool neg := hR.dep ⟨1, .data⟩ (by simp) rfl;refine plain_step rfl rfl ?_;go_simp;exact hK _ _ rfl rB
      ·simp at ho;subst ho;have e2 : a.tmps.getD 27 undef = .bool (!neg) := hR.dep ⟨2, .data⟩ (by simp) rfl;refine plain_step rfl rfl ?_;go_simp;exact hK _ _ rfl rB
      ·simp at ho;subst ho;have e3 : a.tmps.getD 28 undef = .bool (!neg) := hR.dep ⟨3, .guard⟩ (by simp) rfl;have b1 : a.tmps.getD 1 undef = .pointer (some ⟨ba, 0, none⟩) := hR.base 1 (by kernel_rfl);cases neg
       ·refine guard_step rfl rfl rfl (b := true) e3 ?_;go_simp;exact hK _ _ rfl rB
       ·refine guard_skip rfl rfl rfl (b := true) e3 (by decide) ?_;exact hK _ _ rfl rB
      ·simp at ho;subst ho;have e4 : a.tmps.getD 29 undef = (bif neg then undef else .pointer (some ⟨ba, 2, none⟩)) := hR.dep ⟨4, .data⟩ (by simp) rfl;have e3 : a.tmps.getD 28 undef = .bool (!neg) := hR.dep ⟨3, .guard⟩ (by simp) rfl;obtain ⟨⟨cx0, cx1, cx2⟩, -⟩ := row_cells (heap_up hR.below HXA.out);cases neg
       ·refine guard_step rfl rfl rfl (b := true) e3 ?_;go_simp;exact hK _ _ rfl rB
       ·refine guard_skip rfl rfl rfl (b := true) e3 (by decide) ?_;exact hK _ _ rfl rB
      ·simp at ho;subst ho;have e3 : a.tmps.getD 28 undef = .bool (!neg) := hR.dep ⟨3, .guard⟩ (by simp) rfl;cases neg
       ·refine guard_step rfl rfl rfl (b := true) e3 ?_;go_simp;refine (HOF.out w).mono ?_;rintro e w' ⟨rfl, hb⟩;exact hK _ _ (rfl) hb
       ·refine guard_skip rfl rfl rfl (b := true) e3 (by decide) ?_;exact hK _ _ rfl rB
      ·simp at ho;subst ho;have e5 : a.tmps.getD 30 undef = (bif neg then undef else .string (encS b)) := hR.dep ⟨5, .data⟩ (by simp) rfl;have e6 : a.tmps.getD 31 undef = (bif neg then undef else .string (encS 1)) := hR.dep ⟨6, .data⟩ (by simp) rfl;have e3 : a.tmps.getD 28 undef = .bool (!neg) := hR.dep ⟨3, .guard⟩ (by simp) rfl;cases neg
       ·refine guard_step rfl rfl rfl (b := true) e3 ?_;go_simp;refine (HCM.out w).mono ?_;rintro e w' ⟨rfl, rfl⟩;exact hK _ _ rfl rB
       ·refine guard_skip rfl rfl rfl (b := true) e3 (by decide) ?_;exact hK _ _ rfl rB
      ·simp at ho;subst ho;have e7 : a.tmps.getD 32 undef = (bif neg then undef else .int .i64 c) := hR.dep ⟨7, .data⟩ (by simp) rfl;have e3 : a.tmps.getD 28 undef = .bool (!neg) := hR.dep ⟨3, .guard⟩ (by simp) rfl;cases neg
       ·refine guard_step rfl rfl rfl (b := true) e3 ?_;go_simp;exact hK _ _ (by show Value.bool _ = Value.bool Q; congr 1; rw [Bool.eq_iff_iff]; simp [HQ0.out]) rB
       ·refine guard_skip rfl rfl rfl (b := true) e3 (by decide) ?_;exact hK _ _ rfl rB
      ·simp at ho;subst ho;have e3 : a.tmps.getD 28 undef = .bool (!neg) := hR.dep ⟨3, .data⟩ (by simp) rfl;have e8 : a.tmps.getD 33 undef = (bif neg then undef else .bool Q) := hR.dep ⟨8, .data⟩ (by simp) rfl;cases neg
       ·refine plain_step rfl rfl ?_;go_simp;exact hK _ _ rfl rB
       ·refine plain_step rfl rfl ?_;go_simp;exact hK _ _ rfl rB
      ·simp at ho;subst ho;have e9 : a.tmps.getD 34 undef = .bool (!neg && Q) := hR.dep ⟨9, .data⟩ (by simp) rfl;refine plain_step rfl rfl ?_;go_simp;exact hK _ _ rfl rB
     ·intro s w hS hb;have e10 : s 2 = .bool (!neg && Q) := hS 10 (by decide);simp only [over, Nat.zero_add, Nat.reduceAdd, Nat.reduceLeDiff, Nat.reduceLT, decide_true, decide_false, Bool.and_true, Bool.and_false, Bool.or_false, Bool.or_true, cond_true, cond_false];have HBX := Lib.hid (HB0.out.trans (hb.mono HB0.out.size));rw [e10];clear hS hb e10;go_wp2_with fail;go_ret;have hbwf := HBX.out;exact ⟨rfl, by first | exact hbwf | (rw [hba] at hbwf; exact hbwf)⟩
    ·have q2 := enc_not_nil a0;have qe2 := enc_some a0;have HG := Lib.hid (fun w => rGcd_any (encS a) (encS b) w sn2.out sd2.out);simp only [numS_encS] at HG;have HOF := Lib.hid (fun w => rOf_any 1 w (by decide));simp only [show (1 : Int).toNat = 1 from rfl] at HOF;obtain ⟨g, hg⟩ : ∃ g, Nat.gcd a b = g := ⟨_, rfl⟩;have hgb : g ≤ b := by rw [← hg]; exact Nat.gcd_le_right _ (by omega)
     have hgs : (encS g).size ≤ 100000000 := by
      have h1 : Sz b 1000000 := by
       have := Sz.num (encS b); rw [numS_encS] at this; exact this.mono sd2.out
      exact Nat.le_trans (encS_size_lt (h1.le hgb)) (by decide)
     have HCM := Lib.hid (fun w => rCmp_any (encS g) (encS 1) w hgs (Nat.le_trans (encS_size_lt sz_one) (by decide)));simp only [numS_encS] at HCM;rw [hg] at HG;have HE : Hid ((decide (0 < b) && decide (Nat.gcd a b = 1) && (!neg || decide (0 < a))) = decide (g = 1)) := Lib.hid (by
      simp only [hg];have h1 : 0 < a := by omega
      have h2 : 0 < b := by omega
      simp [h1, h2])
     rw [HE.out];clear hg hgb hgs a0 b0;go_enter Tryz.func89, Tryz.ntmps89;go_wp2_with fail;refine (H1.out _).mono ?_;rintro e w1 ⟨rfl, rfl⟩;go_wp2_with fail;refine (H2.out _).mono ?_;rintro e w1 ⟨rfl, rfl⟩;go_wp2_with fail;refine (HG.out _).mono ?_;rintro e w2 ⟨rfl, hb⟩;have HB2 := Lib.hid (HB0.out.trans (hb.mono HB0.out.size));clear hb ca0 ca1 ca2 hW1;go_wp2_with fail;refine (HOF.out _).mono ?_;rintro e w3 ⟨rfl, hb⟩;have HB3 := Lib.hid (HB2.out.trans (hb.mono HB2.out.size));clear hb;go_wp2_with fail;refine (HCM.out _).mono ?_;rintro e w4 ⟨rfl, rfl⟩
     by_cases hg1 : g = 1
     ·subst hg1;rw [cmpI_eq];go_wp2_with fail;go_ret;exact ⟨rfl, HB3.out⟩
     ·have hc0 : cmpI g 1 ≠ 0 := by
       unfold cmpI
       split
       ·decide
       ·split
        ·decide
        ·omega
      obtain ⟨c, hc⟩ : ∃ c, cmpI g 1 = c := ⟨_, rfl⟩;rw [hc] at hc0 ⊢;have HD : Hid (decide (g = 1) = false) := Lib.hid (by simp [hg1]);clear hg1 hc;go_wp2_with fail;go_ret;exact ⟨by rw [HD.out]; simp [hc0], HB3.out⟩
  ·have hf : rightN d = false := by simpa using r2
   have HE : Hid (rightR neg n d = false) := Lib.hid (by unfold rightR; simp [hf]);rw [HE.out];rw [hf] at H2; rw [r1] at H1;clear hf r1 r2;go_enter Tryz.func89, Tryz.ntmps89;go_wp2_with fail;refine (H1.out _).mono ?_;rintro e w1 ⟨rfl, rfl⟩;go_wp2_with fail;refine (H2.out _).mono ?_;rintro e w1 ⟨rfl, rfl⟩;go_wp2_with fail;go_ret;exact ⟨rfl, HB0.out⟩
 ·have hf : rightN n = false := by simpa using r1
  have HE : Hid (rightR neg n d = false) := Lib.hid (by unfold rightR; simp [hf]);rw [HE.out];rw [hf] at H1;clear hf r1;go_enter Tryz.func89, Tryz.ntmps89;go_wp2_with fail;refine (H1.out _).mono ?_;rintro e w1 ⟨rfl, rfl⟩;go_wp2_with fail;refine (H2.out _).mono ?_;rintro e w1 ⟨rfl, rfl⟩;go_wp2_with fail;go_ret;exact ⟨rfl, HB0.out⟩
set_option maxHeartbeats 1000000 in
set_option maxRecDepth 100000 in
theorem rvalue_r {va : Value} {ra : Rt} {k : Nat} (ha : IsR va ra k) (hk : k ≤ 1000000) (wq : World) :
  Calls Tryz.prog 52 #[va] wq fun e w' => e = .returned (.agg #[.bool ra.neg, .string (encS ra.num), .string (encS ra.den)]) ∧ Below wq.heap.size wq w' := by
 obtain ⟨neg, n, d, rfl, sn, sd, hv⟩ := ha;have HR := Lib.hid (fun w => rRatRight_any neg n d w (by omega) (by omega));obtain ⟨R, hR⟩ : ∃ R, rightR neg n d = R := ⟨_, rfl⟩;rw [hR] at HR;have HRT := Lib.hid hR; have HV := Lib.hid hv;have HOF := Lib.hid (fun w => rOf_any 1 w (by decide));simp only [show (1 : Int).toNat = 1 from rfl] at HOF;clear hR sn sd hv hk;obtain ⟨W3, hW3, hxa, hxz, hb3⟩ := boxes2 wq (.cells #[.bool neg, .string n, .string d] 26) (.cells #[.bool false, .string ⟨#[]⟩, .string ⟨#[]⟩] 26);obtain ⟨⟨ca0, ca1, ca2⟩, -⟩ := row_cells hxa;have HXA := Lib.hid hxa; have HXZ := Lib.hid hxz; have HB3 := Lib.hid hb3;clear hxa hxz hb3;go_enter Tryz.func52, Tryz.ntmps52;go_wp2_with fail;refine (HR.out _).mono ?_;rintro e w3 ⟨rfl, hb⟩;have HXA := uH hb HXA; have HXZ := uH hb HXZ; have HB3 := Lib.hid (HB3.out.trans (hb.mono HB3.out.size));clear hb ca0 ca1 ca2 hW3
 obtain ⟨⟨cb0, cb1, cb2⟩, -⟩ := row_cells HXA.out;obtain ⟨⟨cz0, cz1, cz2⟩, hfz⟩ := row_cells HXZ.out;have fz0 := hfz 0; have fz1 := hfz 1; have fz2 := hfz 2;clear hfz;cases R
 ·clear cb0 cb1 cb2 cz0 cz1 cz2 fz0 fz1 fz2;go_wp2_with fail;refine (HOF.out _).mono ?_;rintro e w4 ⟨rfl, hb⟩;have HXZ := uH hb HXZ; have HB3 := Lib.hid (HB3.out.trans (hb.mono HB3.out.size));clear hb;obtain ⟨⟨cz0, cz1, cz2⟩, hfz⟩ := row_cells HXZ.out;have fz0 := hfz 0; have fz1 := hfz 1; have fz2 := hfz 2;clear hfz;go_wp2_with fail;refine bodyPost_ret (results_cell_row rfl _ _ (wq.heap.size + 1) 26 _ (0, 0) _ rfl (row_set HXZ.out _ _ _) Tryz.underlying26 rfl (by kernel_rfl)) rfl ?_;refine ⟨?_, below_row HB3.out (by omega) _ _ _⟩;have hv := HV.out;unfold valQ at hv;rw [if_neg (by rw [HRT.out]; simp)] at hv;rw [← hv]; simp [zeroR, encS_zero]
 ·go_wp2_with fail;refine bodyPost_ret (results_cell_row rfl _ _ (wq.heap.size + 1) 26 _ (0, 0) _ rfl (row_set HXZ.out _ _ _) Tryz.underlying26 rfl (by kernel_rfl)) rfl ?_;refine ⟨?_, below_row HB3.out (by omega) _ _ _⟩;have h := ratV_right HRT.out;rw [HV.out] at h;unfold ratV rtV at h;rw [h]
def EWR (ba bb : Nat) (ra rb L : Rt) : Nat → Value
 | 0 => .pointer (some ⟨ba, 0, none⟩)
 | 1 => .bool ra.neg
 | 2 => .pointer (some ⟨bb, 0, none⟩)
 | 3 => .bool rb.neg
 | 4 => .bool (ra.neg != rb.neg)
 | 5 => .pointer (some ⟨ba, 1, none⟩)
 | 6 => .string (encS ra.num)
 | 7 => .pointer (some ⟨bb, 2, none⟩)
 | 8 => .string (encS rb.den)
 | 9 => .string (encS (ra.num * rb.den))
 | 10 => .pointer (some ⟨ba, 2, none⟩)
 | 11 => .string (encS ra.den)
 | 12 => .pointer (some ⟨bb, 1, none⟩)
 | 13 => .string (encS rb.num)
 | 14 => .string (encS (ra.den * rb.num))
 | 15 => .agg #[.bool L.neg, .string (encS L.num), .string (encS L.den)]
 | _ => undef
def SWR (ba bb : Nat) (ra rb L : Rt) (ix : Nat) (v : Value) (w : World) : Prop :=
 match ix with
 | ix => v = EWR ba bb ra rb L ix
theorem SWR_up (ba bb : Nat) (ra rb L : Rt) (ix : Nat) (v : Value) (w w' : World) (hb : Below w.heap.size w w') (h : SWR ba bb ra rb L ix v w) : SWR ba bb ra rb L ix v w' := by
 exact h
set_option maxHeartbeats 1000000 in
set_option maxRecDepth 100000 in
theorem rRatQuo_r {va vb : Value} {ra rb : Rt} {k : Nat} (ha : IsR va ra k) (hb : IsR vb rb k) (hk1 : 1 ≤ k) (hk : k ≤ 400000) (wq : World) :
  Calls Tryz.prog 26 #[va, vb] wq fun e w' => e = .returned (quoV ra rb) ∧ Below wq.heap.size wq w' := by
 have HVA := Lib.hid (fun w => rvalue_r ha (by omega) w); have HVB := Lib.hid (fun w => rvalue_r hb (by omega) w);have za := ha.rz hk1; have zb := hb.rz hk1; have oka := ha.ok; have okb := hb.ok;have HN := Lib.hid (fun w => rMul_any (encS ra.num) (encS rb.den) w (Nat.le_trans (encS_size_lt za.1) (by omega)) (Nat.le_trans (encS_size_lt zb.2) (by omega)));simp only [numS_encS] at HN;have HD := Lib.hid (fun w => rMul_any (encS ra.den) (encS rb.num) w (Nat.le_trans (encS_size_lt za.2) (by omega)) (Nat.le_trans (encS_size_lt zb.1) (by omega)));simp only [numS_encS] at HD;have HL := Lib.hid (fun (hz : rb.num ≠ 0) w => rlowest_n (ra.neg != rb.neg) (ra.num * rb.den) (ra.den * rb.num) w (Nat.mul_pos oka.pos (Nat.pos_of_ne_zero hz)) ((za.1.mul zb.2).mono (by omega)) ((za.2.mul zb.1).mono (by omega)))
 have HE : Hid (quoR ra rb = low (ra.neg != rb.neg) (ra.num * rb.den) (ra.den * rb.num)) := Lib.hid rfl;unfold quoV;rw [HE.out];obtain ⟨L, hL⟩ : ∃ L, low (ra.neg != rb.neg) (ra.num * rb.den) (ra.den * rb.num) = L := ⟨_, rfl⟩;rw [hL] at HL ⊢;clear hL;obtain ⟨na, sa, da, rfl, -⟩ := ha;obtain ⟨nb, sb, db, rfl, -⟩ := hb;clear za zb hk1 hk oka okb;obtain ⟨W3, hW3, hxa, hxb, hxz, hb3⟩ := boxes3 wq (.cells #[.bool na, .string sa, .string da] 26) (.cells #[.bool nb, .string sb, .string db] 26) (.cells #[.bool false, .string ⟨#[]⟩, .string ⟨#[]⟩] 26);obtain ⟨⟨ca0, ca1, ca2⟩, -⟩ := row_cells hxa;go_enter Tryz.func26, Tryz.ntmps26;go_wp2_with fail;obtain ⟨ba, hba⟩ : ∃ b, wq.heap.size = b := ⟨_, rfl⟩;obtain ⟨bb, hbb⟩ : ∃ b, ba + 1 = b := ⟨_, rfl⟩;obtain ⟨bz, hbz⟩ : ∃ b, bb + 1 = b := ⟨_, rfl⟩;rw [hba] at hxa hxb hxz ⊢;rw [hbb] at hxb hxz ⊢;rw [hbz] at hxz ⊢
 have HNE : Hid (ba ≠ bb) := Lib.hid (by omega); have HNZA : Hid (bz ≠ ba) := Lib.hid (by omega); have HNZB : Hid (bz ≠ bb) := Lib.hid (by omega);refine (HVA.out _).mono ?_;rintro e w1 ⟨rfl, hb⟩;have hxa1 := heap_up hb hxa; have hxb1 := heap_up hb hxb; have hxz1 := heap_up hb hxz;have hbl1 := hb3.trans (hb.mono hb3.size);clear hb hb3 hxa hxb hxz ca0 ca1 ca2 hW3;obtain ⟨⟨ca0, ca1, ca2⟩, hfa⟩ := row_cells hxa1;have fa0 := hfa 0; have fa1 := hfa 1; have fa2 := hfa 2;obtain ⟨W4, hW4⟩ : ∃ W4, ((w1.setCell ⟨ba, 0, none⟩ (.bool ra.neg)).setCell ⟨ba, 1, none⟩ (.string (encS ra.num))).setCell ⟨ba, 2, none⟩ (.string (encS ra.den)) = W4 := ⟨_, rfl⟩;have hxa4 : W4.heap[ba]? = some (.cells #[.bool ra.neg, .string (encS ra.num), .string (encS ra.den)] 26 (0, 0)) := by rw [← hW4]; exact row_set hxa1 _ _ _
 have hxb4 : W4.heap[bb]? = some (.cells #[.bool nb, .string sb, .string db] 26 (0, 0)) := by rw [← hW4]; simpa [World.setCell, Array.getElem?_modify, HNE.out] using hxb1
 have hxz4 : W4.heap[bz]? = some (.cells #[.bool false, .string ⟨#[]⟩, .string ⟨#[]⟩] 26 (0, 0)) := by rw [← hW4]; simpa [World.setCell, Array.getElem?_modify, Ne.symm HNZA.out] using hxz1
 have hbl4 : Below wq.heap.size wq W4 := by rw [← hW4]; exact below_row hbl1 (by omega) _ _ _
 obtain ⟨⟨cb0, cb1, cb2⟩, -⟩ := row_cells hxb4;have HXA := Lib.hid hxa4; have HXB := Lib.hid hxb4; have HXZ := Lib.hid hxz4; have HB4 := Lib.hid hbl4;clear hfa hxa1 hxb1 hxz1 hbl1 hxa4 hxb4 hxz4 hbl4;go_wp2_with fail;refine (HVB.out _).mono ?_;rintro e w2 ⟨rfl, hb⟩;have hxa1 := heap_up hb HXA.out; have hxb1 := heap_up hb HXB.out; have hxz1 := heap_up hb HXZ.out;have hbl1 := HB4.out.trans (hb.mono HB4.out.size);clear hb cb0 cb1 cb2 ca0 ca1 ca2 fa0 fa1 fa2 hW4;obtain ⟨⟨cb0, cb1, cb2⟩, hfb⟩ := row_cells hxb1;have fb0 := hfb 0; have fb1 := hfb 1; have fb2 := hfb 2;obtain ⟨W5, hW5⟩ : ∃ W5, ((w2.setCell ⟨bb, 0, none⟩ (.bool rb.neg)).setCell ⟨bb, 1, none⟩ (.string (encS rb.num))).setCell ⟨bb, 2, none⟩ (.string (encS rb.den)) = W5 := ⟨_, rfl⟩;have hxb5 : W5.heap[bb]? = some (.cells #[.bool rb.neg, .string (encS rb.num), .string (encS rb.den)] 26 (0, 0)) := by rw [← hW5]; exact row_set hxb1 _ _ _
 have hxa5 : W5.heap[ba]? = some (.cells #[.bool ra.neg, .string (encS ra.num), .string (encS ra.den)] 26 (0, 0)) := by rw [← hW5]; simpa [World.setCell, Array.getElem?_modify, Ne.symm HNE.out] using hxa1
 have hxz5 : W5.heap[bz]? = some (.cells #[.bool false, .string ⟨#[]⟩, .string ⟨#[]⟩] 26 (0, 0)) := by rw [← hW5]; simpa [World.setCell, Array.getElem?_modify, Ne.symm HNZB.out] using hxz1
 have HB5 : Hid (Below wq.heap.size wq W5) := Lib.hid (by rw [← hW5]; exact below_row hbl1 (by omega) _ _ _);have HXA := Lib.hid hxa5; have HXB := Lib.hid hxb5; have HXZ := Lib.hid hxz5;clear hfb hxa1 hxb1 hxz1 hbl1 hxa5 hxz5;obtain ⟨⟨cd0, cd1, cd2⟩, -⟩ := row_cells hxb5;clear hxb5
 by_cases hz : rb.num = 0
 ·have hem : (encS rb.num).toList.isEmpty = true := by rw [enc_empty]; simp [hz]
  have hem2 : (encS rb.num).toList = [] := List.isEmpty_iff.1 hem;have HZ := Lib.hid hz;obtain ⟨⟨cz0, cz1, cz2⟩, hfz⟩ := row_cells HXZ.out;have fz0 := hfz 0; have fz1 := hfz 1; have fz2 := hfz 2;have HROW := Lib.hid (row_set HXZ.out (.bool false) (.string ⟨#[]⟩) (.string ⟨#[]⟩));have HBW := Lib.hid (below_row HB5.out (b := bz) (by omega) (.bool false) (.string ⟨#[]⟩) (.string ⟨#[]⟩));clear hfz;rw [hz] at hem hem2 hW5 cd1 ⊢;clear hz;go_wp2_with fail;have hbwf := HBW.out; rw [hba] at hbwf;refine bodyPost_ret (results_cell_row2 rfl _ _ bz 26 _ (0, 0) _ rfl HROW.out Tryz.underlying26 rfl (by kernel_rfl)) rfl ?_
  first | exact ⟨rfl, HBW.out⟩ | exact ⟨rfl, hbwf⟩ | exact ⟨by rw [if_pos HZ.out]; rfl, HBW.out⟩
 ·have HNZ := Lib.hid hz;have hem : (encS rb.num).toList.isEmpty = false := enc_some hz;have hem2 : ¬ (encS rb.num).toList = [] := fun h => by rw [h] at hem; cases hem
  clear hz;go_wp2_with fail;clear cb0 cb1 cb2 fb0 fb1 fb2 hW5 cd0 cd1 cd2 hem hem2;refine wp_region_tail (w := W5) (by kernel_rfl) (SWR ba bb ra rb L) 16 (fun t => (decide (14 ≤ t) && decide (t < 30))) (by decide) (by kernel_rfl) (by kernel_rfl) (by kernel_rfl) (by kernel_rfl) (by kernel_rfl) (SWR_up ba bb ra rb L) ?_ ?_
  ·intro i hi o listed a w hR K hK;have ho := hR.at_;have hi : i < 16 := hi;have hii : i = 0 ∨ i = 1 ∨ i = 2 ∨ i = 3 ∨ i = 4 ∨ i = 5 ∨ i = 6 ∨ i = 7 ∨ i = 8 ∨ i = 9 ∨ i = 10 ∨ i = 11 ∨ i = 12 ∨ i = 13 ∨ i = 14 ∨ i = 15 := by omega
   rcases hii with rfl | rfl | rfl | rfl | rfl | rfl | rfl | rfl | rfl | rfl | rfl | rfl | rfl | rfl | rfl | rfl
   ·simp at ho;subst ho;have b2 : a.tmps.getD 2 undef = .pointer (some ⟨ba, 0, none⟩) := hR.base 2 (by kernel_rfl);refine plain_step rfl rfl ?_;go_simp;exact hK _ _ rfl rB
   ·simp at ho;subst ho;have e0 : a.tmps.getD 14 undef = .pointer (some ⟨ba, 0, none⟩) := hR.dep ⟨0, .data⟩ (by simp) rfl (by decide);obtain ⟨⟨cx0, cx1, cx2⟩, -⟩ := row_cells (heap_up hR.below HXA.out);refine plain_step rfl rfl ?_;go_simp;exact hK _ _ rfl rB
   ·simp at ho;subst ho;have b3 : a.tmps.getD 3 undef = .pointer (some ⟨bb, 0, none⟩) := hR.base 3 (by kernel_rfl);refine plain_step rfl rfl ?_;go_simp;exact hK _ _ rfl rB
   ·simp at ho;subst ho;have e2 : a.tmps.getD 16 undef = .pointer (some ⟨bb, 0, none⟩) := hR.dep ⟨2, .data⟩ (by simp) rfl (by decide);obtain ⟨⟨cx0, cx1, cx2⟩, -⟩ := row_cells (heap_up hR.below HXB.out);refine plain_step rfl rfl ?_;go_simp;exact hK _ _ rfl rB
   ·simp at ho;subst ho;have e1 : a.tmps.getD 15 undef = .bool ra.neg := hR.dep ⟨1, .data⟩ (by simp) rfl (by decide);have e3 : a.tmps.getD 17 undef = .bool rb.neg := hR.dep ⟨3, .data⟩ (by simp) rfl (by decide);refine plain_step rfl rfl ?_;go_simp;exact hK _ _ rfl rB
   ·simp at ho;subst ho;have b2 : a.tmps.getD 2 undef = .pointer (some ⟨ba, 0, none⟩) := hR.base 2 (by kernel_rfl);refine plain_step rfl rfl ?_;go_simp;exact hK _ _ rfl rB
   ·simp at ho;subst ho;have e5 : a.tmps.getD 19 undef = .pointer (some ⟨ba, 1, none⟩) := hR.dep ⟨5, .data⟩ (by simp) rfl (by decide);obtain ⟨⟨cx0, cx1, cx2⟩, -⟩ := row_cells (heap_up hR.below HXA.out);refine plain_step rfl rfl ?_;go_simp;exact hK _ _ rfl rB
   ·simp at ho;subst ho;have b3 : a.tmps.getD 3 undef = .pointer (some ⟨bb, 0, none⟩) := hR.base 3 (by kernel_rfl);refine plain_step rfl rfl ?_;go_simp;exact hK _ _ rfl rB
   ·simp at ho;subst ho;have e7 : a.tmps.getD 21 undef = .pointer (some ⟨bb, 2, none⟩) := hR.dep ⟨7, .data⟩ (by simp) rfl (by decide);obtain ⟨⟨cx0, cx1, cx2⟩, -⟩ := row_cells (heap_up hR.below HXB.out);refine plain_step rfl rfl ?_;go_simp;exact hK _ _ rfl rB
   ·simp at ho;subst ho;have e6 : a.tmps.getD 20 undef = .string (encS ra.num) := hR.dep ⟨6, .data⟩ (by simp) rfl (by decide);have e8 : a.tmps.getD 22 undef = .string (encS rb.den) := hR.dep ⟨8, .data⟩ (by simp) rfl (by decide);refine plain_step rfl rfl ?_;go_simp;refine (HN.out w).mono ?_;rintro e w' ⟨rfl, hb⟩;exact hK _ _ (rfl) hb
   ·simp at ho;subst ho;have b2 : a.tmps.getD 2 undef = .pointer (some ⟨ba, 0, none⟩) := hR.base 2 (by kernel_rfl);refine plain_step rfl rfl ?_;go_simp;exact hK _ _ rfl rB
   ·simp at ho;subst ho;have e10 : a.tmps.getD 24 undef = .pointer (some ⟨ba, 2, none⟩) := hR.dep ⟨10, .data⟩ (by simp) rfl (by decide);obtain ⟨⟨cx0, cx1, cx2⟩, -⟩ := row_cells (heap_up hR.below HXA.out);refine plain_step rfl rfl ?_;go_simp;exact hK _ _ rfl rB
   ·simp at ho;subst ho;have b3 : a.tmps.getD 3 undef = .pointer (some ⟨bb, 0, none⟩) := hR.base 3 (by kernel_rfl);refine plain_step rfl rfl ?_;go_simp;exact hK _ _ rfl rB
   ·simp at ho;subst ho;have e12 : a.tmps.getD 26 undef = .pointer (some ⟨bb, 1, none⟩) := hR.dep ⟨12, .data⟩ (by simp) rfl (by decide);obtain ⟨⟨cx0, cx1, cx2⟩, -⟩ := row_cells (heap_up hR.below HXB.out);refine plain_step rfl rfl ?_;go_simp;exact hK _ _ rfl rB
   ·simp at ho;subst ho;have e11 : a.tmps.getD 25 undef = .string (encS ra.den) := hR.dep ⟨11, .data⟩ (by simp) rfl (by decide);have e13 : a.tmps.getD 27 undef = .string (encS rb.num) := hR.dep ⟨13, .data⟩ (by simp) rfl (by decide);refine plain_step rfl rfl ?_;go_simp;refine (HD.out w).mono ?_;rintro e w' ⟨rfl, hb⟩;exact hK _ _ (rfl) hb
   ·simp at ho;subst ho;have e4 : a.tmps.getD 18 undef = .bool (ra.neg != rb.neg) := hR.dep ⟨4, .data⟩ (by simp) rfl (by decide);have e9 : a.tmps.getD 23 undef = .string (encS (ra.num * rb.den)) := hR.dep ⟨9, .data⟩ (by simp) rfl (by decide);have e14 : a.tmps.getD 28 undef = .string (encS (ra.den * rb.num)) := hR.dep ⟨14, .data⟩ (by simp) rfl (by decide);refine plain_step rfl rfl ?_;go_simp;refine (HL.out HNZ.out w).mono ?_;rintro e w' ⟨rfl, hb⟩;exact hK _ _ (rfl) hb
  ·intro s w hS hb;have e15 : s 29 = .agg #[.bool L.neg, .string (encS L.num), .string (encS L.den)] := hS 15 (by decide);simp only [over, Nat.zero_add, Nat.reduceAdd, Nat.reduceLeDiff, Nat.reduceLT, decide_true, decide_false, Bool.and_true, cond_true, cond_false];obtain ⟨⟨cz0, cz1, cz2⟩, hfz⟩ := row_cells (heap_up hb HXZ.out);have fz0 := hfz 0; have fz1 := hfz 1; have fz2 := hfz 2;refine tail_step (n := 1) rfl rfl ?_;go_simp;refine tail_step (n := 0) rfl rfl ?_;go_simp;simp only [wpTail];have hrow := row_set (heap_up hb HXZ.out) (.bool L.neg) (.string (encS L.num)) (.string (encS L.den));have hbw := below_row (HB5.out.trans (hb.mono HB5.out.size)) (b := bz) (by omega) (.bool L.neg) (.string (encS L.num)) (.string (encS L.den));have HROW := Lib.hid hrow; have HBW := Lib.hid hbw;clear hrow hbw hS hb cz0 cz1 cz2 hfz fz0 fz1 fz2;go_wp2_with fail;have hbwf := HBW.out; rw [hba] at hbwf
   refine bodyPost_ret (results_cell_row2 rfl _ _ bz 26 _ (0, 0) _ rfl HROW.out Tryz.underlying26 rfl (by kernel_rfl)) rfl ?_
   first | exact ⟨rfl, HBW.out⟩ | exact ⟨rfl, hbwf⟩ | exact ⟨by rw [if_neg HNZ.out]; rfl, HBW.out⟩
theorem mod_lt (a m : Int) (x : Nat) (hx : (a % m).toNat = x) (hm : 0 < m) : (x : Int) < m := by
 have h4 := Int.emod_lt_of_pos a hm;have h3 := Int.emod_nonneg a (show m ≠ 0 by omega);omega
structure Rw where
 neg : Bool
 n : ByteArray
 d : ByteArray
def Rw.val (r : Rw) : Rt := valQ r.neg r.n r.d
def Rw.right (r : Rw) : Bool := rightR r.neg r.n r.d
def rawR (a : Rt) : Rw := ⟨a.neg, encS a.num, encS a.den⟩
theorem rawR_val {a : Rt} (h : a.Ok) : (rawR a).val = a := valQ_of h
theorem rawR_right {a : Rt} (h : a.Ok) : (rawR a).right = true := rightR_of h
def SzL (l : List Rw) (k : Nat) : Prop := ∀ r ∈ l, r.n.size ≤ k ∧ r.d.size ≤ k
theorem Rw.isR {r : Rw} {k : Nat} (h : r.n.size ≤ k ∧ r.d.size ≤ k) : IsR (.agg #[.bool r.neg, .string r.n, .string r.d]) r.val k := ⟨_, _, _, rfl, h.1, h.2, rfl⟩
theorem rawR_sz {a : Rt} {k : Nat} (h : Rz a k) : (rawR a).n.size ≤ k ∧ (rawR a).d.size ≤ k := ⟨encS_size_lt h.1, encS_size_lt h.2⟩
def LstR (W : World) (v : Value) (l : List Rw) : Prop :=
 (v = .slice none 0 0 ∧ l = []) ∨ ∃ g off cap, v = .slice (some ⟨g, off, none⟩) l.length cap ∧ g < W.heap.size ∧ l.length ≤ 1000 ∧
  ∀ i (h : i < l.length), W.cell? ⟨g, off + i * 3, none⟩ = some (.bool l[i].neg) ∧ W.cell? ⟨g, off + i * 3 + 1, none⟩ = some (.string l[i].n) ∧ W.cell? ⟨g, off + i * 3 + 2, none⟩ = some (.string l[i].d)
def LstN (W : World) (v : Value) (l : List Nat) : Prop :=
 (v = .slice none 0 0 ∧ l = []) ∨ ∃ g off cap, v = .slice (some ⟨g, off, none⟩) l.length cap ∧ g < W.heap.size ∧ l.length ≤ 1000 ∧
  ∀ i (h : i < l.length), W.cell? ⟨g, off + i, none⟩ = some (.string (encS l[i]))
theorem LstR.up {A W : World} {v : Value} {l : List Rw} (h : LstR A v l) (hb : Below A.heap.size A W) : LstR W v l := by
 rcases h with h | ⟨g, off, cap, h1, h2, h3, h4⟩
 ·exact .inl h
 ·refine .inr ⟨g, off, cap, h1, Nat.lt_of_lt_of_le h2 hb.size, h3, fun i hi => ?_⟩;rw [cell_up hb h2, cell_up hb h2, cell_up hb h2];exact h4 i hi
theorem LstN.up {A W : World} {v : Value} {l : List Nat} (h : LstN A v l) (hb : Below A.heap.size A W) : LstN W v l := by
 rcases h with h | ⟨g, off, cap, h1, h2, h3, h4⟩
 ·exact .inl h
 ·refine .inr ⟨g, off, cap, h1, Nat.lt_of_lt_of_le h2 hb.size, h3, fun i hi => ?_⟩;rw [cell_up hb h2];exact h4 i hi
theorem LstR.open {W : World} {v : Value} {l : List Rw} (h : LstR W v l) : ∃ p cap, v = .slice p l.length cap ∧ l.length ≤ 1000 ∧ ∀ i (h : i < l.length), ∃ g off, p = some ⟨g, off, none⟩ ∧ g < W.heap.size ∧
  W.cell? ⟨g, off + i * 3, none⟩ = some (.bool l[i].neg) ∧ W.cell? ⟨g, off + i * 3 + 1, none⟩ = some (.string l[i].n) ∧ W.cell? ⟨g, off + i * 3 + 2, none⟩ = some (.string l[i].d) := by
 rcases h with ⟨rfl, rfl⟩ | ⟨g, off, cap, h1, h2, h3, h4⟩
 ·exact ⟨none, 0, rfl, by simp, fun i h => absurd h (by simp)⟩
 ·exact ⟨some ⟨g, off, none⟩, cap, h1, h3, fun i hi => ⟨g, off, rfl, h2, h4 i hi⟩⟩
theorem LstN.open {W : World} {v : Value} {l : List Nat} (h : LstN W v l) : ∃ p cap, v = .slice p l.length cap ∧ l.length ≤ 1000 ∧ ∀ i (h : i < l.length), ∃ g off, p = some ⟨g, off, none⟩ ∧ g < W.heap.size ∧
  W.cell? ⟨g, off + i, none⟩ = some (.string (encS l[i])) := by
 rcases h with ⟨rfl, rfl⟩ | ⟨g, off, cap, h1, h2, h3, h4⟩
 ·exact ⟨none, 0, rfl, by simp, fun i h => absurd h (by simp)⟩
 ·exact ⟨some ⟨g, off, none⟩, cap, h1, h3, fun i hi => ⟨g, off, rfl, h2, h4 i hi⟩⟩
end Go.Proofs.YtabfjecegpaoaaaGreatDoor
