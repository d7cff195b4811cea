/- Reference of ratio: Right, value, Make, Sign, Neg. Each theorem names its conditions. -/
import Derived.Test.YtancflpioigjbaaGreatDoorRbA
namespace Go.Proofs.YtancflpioigjbaaGreatDoor
open Go.RowKit Go.Shelf
open Dgt
set_option linter.unusedVariables false

def ERY (ba : Nat) (neg : Bool) (b : Nat) (c : Int) (Q : Bool) : Nat → Value
  | 0 => .pointer (some ⟨ba, 0, none⟩)
  | 1 => .bool neg
  | 2 => .bool (!neg)
  | 3 => .bool (!neg)
  | 4 => (bif neg then undef else .pointer (some ⟨ba, 2, none⟩))
  | 5 => (bif neg then undef else .string (encS b))
  | 6 => (bif neg then undef else .string (encS 1))
  | 7 => (bif neg then undef else .int .i64 c)
  | 8 => (bif neg then undef else .bool Q)
  | 9 => .bool (!neg && Q)
  | 10 => .bool (!neg && Q)
  | _ => undef
def SRY (ba : Nat) (neg : Bool) (b : Nat) (c : Int) (Q : Bool) (ix : Nat) (v : Value) (w : World) : Prop :=
  match ix with
  | ix => v = ERY ba neg b c Q ix
theorem SRY_up (ba : Nat) (neg : Bool) (b : Nat) (c : Int) (Q : Bool) (ix : Nat) (v : Value) (w w' : World) (hb : Below w.heap.size w w') (h : SRY ba neg b c Q ix v w) : SRY ba neg b c Q ix v w' := by
  exact h
theorem rightR_enc (neg : Bool) (a b : Nat) : rightR neg (encS a) (encS b) = (decide (0 < b) && decide (Nat.gcd a b = 1) && (!neg || decide (0 < a))) := by
  unfold rightR
  rw [right_enc, right_enc, numS_encS, numS_encS]; simp
set_option maxHeartbeats 1000000 in
set_option maxRecDepth 100000 in
theorem rRatRight_any (neg : Bool) (n d : ByteArray) (wq : World) (sn : n.size ≤ 1000000) (sd : d.size ≤ 1000000) :
    Calls Tryz.prog 42 #[.agg #[.bool neg, .string n, .string d]] wq fun e w' => e = .returned (.bool (rightR neg n d)) ∧ Below wq.heap.size wq w' := by
  have H1 := Lib.hid (fun w => rRight_any n w (by omega)); have H2 := Lib.hid (fun w => rRight_any d w (by omega))
  have hxa := heap_alloc_new wq (.cells #[.bool neg, .string n, .string d] 26)
  have hb0 := (Below.refl wq.heap.size wq).alloc (Nat.le_refl _) (.cells #[.bool neg, .string n, .string d] 26)
  obtain ⟨W1, hW1⟩ : ∃ W1, wq.alloc (.cells #[.bool neg, .string n, .string d] 26) = W1 := ⟨_, rfl⟩
  rw [hW1] at hxa hb0
  obtain ⟨⟨ca0, ca1, ca2⟩, -⟩ := row_cells hxa
  have HB0 := Lib.hid hb0
  have sn2 := Lib.hid sn; have sd2 := Lib.hid sd
  clear hb0 sn sd
  by_cases r1 : rightN n = true
  · by_cases r2 : rightN d = true
    · obtain ⟨a, ha⟩ : ∃ a, numS n = a := ⟨_, rfl⟩
      obtain ⟨b, hb⟩ : ∃ b, numS d = b := ⟨_, rfl⟩
      have hn := rightN_eq r1; have hd := rightN_eq r2
      rw [ha] at hn; rw [hb] at hd
      subst hn; subst hd
      rw [rightR_enc]
      simp only [right_enc] at H1 H2
      clear r1 r2 ha hb
      by_cases b0 : b = 0
      · have q := enc_nil b0
        have qe : (encS b).toList.isEmpty = true := by rw [q]; rfl
        have HE : Hid ((decide (0 < b) && decide (Nat.gcd a b = 1) && (!neg || decide (0 < a))) = false) := Lib.hid (by simp [b0])
        rw [HE.out]
        clear b0
        go_enter Tryz.func42, Tryz.ntmps42
        go_wp2_with fail
        refine (H1.out _).mono ?_
        rintro e w1 ⟨rfl, rfl⟩
        go_wp2_with fail
        refine (H2.out _).mono ?_
        rintro e w1 ⟨rfl, rfl⟩
        go_wp2_with fail
        go_ret
        exact ⟨rfl, HB0.out⟩
      · have q := enc_not_nil b0
        have qe := enc_some b0
        by_cases a0 : a = 0
        · have q2 := enc_nil a0
          have qe2 : (encS a).toList.isEmpty = true := by rw [q2]; rfl
          have HOF := Lib.hid (fun w => rOf_any 1 w (by decide))
          simp only [show (1 : Int).toNat = 1 from rfl] at HOF
          have HCM := Lib.hid (fun w => rCmp_any (encS b) (encS 1) w (Nat.le_trans sd2.out (by decide)) (Nat.le_trans (encS_size_lt sz_one) (by decide)))
          simp only [numS_encS] at HCM
          obtain ⟨c, hc⟩ : ∃ c, cmpI b 1 = c := ⟨_, rfl⟩
          rw [hc] at HCM
          obtain ⟨Q, hQ⟩ : ∃ Q, decide (b = 1) = Q := ⟨_, rfl⟩
          have HQ0 : Hid (c = 0 ↔ Q = true) := Lib.hid (by
            rw [← hc, ← hQ, decide_eq_true_eq]; unfold cmpI
            split
            · constructor <;> intro h <;> omega
            · split
              · constructor <;> intro h <;> omega
              · constructor
                · intro _; omega
                · intro _; rfl)
          have HE : Hid ((decide (0 < b) && decide (Nat.gcd a b = 1) && (!neg || decide (0 < a))) = (!neg && Q)) := Lib.hid (by
            subst a0
            rw [← hQ]
            by_cases h1 : b = 1
            · subst h1; simp
            · simp [h1])
          rw [HE.out]
          clear hc hQ a0 b0
          go_enter Tryz.func42, Tryz.ntmps42
          go_wp2_with fail
          refine (H1.out _).mono ?_
          rintro e w1 ⟨rfl, rfl⟩
          go_wp2_with fail
          refine (H2.out _).mono ?_
          rintro e w1 ⟨rfl, rfl⟩
          go_wp2_with fail
          obtain ⟨ba, hba⟩ : ∃ b, wq.heap.size = b := ⟨_, rfl⟩
          rw [hba] at hxa ca0 ca1 ca2 ⊢
          have HXA := Lib.hid hxa
          clear hxa ca0 ca1 ca2 hW1
          refine wp_region_vals (w := W1) (by kernel_rfl) (SRY ba neg b c Q) (fun t => (decide (2 ≤ t) && decide (t < 3)) || (decide (25 ≤ t) && decide (t < 35))) (by kernel_rfl) (by kernel_rfl) (by kernel_rfl) (SRY_up ba neg b c Q) ?_ ?_
          · intro i hi o listed a w hR K hK
            have ho := hR.at_
            have hi : i < 11 := hi
            have hii : i = 0 ∨ i = 1 ∨ i = 2 ∨ i = 3 ∨ i = 4 ∨ i = 5 ∨ i = 6 ∨ i = 7 ∨ i = 8 ∨ i = 9 ∨ i = 10 := by omega
            rcases hii with rfl | rfl | rfl | rfl | rfl | rfl | rfl | rfl | rfl | rfl | rfl
            · simp at ho
              subst ho
              have b1 : a.tmps.getD 1 undef = .pointer (some ⟨ba, 0, none⟩) := hR.base 1 (by kernel_rfl)
              refine plain_step rfl rfl ?_
              go_simp
              exact hK _ _ (rfl) (Below.refl _ _)
            · simp at ho
              subst ho
              have e0 : a.tmps.getD 25 undef = .pointer (some ⟨ba, 0, none⟩) := hR.dep ⟨0, .data⟩ (by simp) rfl
              obtain ⟨⟨cx0, cx1, cx2⟩, -⟩ := row_cells (heap_up hR.below HXA.out)
              refine plain_step rfl rfl ?_
              go_simp
              exact hK _ _ (rfl) (Below.refl _ _)
            · simp at ho
              subst ho
              have e1 : a.tmps.getD 26 undef = .bool neg := hR.dep ⟨1, .data⟩ (by simp) rfl
              refine plain_step rfl rfl ?_
              go_simp
              exact hK _ _ (rfl) (Below.refl _ _)
            · simp at ho
              subst ho
              have e2 : a.tmps.getD 27 undef = .bool (!neg) := hR.dep ⟨2, .data⟩ (by simp) rfl
              refine plain_step rfl rfl ?_
              go_simp
              exact hK _ _ (rfl) (Below.refl _ _)
            · simp at ho
              subst ho
              have e3 : a.tmps.getD 28 undef = .bool (!neg) := hR.dep ⟨3, .guard⟩ (by simp) rfl
              have b1 : a.tmps.getD 1 undef = .pointer (some ⟨ba, 0, none⟩) := hR.base 1 (by kernel_rfl)
              cases neg
              · refine guard_step rfl rfl rfl (b := true) e3 ?_
                go_simp
                exact hK _ _ (rfl) (Below.refl _ _)
              · refine guard_skip rfl rfl rfl (b := true) e3 (by decide) ?_
                exact hK _ _ rfl (Below.refl _ _)
            · simp at ho
              subst ho
              have e4 : a.tmps.getD 29 undef = (bif neg then undef else .pointer (some ⟨ba, 2, none⟩)) := hR.dep ⟨4, .data⟩ (by simp) rfl
              have e3 : a.tmps.getD 28 undef = .bool (!neg) := hR.dep ⟨3, .guard⟩ (by simp) rfl
              obtain ⟨⟨cx0, cx1, cx2⟩, -⟩ := row_cells (heap_up hR.below HXA.out)
              cases neg
              · refine guard_step rfl rfl rfl (b := true) e3 ?_
                go_simp
                exact hK _ _ (rfl) (Below.refl _ _)
              · refine guard_skip rfl rfl rfl (b := true) e3 (by decide) ?_
                exact hK _ _ rfl (Below.refl _ _)
            · simp at ho
              subst ho
              have e3 : a.tmps.getD 28 undef = .bool (!neg) := hR.dep ⟨3, .guard⟩ (by simp) rfl
              cases neg
              · refine guard_step rfl rfl rfl (b := true) e3 ?_
                go_simp
                refine (HOF.out w).mono ?_
                rintro e w' ⟨rfl, hb⟩
                exact hK _ _ (rfl) hb
              · refine guard_skip rfl rfl rfl (b := true) e3 (by decide) ?_
                exact hK _ _ rfl (Below.refl _ _)
            · simp at ho
              subst ho
              have e5 : a.tmps.getD 30 undef = (bif neg then undef else .string (encS b)) := hR.dep ⟨5, .data⟩ (by simp) rfl
              have e6 : a.tmps.getD 31 undef = (bif neg then undef else .string (encS 1)) := hR.dep ⟨6, .data⟩ (by simp) rfl
              have e3 : a.tmps.getD 28 undef = .bool (!neg) := hR.dep ⟨3, .guard⟩ (by simp) rfl
              cases neg
              · refine guard_step rfl rfl rfl (b := true) e3 ?_
                go_simp
                refine (HCM.out w).mono ?_
                rintro e w' ⟨rfl, rfl⟩
                exact hK _ _ (rfl) (Below.refl _ _)
              · refine guard_skip rfl rfl rfl (b := true) e3 (by decide) ?_
                exact hK _ _ rfl (Below.refl _ _)
            · simp at ho
              subst ho
              have e7 : a.tmps.getD 32 undef = (bif neg then undef else .int .i64 c) := hR.dep ⟨7, .data⟩ (by simp) rfl
              have e3 : a.tmps.getD 28 undef = .bool (!neg) := hR.dep ⟨3, .guard⟩ (by simp) rfl
              cases neg
              · refine guard_step rfl rfl rfl (b := true) e3 ?_
                go_simp
                exact hK _ _ (by show Value.bool _ = Value.bool Q; congr 1; rw [Bool.eq_iff_iff]; simp [HQ0.out]) (Below.refl _ _)
              · refine guard_skip rfl rfl rfl (b := true) e3 (by decide) ?_
                exact hK _ _ rfl (Below.refl _ _)
            · simp at ho
              subst ho
              have e3 : a.tmps.getD 28 undef = .bool (!neg) := hR.dep ⟨3, .data⟩ (by simp) rfl
              have e8 : a.tmps.getD 33 undef = (bif neg then undef else .bool Q) := hR.dep ⟨8, .data⟩ (by simp) rfl
              cases neg
              · refine plain_step rfl rfl ?_
                go_simp
                exact hK _ _ (rfl) (Below.refl _ _)
              · refine plain_step rfl rfl ?_
                go_simp
                exact hK _ _ (rfl) (Below.refl _ _)
            · simp at ho
              subst ho
              have e9 : a.tmps.getD 34 undef = .bool (!neg && Q) := hR.dep ⟨9, .data⟩ (by simp) rfl
              refine plain_step rfl rfl ?_
              go_simp
              exact hK _ _ (rfl) (Below.refl _ _)
          · intro s w hS hb
            have e10 : s 2 = .bool (!neg && Q) := hS 10 (by decide)
            simp only [over, Nat.zero_add, Nat.reduceAdd, Nat.reduceLeDiff, Nat.reduceLT, decide_true, decide_false, Bool.and_true, Bool.and_false, Bool.or_false, Bool.or_true, cond_true, cond_false]
            have HBX := Lib.hid (HB0.out.trans (hb.mono HB0.out.size))
            rw [e10]
            clear hS hb e10
            go_wp2_with fail
            go_ret
            have hbwf := HBX.out
            exact ⟨rfl, by first | exact hbwf | (rw [hba] at hbwf; exact hbwf)⟩
        · have q2 := enc_not_nil a0
          have qe2 := enc_some a0
          have HG := Lib.hid (fun w => rGcd_any (encS a) (encS b) w sn2.out sd2.out)
          simp only [numS_encS] at HG
          have HOF := Lib.hid (fun w => rOf_any 1 w (by decide))
          simp only [show (1 : Int).toNat = 1 from rfl] at HOF
          obtain ⟨g, hg⟩ : ∃ g, Nat.gcd a b = g := ⟨_, rfl⟩
          have hgb : g ≤ b := by rw [← hg]; exact Nat.gcd_le_right _ (by omega)
          have hgs : (encS g).size ≤ 100000000 := by
            have h1 : Sz b 1000000 := by
              have := Sz.num (encS b); rw [numS_encS] at this; exact this.mono sd2.out
            exact Nat.le_trans (encS_size_lt (h1.le hgb)) (by decide)
          have HCM := Lib.hid (fun w => rCmp_any (encS g) (encS 1) w hgs (Nat.le_trans (encS_size_lt sz_one) (by decide)))
          simp only [numS_encS] at HCM
          rw [hg] at HG
          have HE : Hid ((decide (0 < b) && decide (Nat.gcd a b = 1) && (!neg || decide (0 < a))) = decide (g = 1)) := Lib.hid (by
            simp only [hg]
            have h1 : 0 < a := by omega
            have h2 : 0 < b := by omega
            simp [h1, h2])
          rw [HE.out]
          clear hg hgb hgs a0 b0
          go_enter Tryz.func42, Tryz.ntmps42
          go_wp2_with fail
          refine (H1.out _).mono ?_
          rintro e w1 ⟨rfl, rfl⟩
          go_wp2_with fail
          refine (H2.out _).mono ?_
          rintro e w1 ⟨rfl, rfl⟩
          go_wp2_with fail
          refine (HG.out _).mono ?_
          rintro e w2 ⟨rfl, hb⟩
          have HB2 := Lib.hid (HB0.out.trans (hb.mono HB0.out.size))
          clear hb ca0 ca1 ca2 hW1
          go_wp2_with fail
          refine (HOF.out _).mono ?_
          rintro e w3 ⟨rfl, hb⟩
          have HB3 := Lib.hid (HB2.out.trans (hb.mono HB2.out.size))
          clear hb
          go_wp2_with fail
          refine (HCM.out _).mono ?_
          rintro e w4 ⟨rfl, rfl⟩
          by_cases hg1 : g = 1
          · subst hg1
            rw [cmpI_eq]
            go_wp2_with fail
            go_ret
            exact ⟨rfl, HB3.out⟩
          · have hc0 : cmpI g 1 ≠ 0 := by
              unfold cmpI
              split
              · decide
              · split
                · decide
                · omega
            obtain ⟨c, hc⟩ : ∃ c, cmpI g 1 = c := ⟨_, rfl⟩
            rw [hc] at hc0 ⊢
            have HD : Hid (decide (g = 1) = false) := Lib.hid (by simp [hg1])
            clear hg1 hc
            go_wp2_with fail
            go_ret
            exact ⟨by rw [HD.out]; simp [hc0], HB3.out⟩
    · have hf : rightN d = false := by simpa using r2
      have HE : Hid (rightR neg n d = false) := Lib.hid (by unfold rightR; simp [hf])
      rw [HE.out]
      rw [hf] at H2; rw [r1] at H1
      clear hf r1 r2
      go_enter Tryz.func42, Tryz.ntmps42
      go_wp2_with fail
      refine (H1.out _).mono ?_
      rintro e w1 ⟨rfl, rfl⟩
      go_wp2_with fail
      refine (H2.out _).mono ?_
      rintro e w1 ⟨rfl, rfl⟩
      go_wp2_with fail
      go_ret
      exact ⟨rfl, HB0.out⟩
  · have hf : rightN n = false := by simpa using r1
    have HE : Hid (rightR neg n d = false) := Lib.hid (by unfold rightR; simp [hf])
    rw [HE.out]
    rw [hf] at H1
    clear hf r1
    go_enter Tryz.func42, Tryz.ntmps42
    go_wp2_with fail
    refine (H1.out _).mono ?_
    rintro e w1 ⟨rfl, rfl⟩
    go_wp2_with fail
    refine (H2.out _).mono ?_
    rintro e w1 ⟨rfl, rfl⟩
    go_wp2_with fail
    go_ret
    exact ⟨rfl, HB0.out⟩
end Go.Proofs.YtancflpioigjbaaGreatDoor
