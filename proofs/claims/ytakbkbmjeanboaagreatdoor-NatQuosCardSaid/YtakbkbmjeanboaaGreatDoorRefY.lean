/- minus, Sub of the reference implementation. Each theorem names its conditions. -/
import Derived.Test.YtakbkbmjeanboaaGreatDoorRefX
namespace Go.Proofs.YtakbkbmjeanboaaGreatDoor
open Go.RowKit Go.Shelf
open Dgt
set_option linter.unusedVariables false

theorem sub_round {B k c x y r c2 Tu Tv : Nat} {o : List Nat} (hl : o.length = k) (hv : valB B o + Tv = Tu + c * B ^ k) (hs : r + y + c = x + B * c2) :
    valB B (o ++ [r]) + (Tv + B ^ k * y) = (Tu + B ^ k * x) + c2 * B ^ (k + 1) := by
  rw [valB_snoc, hl, Nat.pow_succ]
  obtain ⟨P, hP⟩ : ∃ P, B ^ k = P := ⟨_, rfl⟩
  rw [hP] at hv ⊢
  have h1 : P * r + P * y + P * c = P * x + c2 * (P * B) := by
    rw [← Nat.mul_add, ← Nat.mul_add, hs, Nat.mul_add, Nat.mul_comm c2, Nat.mul_assoc]
  rw [Nat.mul_comm c P] at hv
  omega
theorem sub_end {B n c TU TV : Nat} {o : List Nat} (ho : okB B o) (hl : o.length = n) (hv : valB B o + TV = TU + c * B ^ n) (hc : c ≤ 1) (hle : TV ≤ TU) : valB B o = TU - TV := by
  have h := valB_lt ho
  rw [hl] at h
  obtain ⟨P, hP⟩ : ∃ P, B ^ n = P := ⟨_, rfl⟩
  rw [hP] at hv h
  rcases (by omega : c = 0 ∨ c = 1) with rfl | rfl <;> omega
/-- an empty slice without memory has no room -/
def OkS (v : Value) : Prop := ∀ n c, v = .slice none n c → c = 0
theorem own_shape {W : World} {base size : Nat} {e : TypeId} {v : Value} {n : Nat} {xs : List Value} (h : W.ownsRow base e size v n xs) : ∃ p k c, v = .slice p k c ∧ (p = none → c = 0) ∧ (∀ g off s, p = some ⟨g, off, s⟩ → base ≤ g ∧ off = 0 ∧ s = none) ∧ (p = none → n = 0) := by
  rcases h.2 with ⟨rfl, h0⟩ | ⟨g, cap, cur, rfl, hg, hgh, hnc, hcm, hcs, hct⟩
  · exact ⟨none, 0, 0, rfl, fun _ => rfl, fun g off s h => (by cases h), fun _ => h0⟩
  · exact ⟨some ⟨g, 0, none⟩, n, cap, rfl, fun h => (by cases h), fun g' off s h => (by cases h; exact ⟨hg, rfl, rfl⟩), fun h => (by cases h)⟩
set_option maxHeartbeats 4000000 in
set_option maxRecDepth 100000 in
theorem rminus_ok (vu vv : Value) (U V : List Nat) (w : World) (hu : LimR w vu U) (hv : LimR w vv V) (hle : valB 16777216 V ≤ valB 16777216 U) (hlen : V.length ≤ U.length) (hl9 : U.length ≤ 30000000) :
    Calls Tryz.prog 45 #[vu, vv] w fun e w' => ∃ v', e = .returned v' ∧ LimR w' v' (digs 16777216 (valB 16777216 U - valB 16777216 V)) ∧ OkS v' ∧ Below w.heap.size w w' := by
  obtain ⟨i0, hi, hz0, hz1, hz2⟩ := info_partsN infoInt
  obtain ⟨pu, nu, cu, rfl, hnu, hcu, -⟩ := hu.open_
  obtain ⟨pv, nv, cv, rfl, hnv, hcv, -⟩ := hv.open_
  have HU := Lib.hid hu; have HV := Lib.hid hv; have HNU := Lib.hid hnu; have HNV := Lib.hid hnv
  have HLE := Lib.hid hle; have HLEN := Lib.hid hlen; have HL9 := Lib.hid hl9
  have hnu9 : (nu : Int) ≤ 30000000 := by omega
  have hnv9 : (nv : Int) ≤ 30000000 := by omega
  have hcu' : (nu : Int) ≤ (cu : Int) := by omega
  have hcv' : (nv : Int) ≤ (cv : Int) := by omega
  clear hu hv hle hlen hl9 hnu hnv hcu hcv
  go_enter Tryz.func45, Tryz.ntmps45
  go_wp2_with fail
  go_loopw [5, 6, 7] (fun v c i wr => ∃ (k : Nat) (o : List Nat) (cc : Nat), i = .int .i64 (k : Int) ∧ c = .int .i64 (cc : Int) ∧ Hid (cc ≤ 1) ∧ Hid (k ≤ nu) ∧ Hid (o.length = k) ∧ Hid (okB 16777216 o) ∧ Hid (valB 16777216 o + valB 16777216 (V.take k) = valB 16777216 (U.take k) + cc * 16777216 ^ k) ∧ Hid (wr.ownsRow w.heap.size 3 1 v o.length (digC .i64 o)) ∧ Hid (Below w.heap.size w wr)) (fun _ _ i _ => nu - (intOf i).toNat)
  case atStart => exact ⟨0, [], 0, rfl, rfl, Lib.hid (by decide), Lib.hid (Nat.zero_le _), Lib.hid rfl, Lib.hid (okB_nil _), Lib.hid rfl, Lib.hid (World.ownsRow_nil _ _ _ _), Lib.hid (Below.refl _ _)⟩
  case round =>
    obtain ⟨k, o, cc, rfl, rfl, HC1, HKM, HOL, HOK, HVS, HOWN, HBW⟩ := hrel
    have hk9 : (k : Int) ≤ 30000000 := by have := HKM.out; omega
    by_cases hku : k < nu
    · obtain ⟨x, hx⟩ : ∃ x, U.getD k 0 = x := ⟨_, rfl⟩
      obtain ⟨y, hy⟩ : ∃ y, V.getD k 0 = y := ⟨_, rfl⟩
      have hxB : x < 16777216 := by rw [← hx]; exact getD_lt (by decide) HU.out.ok k
      have hyB : y < 16777216 := by rw [← hy]; exact getD_lt (by decide) HV.out.ok k
      have HX := Lib.hid hx; have HY := Lib.hid hy
      have hul : k < U.length := by have := HNU.out; omega
      obtain ⟨g1, off1, rfl, hg1, hcell1⟩ := HU.out.cell hul
      rw [← getD_at hul, hx] at hcell1
      have c1 : wr.cell? ⟨g1, off1 + k, none⟩ = some (.int .i64 (x : Int)) := by rw [cell_up HBW.out hg1]; exact hcell1
      have ku : (k : Int) < (nu : Int) := by omega
      have hcc := HC1.out
      by_cases hkv : k < nv
      · by_cases hdc : (x : Int) - cc - y < 0
        · have hvl : k < V.length := by have := HNV.out; omega
          obtain ⟨g2, off2, rfl, hg2, hcell2⟩ := HV.out.cell hvl
          rw [← getD_at hvl, hy] at hcell2
          have c2 : wr.cell? ⟨g2, off2 + k, none⟩ = some (.int .i64 (y : Int)) := by rw [cell_up HBW.out hg2]; exact hcell2
          obtain ⟨r, hr⟩ : ∃ r : Nat, (x : Int) - cc - y + 16777216 * 1 = (r : Int) := ⟨((x : Int) - cc - y + 16777216 * 1).toNat, by omega⟩
          have hsr := sub_round (B := 16777216) (c2 := 1) (x := x) (y := y) (r := r) HOL.out HVS.out (by omega)
          rw [← hx, ← hy, ← take_getD, ← take_getD] at hsr
          have HSR := Lib.hid hsr
          have HRB : Hid (r < 16777216) := Lib.hid (by omega)
          obtain ⟨t, ht⟩ : ∃ t : Int, (x : Int) - (cc : Int) = t := ⟨_, rfl⟩
          have ht0 : -1 ≤ t := by omega
          have ht1 : t < 16777216 := by omega
          obtain ⟨d, hd⟩ : ∃ d : Int, t - (y : Int) = d := ⟨_, rfl⟩
          have hd0 : -16777216 ≤ d := by omega
          have hd1 : d < 16777216 := by omega
          have hdn : d < 0 := by omega
          have f3 : d + 16777216 = (r : Int) := by omega
          have hr9 : (r : Int) < 16777216 := by omega
          have kv : (k : Int) < (nv : Int) := by omega
          clear hx hy hsr hr hcc hyB hxB hku hkv hul hcell1 hdc hvl hcell2
          go_wp2_with (first | (at_builtin; refine wpList_append_own _ rfl _ _ 46 rfl w.heap.size 3 i0 (.int .i64 0) 1 8 Tryz.underlying46 hi hz0 hz1 hz2 rfl (by decide) _ _ _ rfl (HOWN.out.alloc _) ⟨wr.heap.size, 0, none⟩ 1 1 [.int .i64 r] rfl rfl (cell_fresh wr _ _) (by simp [Value.oneCell']) (by have := HOL.out; unfold maxLen; omega) (by have := HOL.out; omega) (by have := HBW.out.size; simp; omega) ?_; intro v1 w1 hown' hgrow hnn; have HO1 := Lib.hid hown'; have HG1 := Lib.hid hgrow; clear hown' hgrow hnn) | fail)
          go_roundw
          case rel => exact ⟨k + 1, o ++ [r], 1, by go_num, rfl, Lib.hid (by decide), Lib.hid (by omega), Lib.hid (by rw [List.length_append, HOL.out]; rfl), Lib.hid (HOK.out.append (fun y hy => by simp at hy; rw [hy]; exact HRB.out)), HSR, Lib.hid (by rw [List.length_append, digC, List.map_append]; exact HO1.out), Lib.hid (below_grown HBW.out HOWN.out HG1.out (Nat.le_refl _))⟩
          case measure => simp [intOf]; omega
        · have hvl : k < V.length := by have := HNV.out; omega
          obtain ⟨g2, off2, rfl, hg2, hcell2⟩ := HV.out.cell hvl
          rw [← getD_at hvl, hy] at hcell2
          have c2 : wr.cell? ⟨g2, off2 + k, none⟩ = some (.int .i64 (y : Int)) := by rw [cell_up HBW.out hg2]; exact hcell2
          obtain ⟨r, hr⟩ : ∃ r : Nat, (x : Int) - cc - y + 16777216 * 0 = (r : Int) := ⟨((x : Int) - cc - y + 16777216 * 0).toNat, by omega⟩
          have hsr := sub_round (B := 16777216) (c2 := 0) (x := x) (y := y) (r := r) HOL.out HVS.out (by omega)
          rw [← hx, ← hy, ← take_getD, ← take_getD] at hsr
          have HSR := Lib.hid hsr
          have HRB : Hid (r < 16777216) := Lib.hid (by omega)
          obtain ⟨t, ht⟩ : ∃ t : Int, (x : Int) - (cc : Int) = t := ⟨_, rfl⟩
          have ht0 : -1 ≤ t := by omega
          have ht1 : t < 16777216 := by omega
          obtain ⟨d, hd⟩ : ∃ d : Int, t - (y : Int) = d := ⟨_, rfl⟩
          have hd0 : -16777216 ≤ d := by omega
          have hd1 : d < 16777216 := by omega
          have hdn : ¬ d < 0 := by omega
          have f3 : d = (r : Int) := by omega
          subst f3
          have hr9 : (r : Int) < 16777216 := by omega
          have kv : (k : Int) < (nv : Int) := by omega
          clear hx hy hsr hr hcc hyB hxB hku hkv hul hcell1 hdc hvl hcell2
          go_wp2_with (first | (at_builtin; refine wpList_append_own _ rfl _ _ 46 rfl w.heap.size 3 i0 (.int .i64 0) 1 8 Tryz.underlying46 hi hz0 hz1 hz2 rfl (by decide) _ _ _ rfl (HOWN.out.alloc _) ⟨wr.heap.size, 0, none⟩ 1 1 [.int .i64 r] rfl rfl (cell_fresh wr _ _) (by simp [Value.oneCell']) (by have := HOL.out; unfold maxLen; omega) (by have := HOL.out; omega) (by have := HBW.out.size; simp; omega) ?_; intro v1 w1 hown' hgrow hnn; have HO1 := Lib.hid hown'; have HG1 := Lib.hid hgrow; clear hown' hgrow hnn) | fail)
          go_roundw
          case rel => exact ⟨k + 1, o ++ [r], 0, by go_num, rfl, Lib.hid (by decide), Lib.hid (by omega), Lib.hid (by rw [List.length_append, HOL.out]; rfl), Lib.hid (HOK.out.append (fun y hy => by simp at hy; rw [hy]; exact HRB.out)), HSR, Lib.hid (by rw [List.length_append, digC, List.map_append]; exact HO1.out), Lib.hid (below_grown HBW.out HOWN.out HG1.out (Nat.le_refl _))⟩
          case measure => simp [intOf]; omega
      · by_cases hdc : (x : Int) - cc - y < 0
        · have hy0 : y = 0 := by rw [← hy]; exact getD_ge (by have := HNV.out; omega)
          obtain ⟨r, hr⟩ : ∃ r : Nat, (x : Int) - cc - y + 16777216 * 1 = (r : Int) := ⟨((x : Int) - cc - y + 16777216 * 1).toNat, by omega⟩
          have hsr := sub_round (B := 16777216) (c2 := 1) (x := x) (y := y) (r := r) HOL.out HVS.out (by omega)
          rw [← hx, ← hy, ← take_getD, ← take_getD] at hsr
          have HSR := Lib.hid hsr
          have HRB : Hid (r < 16777216) := Lib.hid (by omega)
          obtain ⟨d, hd⟩ : ∃ d : Int, (x : Int) - (cc : Int) = d := ⟨_, rfl⟩
          have hd0 : -16777216 ≤ d := by omega
          have hd1 : d < 16777216 := by omega
          have hdn : d < 0 := by omega
          have f3 : d + 16777216 = (r : Int) := by omega
          have hr9 : (r : Int) < 16777216 := by omega
          have kv : ¬ (k : Int) < (nv : Int) := by omega
          clear hx hy hsr hr hcc hyB hxB hku hkv hul hcell1 hdc hy0
          go_wp2_with (first | (at_builtin; refine wpList_append_own _ rfl _ _ 46 rfl w.heap.size 3 i0 (.int .i64 0) 1 8 Tryz.underlying46 hi hz0 hz1 hz2 rfl (by decide) _ _ _ rfl (HOWN.out.alloc _) ⟨wr.heap.size, 0, none⟩ 1 1 [.int .i64 r] rfl rfl (cell_fresh wr _ _) (by simp [Value.oneCell']) (by have := HOL.out; unfold maxLen; omega) (by have := HOL.out; omega) (by have := HBW.out.size; simp; omega) ?_; intro v1 w1 hown' hgrow hnn; have HO1 := Lib.hid hown'; have HG1 := Lib.hid hgrow; clear hown' hgrow hnn) | fail)
          go_roundw
          case rel => exact ⟨k + 1, o ++ [r], 1, by go_num, rfl, Lib.hid (by decide), Lib.hid (by omega), Lib.hid (by rw [List.length_append, HOL.out]; rfl), Lib.hid (HOK.out.append (fun y hy => by simp at hy; rw [hy]; exact HRB.out)), HSR, Lib.hid (by rw [List.length_append, digC, List.map_append]; exact HO1.out), Lib.hid (below_grown HBW.out HOWN.out HG1.out (Nat.le_refl _))⟩
          case measure => simp [intOf]; omega
        · have hy0 : y = 0 := by rw [← hy]; exact getD_ge (by have := HNV.out; omega)
          obtain ⟨r, hr⟩ : ∃ r : Nat, (x : Int) - cc - y + 16777216 * 0 = (r : Int) := ⟨((x : Int) - cc - y + 16777216 * 0).toNat, by omega⟩
          have hsr := sub_round (B := 16777216) (c2 := 0) (x := x) (y := y) (r := r) HOL.out HVS.out (by omega)
          rw [← hx, ← hy, ← take_getD, ← take_getD] at hsr
          have HSR := Lib.hid hsr
          have HRB : Hid (r < 16777216) := Lib.hid (by omega)
          obtain ⟨d, hd⟩ : ∃ d : Int, (x : Int) - (cc : Int) = d := ⟨_, rfl⟩
          have hd0 : -16777216 ≤ d := by omega
          have hd1 : d < 16777216 := by omega
          have hdn : ¬ d < 0 := by omega
          have f3 : d = (r : Int) := by omega
          subst f3
          have hr9 : (r : Int) < 16777216 := by omega
          have kv : ¬ (k : Int) < (nv : Int) := by omega
          clear hx hy hsr hr hcc hyB hxB hku hkv hul hcell1 hdc hy0
          go_wp2_with (first | (at_builtin; refine wpList_append_own _ rfl _ _ 46 rfl w.heap.size 3 i0 (.int .i64 0) 1 8 Tryz.underlying46 hi hz0 hz1 hz2 rfl (by decide) _ _ _ rfl (HOWN.out.alloc _) ⟨wr.heap.size, 0, none⟩ 1 1 [.int .i64 r] rfl rfl (cell_fresh wr _ _) (by simp [Value.oneCell']) (by have := HOL.out; unfold maxLen; omega) (by have := HOL.out; omega) (by have := HBW.out.size; simp; omega) ?_; intro v1 w1 hown' hgrow hnn; have HO1 := Lib.hid hown'; have HG1 := Lib.hid hgrow; clear hown' hgrow hnn) | fail)
          go_roundw
          case rel => exact ⟨k + 1, o ++ [r], 0, by go_num, rfl, Lib.hid (by decide), Lib.hid (by omega), Lib.hid (by rw [List.length_append, HOL.out]; rfl), Lib.hid (HOK.out.append (fun y hy => by simp at hy; rw [hy]; exact HRB.out)), HSR, Lib.hid (by rw [List.length_append, digC, List.map_append]; exact HO1.out), Lib.hid (below_grown HBW.out HOWN.out HG1.out (Nat.le_refl _))⟩
          case measure => simp [intOf]; omega
    · have hkn : k = nu := by have := HKM.out; omega
      have hfin := sub_end HOK.out HOL.out (by have h := HVS.out; rw [List.take_of_length_le (l := V) (by have := HNU.out; have := HLEN.out; omega), List.take_of_length_le (l := U) (by have := HNU.out; omega)] at h; exact h) HC1.out HLE.out
      have HFIN := Lib.hid hfin
      have HLR := Lib.hid (LimR.own HOWN.out HOK.out (by have := HOL.out; omega))
      have ku : ¬ (k : Int) < (nu : Int) := by omega
      obtain ⟨po, no, co, hvo, hpo, -, -⟩ := own_shape HOWN.out
      have HPO := Lib.hid hpo
      have hvo2 := hvo
      rw [hvo] at HLR
      clear hfin hku hkn hpo hvo2
      subst hvo
      go_wp2_with fail
      refine (rtrim_at _ _ _ _ _ HLR.out).mono ?_
      rintro e w4 ⟨k', rfl, hl, rfl⟩
      have HT := Lib.hid (show LimR wr (.slice po k' co) (digs 16777216 (valB 16777216 U - valB 16777216 V)) by rw [← HFIN.out]; exact hl)
      clear hl
      go_wp2_with fail
      go_ret
      exact ⟨_, rfl, HT.out, fun n c e => by cases e; exact HPO.out rfl, HBW.out⟩
theorem rminus_any (vu vv : Value) (U V : List Nat) (w : World) (hu : LimR w vu U) (hv : LimR w vv V) (hle : valB 16777216 V ≤ valB 16777216 U) (hlen : V.length ≤ U.length) (hl9 : U.length ≤ 30000000) :
    Calls Tryz.prog 45 #[vu, vv] w fun e w' => ∃ v', e = .returned v' ∧ LimR w' v' (digs 16777216 (valB 16777216 U - valB 16777216 V)) ∧ Below w.heap.size w w' :=
  (rminus_ok vu vv U V w hu hv hle hlen hl9).mono fun e w' ⟨v', h1, h2, h3, h4⟩ => ⟨v', h1, h2, h4⟩
set_option maxHeartbeats 4000000 in
set_option maxRecDepth 100000 in
theorem rSub_any (a b : ByteArray) (w : World) (ha : a.size ≤ 1000000) (hb : b.size ≤ 1000000) :
    Calls Tryz.prog 18 #[.string a, .string b] w fun e w' => e = .returned (.tuple #[.string (encS (numS a - numS b)), .bool (decide (numS b ≤ numS a))]) ∧ Below w.heap.size w w' := by
  have HCM := Lib.hid (rCmp_any a b · (by omega) (by omega))
  have OA := Lib.hid (rof_any a · (by omega)); have OB := Lib.hid (rof_any b · (by omega))
  have la : (digs 16777216 (numS a)).length ≤ 1000000 := Nat.le_trans (digs_len_le (by decide) (Nat.lt_of_lt_of_le (numS_lt a) (Nat.pow_le_pow_left (by decide) _))) ha
  obtain ⟨A, hA⟩ : ∃ A, numS a = A := ⟨_, rfl⟩
  obtain ⟨B, hB⟩ : ∃ B, numS b = B := ⟨_, rfl⟩
  rw [hA] at OA la HCM; rw [hB] at OB HCM
  rw [hA, hB]
  have LA := Lib.hid la
  clear ha hb la hA hB
  rcases Nat.lt_or_ge A B with hlt | hge
  · rw [cmpI_lt hlt] at HCM
    have hE : Hid (encS (A - B) = ⟨#[]⟩) := Lib.hid (by rw [show A - B = 0 by omega, encS_zero])
    have hD : Hid (decide (B ≤ A) = false) := Lib.hid (by rw [decide_eq_false_iff_not]; omega)
    clear hlt
    go_enter Tryz.func18, Tryz.ntmps18
    go_wp2_with fail
    refine (HCM.out _).mono ?_
    rintro e w1 ⟨rfl, rfl⟩
    go_wp2_with fail
    go_ret2
    exact ⟨by rw [hE.out, hD.out]; rfl, Below.refl _ _⟩
  · obtain ⟨c, hc, hc0⟩ := cmp_ge hge
    rw [hc] at HCM
    have hc0' : ¬ c < 0 := by omega
    have hD : Hid (decide (B ≤ A) = true) := Lib.hid (by rw [decide_eq_true_eq]; omega)
    have HGE := Lib.hid hge
    have HLN := Lib.hid (digs_len_mono (B := 16777216) (by decide) hge)
    clear hge hc hc0
    go_enter Tryz.func18, Tryz.ntmps18
    go_wp2_with fail
    refine (HCM.out _).mono ?_
    rintro e w1 ⟨rfl, rfl⟩
    go_wp2_with fail
    refine (OA.out _).mono ?_
    rintro e w1 ⟨vu, rfl, hl, hb⟩
    have HU := Lib.hid hl; have HB := Lib.hid hb
    clear hl hb
    go_wp2_with fail
    refine (OB.out _).mono ?_
    rintro e w2 ⟨vv, rfl, hl, hb⟩
    have HU := Lib.hid (HU.out.up hb); have HV := Lib.hid hl; have HB := Lib.hid (HB.out.trans (hb.mono HB.out.size))
    clear hl hb
    go_wp2_with fail
    refine (rminus_any _ _ _ _ _ HU.out HV.out (by rw [valB_digs (by decide), valB_digs (by decide)]; exact HGE.out) HLN.out (by have := LA.out; omega)).mono ?_
    rintro e w3 ⟨vm, rfl, hl, hb⟩
    rw [valB_digs (by decide), valB_digs (by decide)] at hl
    have HM := Lib.hid hl; have HB := Lib.hid (HB.out.trans (hb.mono HB.out.size))
    clear hl hb
    go_wp2_with fail
    refine (rnumber_any _ _ _ HM.out (Nat.le_trans (digs_len_mono (by decide) (Nat.sub_le _ _)) (by have := LA.out; omega))).mono ?_
    rintro e w4 ⟨rfl, hb⟩
    rw [valB_digs (by decide)]
    have HB := Lib.hid (HB.out.trans (hb.mono HB.out.size))
    clear hb
    go_wp2_with fail
    go_ret2
    exact ⟨by rw [hD.out]; rfl, HB.out⟩
end Go.Proofs.YtakbkbmjeanboaaGreatDoor
