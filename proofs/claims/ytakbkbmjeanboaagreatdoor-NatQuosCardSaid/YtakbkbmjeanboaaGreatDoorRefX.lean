/- Add of the reference implementation. Each theorem names its conditions. -/
import Derived.Test.YtakbkbmjeanboaaGreatDoorRefW
namespace Go.Proofs.YtakbkbmjeanboaaGreatDoor
open Go.RowKit Go.Shelf
open Dgt
set_option linter.unusedVariables false

theorem take_getD (B : Nat) (l : List Nat) (k : Nat) : valB B (l.take (k + 1)) = valB B (l.take k) + B ^ k * l.getD k 0 := by
  rcases Nat.lt_or_ge k l.length with h | h
  · rw [valB_take_succ h, List.getD_eq_getElem?_getD, List.getElem?_eq_getElem h]; rfl
  · rw [List.take_of_length_le (by omega), List.take_of_length_le h, List.getD_eq_getElem?_getD, List.getElem?_eq_none h]; simp
theorem getD_lt {B : Nat} (hB : 0 < B) {l : List Nat} (h : okB B l) (k : Nat) : l.getD k 0 < B := by
  rcases Nat.lt_or_ge k l.length with h1 | h1
  · rw [List.getD_eq_getElem?_getD, List.getElem?_eq_getElem h1]; exact h.get h1
  · rw [List.getD_eq_getElem?_getD, List.getElem?_eq_none h1]; exact hB
theorem getD_ge {l : List Nat} {k : Nat} (h : l.length ≤ k) : l.getD k 0 = 0 := by rw [List.getD_eq_getElem?_getD, List.getElem?_eq_none h]; rfl
theorem getD_at {l : List Nat} {k : Nat} (h : k < l.length) : l.getD k 0 = l[k] := by rw [List.getD_eq_getElem?_getD, List.getElem?_eq_getElem h]; rfl
theorem add_round {B k c x y s Tu Tv : Nat} {o : List Nat} (hl : o.length = k) (hv : valB B o + c * B ^ k = Tu + Tv) (hs : s = c + x + y) :
    valB B (o ++ [s % B]) + s / B * B ^ (k + 1) = (Tu + B ^ k * x) + (Tv + B ^ k * y) := by
  rw [valB_snoc, hl, Nat.pow_succ]
  obtain ⟨P, hP⟩ : ∃ P, B ^ k = P := ⟨_, rfl⟩
  rw [hP] at hv ⊢
  have h1 : P * (s % B) + s / B * (P * B) = P * s := by
    have := Nat.div_add_mod s B
    rw [Nat.mul_left_comm, ← Nat.mul_add, Nat.mul_comm (s / B) B, Nat.add_comm, this]
  rw [Nat.add_assoc, h1, hs, Nat.mul_add, Nat.mul_add]
  rw [Nat.mul_comm c P] at hv
  omega
set_option maxHeartbeats 4000000 in
set_option maxRecDepth 100000 in
theorem rAdd_any (a b : ByteArray) (w : World) (ha : a.size ≤ 1000000) (hb : b.size ≤ 1000000) :
    Calls Tryz.prog 15 #[.string a, .string b] w fun e w' => e = .returned (.string (encS (numS a + numS b))) ∧ Below w.heap.size w w' := by
  obtain ⟨i0, hi, hz0, hz1, hz2⟩ := info_partsN infoInt
  have SMA := Lib.hid (small_any a 7 · (by omega) (by decide)); have SMB := Lib.hid (small_any b 7 · (by omega) (by decide))
  have OA := Lib.hid (rof_any a · (by omega)); have OB := Lib.hid (rof_any b · (by omega))
  have la : (digs 16777216 (numS a)).length ≤ 1000000 := Nat.le_trans (digs_len_le (by decide) (Nat.lt_of_lt_of_le (numS_lt a) (Nat.pow_le_pow_left (by decide) _))) ha
  have lb : (digs 16777216 (numS b)).length ≤ 1000000 := Nat.le_trans (digs_len_le (by decide) (Nat.lt_of_lt_of_le (numS_lt b) (Nat.pow_le_pow_left (by decide) _))) hb
  have HA := Lib.hid ha; have HB0 := Lib.hid hb
  obtain ⟨A, hA⟩ : ∃ A, numS a = A := ⟨_, rfl⟩
  obtain ⟨B, hB⟩ : ∃ B, numS b = B := ⟨_, rfl⟩
  rw [hA] at SMA OA la; rw [hB] at SMB OB lb
  rw [hA, hB]
  have LA := Lib.hid la; have LB := Lib.hid lb
  clear ha hb la lb hA hB
  by_cases hab : (encS A).size ≤ 7 ∧ (encS B).size ≤ 7
  · obtain ⟨a1, a2, a3, -⟩ := small_yes (m := A) hab.1 (by decide)
    obtain ⟨b1, b2, b3, -⟩ := small_yes (m := B) hab.2 (by decide)
    rw [a1, a2] at SMA; rw [b1, b2] at SMB
    have hA9 : (A : Int) < 72057594037927936 := by omega
    have hB9 : (B : Int) < 72057594037927936 := by omega
    have HOF := Lib.hid (fun w => rOf_any ((A : Int) + (B : Int)) w (by omega))
    have e : ((A : Int) + (B : Int)).toNat = A + B := by omega
    rw [e] at HOF
    clear hab a1 a2 a3 b1 b2 b3 e
    go_enter Tryz.func15, Tryz.ntmps15
    go_wp2_with fail
    refine (SMA.out _).mono ?_
    rintro e w1 ⟨rfl, rfl⟩
    go_wp2_with fail
    refine (SMB.out _).mono ?_
    rintro e w1 ⟨rfl, rfl⟩
    go_wp2_with fail
    refine (HOF.out _).mono ?_
    rintro e w1 ⟨rfl, hb⟩
    have HBX := Lib.hid hb
    clear hb
    go_wp2_with fail
    go_ret
    exact ⟨rfl, HBX.out⟩
  obtain ⟨p1, x1, hp1⟩ : ∃ p x, (fun w => small_any a 7 w) = (fun w => small_any a 7 w) ∧ p = smallB A 7 ∧ x = smallV A 7 := ⟨_, _, rfl, rfl, rfl⟩
  obtain ⟨p2, x2, hp2⟩ : ∃ p x, p = smallB B 7 ∧ x = smallV B 7 := ⟨_, _, rfl, rfl⟩
  have hpp : p1 = false ∨ (p1 = true ∧ p2 = false) := by
    rw [hp1.2.1, hp2.1]
    rcases Nat.lt_or_ge 7 (encS A).size with h | h
    · exact .inl (small_no h).1
    · refine .inr ⟨(small_yes h (by decide)).1, (small_no ?_).1⟩
      rcases Nat.lt_or_ge 7 (encS B).size with h' | h'
      · exact h'
      · exact absurd ⟨h, h'⟩ hab
  rw [← hp1.2.1, ← hp1.2.2] at SMA
  rw [← hp2.1, ← hp2.2] at SMB
  clear hp1 hp2 hab
  go_enter Tryz.func15, Tryz.ntmps15
  go_wp2_with fail
  refine (SMA.out _).mono ?_
  rintro e w1 ⟨rfl, rfl⟩
  go_wp2_with fail
  refine (SMB.out _).mono ?_
  rintro e w1 ⟨rfl, rfl⟩
  rcases hpp with rfl | ⟨rfl, rfl⟩
  all_goals
    go_wp2_with fail
    refine (OA.out _).mono ?_
    rintro e w1 ⟨vu, rfl, hl, hb⟩
    have HU := Lib.hid hl; have HB := Lib.hid hb
    clear hl hb
    go_wp2_with fail
    refine (OB.out _).mono ?_
    rintro e w2 ⟨vv, rfl, hl, hb⟩
    have HU := Lib.hid (HU.out.up hb); have HV := Lib.hid hl; have HB := Lib.hid (HB.out.trans (hb.mono HB.out.size))
    clear hl hb
    obtain ⟨pu, nu, cu, rfl, hnu, hcu, -⟩ := HU.out.open_
    obtain ⟨pv, nv, cv, rfl, hnv, hcv, -⟩ := HV.out.open_
    obtain ⟨U, hU⟩ : ∃ U, digs 16777216 A = U := ⟨_, rfl⟩
    obtain ⟨V, hV⟩ : ∃ V, digs 16777216 B = V := ⟨_, rfl⟩
    have hUV : valB 16777216 U = A := by rw [← hU]; exact valB_digs (by decide) A
    have hVV : valB 16777216 V = B := by rw [← hV]; exact valB_digs (by decide) B
    rw [hU] at HU hnu LA; rw [hV] at HV hnv LB
    have HUV := Lib.hid hUV; have HVV := Lib.hid hVV; have HNU := Lib.hid hnu; have HNV := Lib.hid hnv
    have hnu9 : (nu : Int) ≤ 1000000 := by have := LA.out; omega
    have hnv9 : (nv : Int) ≤ 1000000 := by have := LB.out; omega
    have hcu' : (nu : Int) ≤ (cu : Int) := by omega
    have hcv' : (nv : Int) ≤ (cv : Int) := by omega
    clear hU hV hUV hVV hnu hnv hcu hcv
    go_wp2_with fail
    go_loopw [11, 12, 13] (fun v c i wr => ∃ (k : Nat) (o : List Nat) (cc : Nat), i = .int .i64 (k : Int) ∧ c = .int .i64 (cc : Int) ∧ Hid (cc ≤ 1) ∧ Hid (k ≤ max nu nv ∨ k = max nu nv + 1 ∧ cc = 0) ∧ Hid (o.length = k) ∧ Hid (okB 16777216 o) ∧ Hid (valB 16777216 o + cc * 16777216 ^ k = valB 16777216 (U.take k) + valB 16777216 (V.take k)) ∧ Hid (wr.ownsRow w2.heap.size 3 1 v o.length (digC .i64 o)) ∧ Hid (Below w2.heap.size w2 wr)) (fun _ _ i _ => max nu nv + 2 - (intOf i).toNat)
    case atStart => exact ⟨0, [], 0, rfl, rfl, Lib.hid (by decide), Lib.hid (by omega), Lib.hid rfl, Lib.hid (okB_nil _), Lib.hid rfl, Lib.hid (World.ownsRow_nil _ _ _ _), Lib.hid (Below.refl _ _)⟩
    case round =>
      obtain ⟨k, o, cc, rfl, rfl, HC1, HKM, HOL, HOK, HVS, HOWN, HBW⟩ := hrel
      have hk9 : (k : Int) ≤ 1000001 := by have := HKM.out; omega
      by_cases hku : k < nu
      · by_cases hkv : k < nv
        · obtain ⟨x, hx⟩ : ∃ x, U.getD k 0 = x := ⟨_, rfl⟩
          obtain ⟨y, hy⟩ : ∃ y, V.getD k 0 = y := ⟨_, rfl⟩
          have hxB : x < 16777216 := by rw [← hx]; exact getD_lt (by decide) HU.out.ok k
          have hyB : y < 16777216 := by rw [← hy]; exact getD_lt (by decide) HV.out.ok k
          have hsr := add_round (x := x) (y := y) HOL.out HVS.out rfl
          rw [← hx, ← hy, ← take_getD, ← take_getD, hx, hy] at hsr
          have hul : k < U.length := by have := HNU.out; omega
          obtain ⟨g1, off1, rfl, hg1, hcell1⟩ := HU.out.cell hul
          rw [← getD_at hul, hx] at hcell1
          have c1 : wr.cell? ⟨g1, off1 + k, none⟩ = some (.int .i64 (x : Int)) := by rw [cell_up HBW.out hg1]; exact hcell1
          have hvl : k < V.length := by have := HNV.out; omega
          obtain ⟨g2, off2, rfl, hg2, hcell2⟩ := HV.out.cell hvl
          rw [← getD_at hvl, hy] at hcell2
          have c2 : wr.cell? ⟨g2, off2 + k, none⟩ = some (.int .i64 (y : Int)) := by rw [cell_up HBW.out hg2]; exact hcell2
          have hcc := HC1.out
          obtain ⟨s, hs⟩ : ∃ s, cc + x + y = s := ⟨_, rfl⟩
          rw [hs] at hsr
          obtain ⟨r, hr⟩ : ∃ r, s % 16777216 = r := ⟨_, rfl⟩
          obtain ⟨q, hq⟩ : ∃ q, s / 16777216 = q := ⟨_, rfl⟩
          rw [hr, hq] at hsr
          have HSR := Lib.hid hsr
          have HRB : Hid (r < 16777216) := Lib.hid (by rw [← hr]; exact Nat.mod_lt _ (by decide))
          have HQ1 : Hid (q ≤ 1) := Lib.hid (by omega)
          have HKM2 : Hid (k + 1 ≤ max nu nv ∨ k + 1 = max nu nv + 1 ∧ q = 0) := Lib.hid (by omega)
          have f1 : (cc : Int) + (x : Int) = ((cc + x : Nat) : Int) := by omega
          have f2 : ((cc + x : Nat) : Int) + (y : Int) = (s : Int) := by omega
          obtain ⟨t, ht⟩ : ∃ t, cc + x = t := ⟨_, rfl⟩
          rw [ht] at f1 f2
          have ht9 : (t : Int) ≤ 16777217 := by omega
          have hs9 : (s : Int) ≤ 33554433 := by omega
          have f3 : (s : Int) % 16777216 = (r : Int) := by omega
          have f4 : (s : Int) / 16777216 = (q : Int) := by omega
          have ku : (k : Int) < (nu : Int) := by omega
          have kv : (k : Int) < (nv : Int) := by omega
          clear hx hy hsr hs hr hq hcc hxB hyB hku hkv hul hcell1 hvl hcell2 ht
          go_wp2_with (first | (at_builtin; refine wpList_append_own _ rfl _ _ 46 rfl w2.heap.size 3 i0 (.int .i64 0) 1 8 Tryz.underlying46 hi hz0 hz1 hz2 rfl (by decide) _ _ _ rfl (HOWN.out.alloc _) ⟨wr.heap.size, 0, none⟩ 1 1 [.int .i64 r] rfl rfl (cell_fresh wr _ _) (by simp [Value.oneCell']) (by have := HOL.out; unfold maxLen; omega) (by have := HOL.out; omega) (by have := HBW.out.size; simp; omega) ?_; intro v1 w1 hown' hgrow hnn; have HO1 := Lib.hid hown'; have HG1 := Lib.hid hgrow; clear hown' hgrow hnn) | fail)
          go_roundw
          case rel => exact ⟨k + 1, o ++ [r], q, by go_num, rfl, HQ1, HKM2, Lib.hid (by rw [List.length_append, HOL.out]; rfl), Lib.hid (HOK.out.append (fun y hy => by simp at hy; rw [hy]; exact HRB.out)), HSR, Lib.hid (by rw [List.length_append, digC, List.map_append]; exact HO1.out), Lib.hid (below_grown HBW.out HOWN.out HG1.out (Nat.le_refl _))⟩
          case measure => simp [intOf]; have := HKM.out; omega
        · obtain ⟨x, hx⟩ : ∃ x, U.getD k 0 = x := ⟨_, rfl⟩
          obtain ⟨y, hy⟩ : ∃ y, V.getD k 0 = y := ⟨_, rfl⟩
          have hxB : x < 16777216 := by rw [← hx]; exact getD_lt (by decide) HU.out.ok k
          have hyB : y < 16777216 := by rw [← hy]; exact getD_lt (by decide) HV.out.ok k
          have hsr := add_round (x := x) (y := y) HOL.out HVS.out rfl
          rw [← hx, ← hy, ← take_getD, ← take_getD, hx, hy] at hsr
          have hy0 : y = 0 := by rw [← hy]; exact getD_ge (by have := HNV.out; omega)
          have hul : k < U.length := by have := HNU.out; omega
          obtain ⟨g1, off1, rfl, hg1, hcell1⟩ := HU.out.cell hul
          rw [← getD_at hul, hx] at hcell1
          have c1 : wr.cell? ⟨g1, off1 + k, none⟩ = some (.int .i64 (x : Int)) := by rw [cell_up HBW.out hg1]; exact hcell1
          have hcc := HC1.out
          obtain ⟨s, hs⟩ : ∃ s, cc + x + y = s := ⟨_, rfl⟩
          rw [hs] at hsr
          obtain ⟨r, hr⟩ : ∃ r, s % 16777216 = r := ⟨_, rfl⟩
          obtain ⟨q, hq⟩ : ∃ q, s / 16777216 = q := ⟨_, rfl⟩
          rw [hr, hq] at hsr
          have HSR := Lib.hid hsr
          have HRB : Hid (r < 16777216) := Lib.hid (by rw [← hr]; exact Nat.mod_lt _ (by decide))
          have HQ1 : Hid (q ≤ 1) := Lib.hid (by omega)
          have HKM2 : Hid (k + 1 ≤ max nu nv ∨ k + 1 = max nu nv + 1 ∧ q = 0) := Lib.hid (by omega)
          have f1 : (cc : Int) + (x : Int) = (s : Int) := by omega
          have hs9 : (s : Int) ≤ 33554433 := by omega
          have f3 : (s : Int) % 16777216 = (r : Int) := by omega
          have f4 : (s : Int) / 16777216 = (q : Int) := by omega
          have ku : (k : Int) < (nu : Int) := by omega
          have kv : ¬ (k : Int) < (nv : Int) := by omega
          clear hx hy hsr hs hr hq hcc hxB hyB hku hkv hy0 hul hcell1
          go_wp2_with (first | (at_builtin; refine wpList_append_own _ rfl _ _ 46 rfl w2.heap.size 3 i0 (.int .i64 0) 1 8 Tryz.underlying46 hi hz0 hz1 hz2 rfl (by decide) _ _ _ rfl (HOWN.out.alloc _) ⟨wr.heap.size, 0, none⟩ 1 1 [.int .i64 r] rfl rfl (cell_fresh wr _ _) (by simp [Value.oneCell']) (by have := HOL.out; unfold maxLen; omega) (by have := HOL.out; omega) (by have := HBW.out.size; simp; omega) ?_; intro v1 w1 hown' hgrow hnn; have HO1 := Lib.hid hown'; have HG1 := Lib.hid hgrow; clear hown' hgrow hnn) | fail)
          go_roundw
          case rel => exact ⟨k + 1, o ++ [r], q, by go_num, rfl, HQ1, HKM2, Lib.hid (by rw [List.length_append, HOL.out]; rfl), Lib.hid (HOK.out.append (fun y hy => by simp at hy; rw [hy]; exact HRB.out)), HSR, Lib.hid (by rw [List.length_append, digC, List.map_append]; exact HO1.out), Lib.hid (below_grown HBW.out HOWN.out HG1.out (Nat.le_refl _))⟩
          case measure => simp [intOf]; have := HKM.out; omega
      · by_cases hkv : k < nv
        · obtain ⟨x, hx⟩ : ∃ x, U.getD k 0 = x := ⟨_, rfl⟩
          obtain ⟨y, hy⟩ : ∃ y, V.getD k 0 = y := ⟨_, rfl⟩
          have hxB : x < 16777216 := by rw [← hx]; exact getD_lt (by decide) HU.out.ok k
          have hyB : y < 16777216 := by rw [← hy]; exact getD_lt (by decide) HV.out.ok k
          have hsr := add_round (x := x) (y := y) HOL.out HVS.out rfl
          rw [← hx, ← hy, ← take_getD, ← take_getD, hx, hy] at hsr
          have hx0 : x = 0 := by rw [← hx]; exact getD_ge (by have := HNU.out; omega)
          have hvl : k < V.length := by have := HNV.out; omega
          obtain ⟨g2, off2, rfl, hg2, hcell2⟩ := HV.out.cell hvl
          rw [← getD_at hvl, hy] at hcell2
          have c2 : wr.cell? ⟨g2, off2 + k, none⟩ = some (.int .i64 (y : Int)) := by rw [cell_up HBW.out hg2]; exact hcell2
          have hcc := HC1.out
          obtain ⟨s, hs⟩ : ∃ s, cc + x + y = s := ⟨_, rfl⟩
          rw [hs] at hsr
          obtain ⟨r, hr⟩ : ∃ r, s % 16777216 = r := ⟨_, rfl⟩
          obtain ⟨q, hq⟩ : ∃ q, s / 16777216 = q := ⟨_, rfl⟩
          rw [hr, hq] at hsr
          have HSR := Lib.hid hsr
          have HRB : Hid (r < 16777216) := Lib.hid (by rw [← hr]; exact Nat.mod_lt _ (by decide))
          have HQ1 : Hid (q ≤ 1) := Lib.hid (by omega)
          have HKM2 : Hid (k + 1 ≤ max nu nv ∨ k + 1 = max nu nv + 1 ∧ q = 0) := Lib.hid (by omega)
          have f1 : (cc : Int) + (y : Int) = (s : Int) := by omega
          have hs9 : (s : Int) ≤ 33554433 := by omega
          have f3 : (s : Int) % 16777216 = (r : Int) := by omega
          have f4 : (s : Int) / 16777216 = (q : Int) := by omega
          have ku : ¬ (k : Int) < (nu : Int) := by omega
          have kv : (k : Int) < (nv : Int) := by omega
          clear hx hy hsr hs hr hq hcc hxB hyB hku hkv hx0 hvl hcell2
          go_wp2_with (first | (at_builtin; refine wpList_append_own _ rfl _ _ 46 rfl w2.heap.size 3 i0 (.int .i64 0) 1 8 Tryz.underlying46 hi hz0 hz1 hz2 rfl (by decide) _ _ _ rfl (HOWN.out.alloc _) ⟨wr.heap.size, 0, none⟩ 1 1 [.int .i64 r] rfl rfl (cell_fresh wr _ _) (by simp [Value.oneCell']) (by have := HOL.out; unfold maxLen; omega) (by have := HOL.out; omega) (by have := HBW.out.size; simp; omega) ?_; intro v1 w1 hown' hgrow hnn; have HO1 := Lib.hid hown'; have HG1 := Lib.hid hgrow; clear hown' hgrow hnn) | fail)
          go_roundw
          case rel => exact ⟨k + 1, o ++ [r], q, by go_num, rfl, HQ1, HKM2, Lib.hid (by rw [List.length_append, HOL.out]; rfl), Lib.hid (HOK.out.append (fun y hy => by simp at hy; rw [hy]; exact HRB.out)), HSR, Lib.hid (by rw [List.length_append, digC, List.map_append]; exact HO1.out), Lib.hid (below_grown HBW.out HOWN.out HG1.out (Nat.le_refl _))⟩
          case measure => simp [intOf]; have := HKM.out; omega
        · by_cases hc : 0 < cc
          · obtain ⟨x, hx⟩ : ∃ x, U.getD k 0 = x := ⟨_, rfl⟩
            obtain ⟨y, hy⟩ : ∃ y, V.getD k 0 = y := ⟨_, rfl⟩
            have hxB : x < 16777216 := by rw [← hx]; exact getD_lt (by decide) HU.out.ok k
            have hyB : y < 16777216 := by rw [← hy]; exact getD_lt (by decide) HV.out.ok k
            have hsr := add_round (x := x) (y := y) HOL.out HVS.out rfl
            rw [← hx, ← hy, ← take_getD, ← take_getD, hx, hy] at hsr
            have hx0 : x = 0 := by rw [← hx]; exact getD_ge (by have := HNU.out; omega)
            have hy0 : y = 0 := by rw [← hy]; exact getD_ge (by have := HNV.out; omega)
            have hcc := HC1.out
            have hc0 : 0 < (cc : Int) := by omega
            obtain ⟨s, hs⟩ : ∃ s, cc + x + y = s := ⟨_, rfl⟩
            rw [hs] at hsr
            obtain ⟨r, hr⟩ : ∃ r, s % 16777216 = r := ⟨_, rfl⟩
            obtain ⟨q, hq⟩ : ∃ q, s / 16777216 = q := ⟨_, rfl⟩
            rw [hr, hq] at hsr
            have HSR := Lib.hid hsr
            have HRB : Hid (r < 16777216) := Lib.hid (by rw [← hr]; exact Nat.mod_lt _ (by decide))
            have HQ1 : Hid (q ≤ 1) := Lib.hid (by omega)
            have HKM2 : Hid (k + 1 ≤ max nu nv ∨ k + 1 = max nu nv + 1 ∧ q = 0) := Lib.hid (by have := HKM.out; omega)
            have f1 : cc = s := by omega
            have hs9 : (s : Int) ≤ 33554433 := by omega
            have f3 : (s : Int) % 16777216 = (r : Int) := by omega
            have f4 : (s : Int) / 16777216 = (q : Int) := by omega
            subst f1
            have ku : ¬ (k : Int) < (nu : Int) := by omega
            have kv : ¬ (k : Int) < (nv : Int) := by omega
            clear hx hy hsr hs hr hq hcc hxB hyB hku hkv hx0 hy0
            go_wp2_with (first | (at_builtin; refine wpList_append_own _ rfl _ _ 46 rfl w2.heap.size 3 i0 (.int .i64 0) 1 8 Tryz.underlying46 hi hz0 hz1 hz2 rfl (by decide) _ _ _ rfl (HOWN.out.alloc _) ⟨wr.heap.size, 0, none⟩ 1 1 [.int .i64 r] rfl rfl (cell_fresh wr _ _) (by simp [Value.oneCell']) (by have := HOL.out; unfold maxLen; omega) (by have := HOL.out; omega) (by have := HBW.out.size; simp; omega) ?_; intro v1 w1 hown' hgrow hnn; have HO1 := Lib.hid hown'; have HG1 := Lib.hid hgrow; clear hown' hgrow hnn) | fail)
            go_roundw
            case rel => exact ⟨k + 1, o ++ [r], q, by go_num, rfl, HQ1, HKM2, Lib.hid (by rw [List.length_append, HOL.out]; rfl), Lib.hid (HOK.out.append (fun y hy => by simp at hy; rw [hy]; exact HRB.out)), HSR, Lib.hid (by rw [List.length_append, digC, List.map_append]; exact HO1.out), Lib.hid (below_grown HBW.out HOWN.out HG1.out (Nat.le_refl _))⟩
            case measure => simp [intOf]; have := HKM.out; omega
          · have hc0 : cc = 0 := by omega
            subst hc0
            have hv := HVS.out
            rw [Nat.zero_mul, Nat.add_zero, List.take_of_length_le (by have := HNU.out; omega), List.take_of_length_le (by have := HNV.out; omega), HUV.out, HVV.out] at hv
            have HRES := Lib.hid hv
            have HLR := Lib.hid (LimR.own HOWN.out HOK.out (by have := HOL.out; omega))
            have HOL9 : Hid (o.length ≤ 30000000) := Lib.hid (by have := HOL.out; omega)
            have ku : ¬ (k : Int) < (nu : Int) := by omega
            have kv : ¬ (k : Int) < (nv : Int) := by omega
            clear hv hku hkv hc
            go_wp2_with fail
            refine (rnumber_any _ _ _ HLR.out HOL9.out).mono ?_
            rintro e w4 ⟨rfl, hb⟩
            rw [HRES.out]
            have HB4 := Lib.hid ((HB.out.trans (HBW.out.mono HB.out.size)).trans (hb.mono (Nat.le_trans HB.out.size HBW.out.size)))
            clear hb
            go_wp2_with fail
            go_ret
            exact ⟨rfl, HB4.out⟩
end Go.Proofs.YtakbkbmjeanboaaGreatDoor
