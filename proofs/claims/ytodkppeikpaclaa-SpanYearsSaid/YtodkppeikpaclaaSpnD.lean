/- Union, Meet, Less, Norm, Days, Count of package span; each theorem names its conditions. -/
import Derived.Test.YtodkppeikpaclaaSpnC
namespace Go.Proofs.Ytodkppeikpaclaa
open Go.RowKit Go.Shelf
open Spn
set_option linter.unusedVariables false

theorem orF_any (x y : Bool) (w : World) : Calls Try.prog 41 #[.bool x, .bool y] w fun e w' => e = .returned (.bool (orF x y)) ∧ w = w' := by
  cases x <;> cases y
  all_goals
    go_enter Try.func41, Try.ntmps41
    go_wp2_with fail
    go_ret
    exact ⟨rfl, rfl⟩
theorem Union_any (va vb : Value) (la lb : List Sp) (w : World) (ha : la.length ≤ 10000) (hb : lb.length ≤ 10000) (hla : Lst w va la) (hlb : Lst w vb lb) :
    Calls Try.prog 17 #[va, vb] w fun e w' => ∃ v, e = .returned v ∧ Lst w' v (comb orF la lb) ∧ Below w.heap.size w w' := by
  have HC := Lib.hid (fun W h => combine_any 41 orF rfl (enters_of Try.func41 (by kernel_rfl) rfl) orF_any va vb la lb W ha hb (hla.up h) (hlb.up h))
  go_enter Try.func17, Try.ntmps17
  go_wp2_with fail
  refine (HC.out _ (Below.refl _ _)).mono ?_
  rintro e w1 ⟨v, rfl, hl, hb1⟩
  have HL := Lib.hid hl; have HB := Lib.hid hb1
  obtain ⟨p, c, rfl, hlen, -⟩ := hl.open
  clear hl hb1 hlen
  go_wp2_with fail
  go_ret
  exact ⟨_, rfl, HL.out, HB.out⟩
theorem andF_any (x y : Bool) (w : World) : Calls Try.prog 42 #[.bool x, .bool y] w fun e w' => e = .returned (.bool (andF x y)) ∧ w = w' := by
  cases x <;> cases y
  all_goals
    go_enter Try.func42, Try.ntmps42
    go_wp2_with fail
    go_ret
    exact ⟨rfl, rfl⟩
theorem Meet_any (va vb : Value) (la lb : List Sp) (w : World) (ha : la.length ≤ 10000) (hb : lb.length ≤ 10000) (hla : Lst w va la) (hlb : Lst w vb lb) :
    Calls Try.prog 19 #[va, vb] w fun e w' => ∃ v, e = .returned v ∧ Lst w' v (comb andF la lb) ∧ Below w.heap.size w w' := by
  have HC := Lib.hid (fun W h => combine_any 42 andF rfl (enters_of Try.func42 (by kernel_rfl) rfl) andF_any va vb la lb W ha hb (hla.up h) (hlb.up h))
  go_enter Try.func19, Try.ntmps19
  go_wp2_with fail
  refine (HC.out _ (Below.refl _ _)).mono ?_
  rintro e w1 ⟨v, rfl, hl, hb1⟩
  have HL := Lib.hid hl; have HB := Lib.hid hb1
  obtain ⟨p, c, rfl, hlen, -⟩ := hl.open
  clear hl hb1 hlen
  go_wp2_with fail
  go_ret
  exact ⟨_, rfl, HL.out, HB.out⟩
theorem lessF_any (x y : Bool) (w : World) : Calls Try.prog 43 #[.bool x, .bool y] w fun e w' => e = .returned (.bool (lessF x y)) ∧ w = w' := by
  cases x <;> cases y
  all_goals
    go_enter Try.func43, Try.ntmps43
    go_wp2_with fail
    go_ret
    exact ⟨rfl, rfl⟩
theorem Less_any (va vb : Value) (la lb : List Sp) (w : World) (ha : la.length ≤ 10000) (hb : lb.length ≤ 10000) (hla : Lst w va la) (hlb : Lst w vb lb) :
    Calls Try.prog 21 #[va, vb] w fun e w' => ∃ v, e = .returned v ∧ Lst w' v (comb lessF la lb) ∧ Below w.heap.size w w' := by
  have HC := Lib.hid (fun W h => combine_any 43 lessF rfl (enters_of Try.func43 (by kernel_rfl) rfl) lessF_any va vb la lb W ha hb (hla.up h) (hlb.up h))
  go_enter Try.func21, Try.ntmps21
  go_wp2_with fail
  refine (HC.out _ (Below.refl _ _)).mono ?_
  rintro e w1 ⟨v, rfl, hl, hb1⟩
  have HL := Lib.hid hl; have HB := Lib.hid hb1
  obtain ⟨p, c, rfl, hlen, -⟩ := hl.open
  clear hl hb1 hlen
  go_wp2_with fail
  go_ret
  exact ⟨_, rfl, HL.out, HB.out⟩
theorem Lst.none (w : World) : Lst w (.slice none 0 0) [] := .inl ⟨rfl, rfl⟩
theorem Norm_any (va : Value) (la : List Sp) (w : World) (ha : la.length ≤ 10000) (hla : Lst w va la) :
    Calls Try.prog 15 #[va] w fun e w' => ∃ v, e = .returned v ∧ Lst w' v (norm la) ∧ Below w.heap.size w w' := by
  have HC := Lib.hid (Union_any va (.slice none 0 0) la [] w ha (by simp) hla (Lst.none w))
  go_enter Try.func15, Try.ntmps15
  go_wp2_with fail
  refine HC.out.mono ?_
  rintro e w1 ⟨v, rfl, hl, hb1⟩
  have HL := Lib.hid hl; have HB := Lib.hid hb1
  obtain ⟨p, c, rfl, hlen, -⟩ := hl.open
  clear hl hb1 hlen
  go_wp2_with fail
  go_ret
  exact ⟨_, rfl, HL.out, HB.out⟩
set_option maxHeartbeats 1000000 in
theorem Days_any (va : Value) (la : List Sp) (w : World) (ha : la.length ≤ 10000) (hla : Lst w va la) :
    Calls Try.prog 30 #[va] w fun e w' => e = .returned (.int .i64 (daysL (norm la))) ∧ Below w.heap.size w w' := by
  have HC := Lib.hid (Norm_any va la w ha hla)
  have hnl := norm_len la
  have HBD := Lib.hid (norm_bd la)
  clear hla
  go_enter Try.func30, Try.ntmps30
  go_wp2_with fail
  refine HC.out.mono ?_
  rintro e w1 ⟨v, rfl, hl, hb1⟩
  obtain ⟨p, c, rfl, hlen, hcell⟩ := hl.open
  obtain ⟨N, hN⟩ : ∃ N, norm la = N := ⟨_, rfl⟩
  rw [hN] at hlen hcell hnl HBD ⊢
  have HN := Lib.hid hN; have HB := Lib.hid hb1; have HCELL := Lib.hid hcell
  clear hl hb1 hcell hN
  go_wp2_with fail
  go_loopw [2, 8] (fun n i wr => ∃ k : Nat, k ≤ N.length ∧ i = .int .i64 (k : Int) ∧ n = .int .i64 (daysL (N.take k)) ∧ Hid (Below w1.heap.size w1 wr)) (fun _ i _ => N.length - (intOf i).toNat)
  case atStart => exact ⟨0, by omega, rfl, rfl, Lib.hid (Below.refl _ _)⟩
  case round =>
    obtain ⟨k, hk, rfl, rfl, HBW⟩ := hrel
    by_cases hlt : k < N.length
    · have hlt' : (k : Int) < (N.length : Int) := by omega
      obtain ⟨g, off, rfl, hg, h1, h2⟩ := HCELL.out k hlt
      have d1 : wr.cell? ⟨g, off + k * 2, none⟩ = some (.int .i64 N[k].1) := by rw [cell_up HBW.out hg]; exact h1
      have d2 : wr.cell? ⟨g, off + k * 2 + 1, none⟩ = some (.int .i64 N[k].2) := by rw [cell_up HBW.out hg]; exact h2
      have hbs := HBD.out _ (List.getElem_mem hlt)
      have hds := daysL_bd (N.take k) (fun s hs => HBD.out s (List.mem_of_mem_take hs))
      have hkl : (N.take k).length ≤ 40000 := by simp; omega
      have hd0 : -(3700000 * 40000) ≤ daysL (N.take k) := by have := hds.1; omega
      have hd1 : daysL (N.take k) ≤ 3700000 * 40000 := by have := hds.2; omega
      obtain ⟨hs1, hs2⟩ := hbs
      have HDN := Lib.hid (daysL_next hlt)
      have HB2 := Lib.hid (HBW.out.alloc HBW.out.size (.cells #[.int .i64 N[k].1, .int .i64 N[k].2] 33))
      obtain ⟨sf, hsf⟩ : ∃ sf, N[k].1 = sf := ⟨_, rfl⟩
      obtain ⟨st, hst⟩ : ∃ st, N[k].2 = st := ⟨_, rfl⟩
      rw [hsf] at d1 hs1; rw [hst] at d2 hs2
      rw [hsf, hst] at HDN HB2
      clear h1 h2 hds hsf hst
      go_wp2_with fail
      go_roundw
      case rel => exact ⟨k + 1, by omega, by go_num, by rw [HDN.out], HB2⟩
      case measure => simp [intOf]; omega
    · have hge : (N.length : Int) ≤ (k : Int) := by omega
      have HALL : Hid (daysL (N.take k) = daysL N) := Lib.hid (by rw [List.take_of_length_le (by omega)])
      go_wp2_with fail
      go_ret
      exact ⟨by rw [HALL.out, HN.out]; rfl, HB.out.trans (HBW.out.mono HB.out.size)⟩
set_option maxHeartbeats 2000000 in
theorem Count_any (va : Value) (la : List Sp) (d n : Int) (w : World) (ha : la.length ≤ 10000) (hla : Lst w va la) :
    Calls Try.prog 26 #[va, .int .i64 d, .int .i64 n] w fun e w' => e = .returned (.tuple #[.int .i64 (cntN la d n), .bool (cntOk la d n)]) ∧ Below w.heap.size w w' := by
  by_cases h1 : d < 0
  · have HO : Hid (cntOk la d n = false ∧ cntN la d n = 0) := Lib.hid (cnt_no (.inl h1))
    go_enter Try.func26, Try.ntmps26
    go_wp2_with fail
    go_ret2
    exact ⟨by rw [HO.out.1, HO.out.2]; rfl, Below.refl _ _⟩
  by_cases h2 : 3652058 < d
  · have HO : Hid (cntOk la d n = false ∧ cntN la d n = 0) := Lib.hid (cnt_no (.inr (.inl h2)))
    go_enter Try.func26, Try.ntmps26
    go_wp2_with fail
    go_ret2
    exact ⟨by rw [HO.out.1, HO.out.2]; rfl, Below.refl _ _⟩
  by_cases h3 : n < 0
  · have HO : Hid (cntOk la d n = false ∧ cntN la d n = 0) := Lib.hid (cnt_no (.inr (.inr (.inl h3))))
    go_enter Try.func26, Try.ntmps26
    go_wp2_with fail
    go_ret2
    exact ⟨by rw [HO.out.1, HO.out.2]; rfl, Below.refl _ _⟩
  by_cases h4 : 3652058 < n
  · have HO : Hid (cntOk la d n = false ∧ cntN la d n = 0) := Lib.hid (cnt_no (.inr (.inr (.inr h4))))
    go_enter Try.func26, Try.ntmps26
    go_wp2_with fail
    go_ret2
    exact ⟨by rw [HO.out.1, HO.out.2]; rfl, Below.refl _ _⟩
  have HC := Lib.hid (Norm_any va la w ha hla)
  have hnl := norm_len la
  have HBD := Lib.hid (norm_bd la)
  have HYES := Lib.hid (cnt_yes (l := la) (d := d) (n := n) (by omega) (by omega))
  have g1 : 0 ≤ d := by omega
  have g2 : d ≤ 3652058 := by omega
  have g3 : 0 ≤ n := by omega
  have g4 : n ≤ 3652058 := by omega
  clear hla h1 h2 h3 h4
  go_enter Try.func26, Try.ntmps26
  go_wp2_with fail
  refine HC.out.mono ?_
  rintro e w1 ⟨v, rfl, hl, hb1⟩
  obtain ⟨p, c, rfl, hlen, hcell⟩ := hl.open
  obtain ⟨N, hN⟩ : ∃ N, norm la = N := ⟨_, rfl⟩
  rw [hN] at hlen hcell hnl HBD HYES ⊢
  have HB := Lib.hid hb1; have HCELL := Lib.hid hcell
  clear hl hb1 hcell hN
  go_wp2_with fail
  go_loopw [2, 8, 30] (fun a b i wr => ∃ (k : Nat) (x y : Int), k ≤ N.length ∧ i = .int .i64 (k : Int) ∧ a = .int .i64 y ∧ b = .int .i64 x ∧ 0 ≤ x ∧ x ≤ 3652059 ∧ 0 ≤ y ∧ y ≤ 3652058 ∧ Hid (cntL N d n = cntL (N.drop k) x y) ∧ Hid (Below w1.heap.size w1 wr)) (fun _ _ i _ => N.length - (intOf i).toNat)
  case atStart => exact ⟨0, d, n, by omega, rfl, rfl, rfl, by omega, by omega, by omega, by omega, Lib.hid rfl, Lib.hid (Below.refl _ _)⟩
  case round =>
    obtain ⟨k, x, y, hk, rfl, rfl, rfl, x0, x1, y0, y1, HCN, HBW⟩ := hrel
    have HBF := Lib.hid (HB.out.trans (HBW.out.mono HB.out.size))
    by_cases hlt : k < N.length
    · have hlt' : (k : Int) < (N.length : Int) := by omega
      obtain ⟨g, off, rfl, hg, h1, h2⟩ := HCELL.out k hlt
      have d1 : wr.cell? ⟨g, off + k * 2, none⟩ = some (.int .i64 N[k].1) := by rw [cell_up HBW.out hg]; exact h1
      have d2 : wr.cell? ⟨g, off + k * 2 + 1, none⟩ = some (.int .i64 N[k].2) := by rw [cell_up HBW.out hg]; exact h2
      obtain ⟨hs1, hs2⟩ := HBD.out _ (List.getElem_mem hlt)
      have HDR := Lib.hid (List.drop_eq_getElem_cons hlt)
      obtain ⟨sf, hsf⟩ : ∃ sf, N[k].1 = sf := ⟨_, rfl⟩
      obtain ⟨st, hst⟩ : ∃ st, N[k].2 = st := ⟨_, rfl⟩
      rw [hsf] at d1 hs1; rw [hst] at d2 hs2
      have HNX : Hid (cntL (N.drop k) x y = if y ≤ max (sf - x) 0 then (x, y) else cntL (N.drop (k + 1)) (max x st) (y - max (sf - x) 0)) := Lib.hid (by rw [HDR.out, cntL, hsf, hst])
      clear h1 h2 hsf hst HDR
      have HB2 := Lib.hid (HBW.out.alloc HBW.out.size (.cells #[.int .i64 sf, .int .i64 st] 33))
      by_cases hy : y ≤ max (sf - x) 0
      · have HE : Hid (cntL N d n = (x, y)) := Lib.hid (by rw [HCN.out, HNX.out, if_pos hy])
        by_cases hf : 3652058 < x + y
        · have HO : Hid (cntOk la d n = false ∧ cntN la d n = 0) := Lib.hid (by have h := HYES.out; rw [HE.out] at h; exact h.2 hf)
          go_wp2_with fail
          go_ret2
          exact ⟨by rw [HO.out.1, HO.out.2]; rfl, HB.out.trans (HB2.out.mono HB.out.size)⟩
        · have HO : Hid (cntOk la d n = true ∧ cntN la d n = x + y) := Lib.hid (by have h := HYES.out; rw [HE.out] at h; exact h.1 (by show x + y ≤ 3652058; omega))
          go_wp2_with fail
          go_ret2
          exact ⟨by rw [HO.out.1, HO.out.2]; rfl, HB.out.trans (HB2.out.mono HB.out.size)⟩
      · have HE : Hid (cntL N d n = cntL (N.drop (k + 1)) (max x st) (y - max (sf - x) 0)) := Lib.hid (by rw [HCN.out, HNX.out, if_neg hy])
        have hm1 : 0 ≤ max x st := by omega
        have hm2 : max x st ≤ 3652059 := by omega
        have hy0 : 0 ≤ y - max (sf - x) 0 := by omega
        have hy1 : y - max (sf - x) 0 ≤ 3652058 := by omega
        go_wp2_with fail
        go_roundw
        case rel => exact ⟨k + 1, max x st, y - max (sf - x) 0, by omega, by go_num, rfl, rfl, hm1, hm2, hy0, hy1, HE, HB2⟩
        case measure => simp [intOf]; omega
    · have hge : (N.length : Int) ≤ (k : Int) := by omega
      have HE : Hid (cntL N d n = (x, y)) := Lib.hid (by rw [HCN.out, List.drop_eq_nil_of_le (by omega), cntL])
      by_cases hf : 3652058 < x + y
      · have HO : Hid (cntOk la d n = false ∧ cntN la d n = 0) := Lib.hid (by have h := HYES.out; rw [HE.out] at h; exact h.2 hf)
        go_wp2_with fail
        go_ret2
        exact ⟨by rw [HO.out.1, HO.out.2]; rfl, HBF.out⟩
      · have HO : Hid (cntOk la d n = true ∧ cntN la d n = x + y) := Lib.hid (by have h := HYES.out; rw [HE.out] at h; exact h.1 (by show x + y ≤ 3652058; omega))
        go_wp2_with fail
        go_ret2
        exact ⟨by rw [HO.out.1, HO.out.2]; rfl, HBF.out⟩
end Go.Proofs.Ytodkppeikpaclaa
