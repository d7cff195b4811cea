/- The reference's Common, List. Each theorem names its conditions. -/
import Derived.Test.YtancflpioigjbaaGreatDoorRdC
namespace Go.Proofs.YtancflpioigjbaaGreatDoor
open Go.RowKit Go.Shelf
open Dgt
set_option linter.unusedVariables false

set_option maxHeartbeats 2000000 in
set_option maxRecDepth 100000 in
theorem rCommon_any (l : List Rw) (v : Value) (wq : World) (hl : LstR wq v l) (hn : l.length ≤ 20) (hs : SzL l 1000) :
    Calls Tryz.prog 25 #[v] wq fun e w' => ∃ v', e = .returned (.tuple #[.string (comD l), v', .bool (oksL l)]) ∧ LstN w' v' (comN l) ∧ Below wq.heap.size wq w' := by
  obtain ⟨p, ca, rfl, hla, hca⟩ := hl.open
  have HC := Lib.hid hca
  obtain ⟨i0, hi, hz0, hz1, hz2⟩ := info_partsN infoNat
  have hsz := fun k (h : k < l.length) => hs _ (List.getElem_mem h)
  have HRT : Hid (∀ k (h : k < l.length) w, Calls Tryz.prog 42 #[.agg #[.bool l[k].neg, .string l[k].n, .string l[k].d]] w fun e w' => e = .returned (.bool l[k].right) ∧ Below w.heap.size w w') := Lib.hid fun k h w => rRatRight_any _ _ _ w (Nat.le_trans (hsz k h).1 (by decide)) (Nat.le_trans (hsz k h).2 (by decide))
  have HO1 := Lib.hid (fun w => rOf_any 1 w (by decide))
  have hDs : ∀ k, Sz (lcmL (l.take k) 1) 30000 := fun k => (lcmL_sz (l.take k) 1 1 1000 (fun r hr => hs r (List.mem_of_mem_take hr)) sz_one).mono (by have : (l.take k).length ≤ 20 := by { rw [List.length_take]; omega }; omega)
  have hDl : Sz (lcmL l 1) 30000 := by have := hDs l.length; rwa [List.take_of_length_le (Nat.le_refl _)] at this
  have HGT : Hid (∀ k (h : k < l.length) w, Calls Tryz.prog 68 #[.string (encS (lcmL (l.take k) 1)), .string l[k].d] w fun e w' => e = .returned (.string (encS (Nat.gcd (lcmL (l.take k) 1) (numS l[k].d)))) ∧ Below w.heap.size w w') := Lib.hid fun k h w => by
    have := rGcd_any (encS (lcmL (l.take k) 1)) l[k].d w (Nat.le_trans (encS_size_lt (hDs k)) (by decide)) (Nat.le_trans (hsz k h).2 (by decide))
    rwa [numS_encS] at this
  have HQ1 : Hid (∀ k (h : k < l.length) G w, Sz G 1000 → Calls Tryz.prog 69 #[.string l[k].d, .string (encS G)] w fun e w' => (∃ R b, e = .returned (.tuple #[.string (encS (numS l[k].d / G)), .string R, .bool b])) ∧ Below w.heap.size w w') := Lib.hid fun k h G w hG => by
    refine (rQuo_any l[k].d (encS G) w (Nat.le_trans (hsz k h).2 (by decide)) (Nat.le_trans (encS_size_lt hG) (by decide))).mono ?_
    rintro e w' ⟨rfl, hb⟩
    exact ⟨⟨_, _, by rw [numS_encS]⟩, hb⟩
  have HM1 : Hid (∀ k (h : k < l.length) w, Calls Tryz.prog 54 #[.string (encS (lcmL (l.take k) 1)), .string (encS (numS l[k].d / Nat.gcd (lcmL (l.take k) 1) (numS l[k].d)))] w fun e w' => e = .returned (.string (encS (lcmL (l.take (k + 1)) 1))) ∧ Below w.heap.size w w') := Lib.hid fun k h w => by
    rw [lcmL_take h]
    have := rMul_any (encS (lcmL (l.take k) 1)) (encS (numS l[k].d / Nat.gcd (lcmL (l.take k) 1) (numS l[k].d))) w (Nat.le_trans (encS_size_lt (hDs k)) (by decide)) (Nat.le_trans (encS_size_lt (((Sz.num l[k].d).mono (hsz k h).2).div _)) (by decide))
    rwa [numS_encS, numS_encS] at this
  have HGS : Hid (∀ k (h : k < l.length), 0 < numS l[k].d → Sz (Nat.gcd (lcmL (l.take k) 1) (numS l[k].d)) 1000) := Lib.hid fun k h h0 => ((Sz.num l[k].d).mono (hsz k h).2).le (Nat.le_of_dvd h0 (Nat.gcd_dvd_right _ _))
  have HQT : Hid (∀ k (h : k < l.length) w, Calls Tryz.prog 69 #[.string (encS (lcmL l 1)), .string l[k].d] w fun e w' => (∃ R b, e = .returned (.tuple #[.string (encS (lcmL l 1 / numS l[k].d)), .string R, .bool b])) ∧ Below w.heap.size w w') := Lib.hid fun k h w => by
    refine (rQuo_any (encS (lcmL l 1)) l[k].d w (Nat.le_trans (encS_size_lt hDl) (by decide)) (Nat.le_trans (hsz k h).2 (by decide))).mono ?_
    rintro e w' ⟨rfl, hb⟩
    exact ⟨⟨_, _, by rw [numS_encS]⟩, hb⟩
  have HMT : Hid (∀ k (h : k < l.length) w, Calls Tryz.prog 54 #[.string l[k].n, .string (encS (lcmL l 1 / numS l[k].d))] w fun e w' => e = .returned (.string (encS (numS l[k].n * (lcmL l 1 / numS l[k].d)))) ∧ Below w.heap.size w w') := Lib.hid fun k h w => by
    have := rMul_any l[k].n (encS (lcmL l 1 / numS l[k].d)) w (Nat.le_trans (hsz k h).1 (by decide)) (Nat.le_trans (encS_size_lt (hDl.div _)) (by decide))
    rwa [numS_encS] at this
  clear hca hl hs hDs hsz hDl
  go_enter Tryz.func25, Tryz.ntmps25
  go_wp2_with fail
  refine (HO1.out _).mono ?_
  rintro e w0 ⟨rfl, hb⟩
  have HB0 := Lib.hid hb
  rw [show (1 : Int).toNat = 1 from rfl]
  clear hb
  go_wp2_with fail
  go_loopw [5, 6] (fun dv i wr => ∃ k : Nat, k ≤ l.length ∧ i = .int .i64 (k : Int) ∧ dv = .string (encS (lcmL (l.take k) 1)) ∧ Hid (oksL (l.take k) = true) ∧ Hid (Below wq.heap.size wq wr)) (fun _ i _ => l.length - (intOf i).toNat)
  case atStart => exact ⟨0, by omega, rfl, rfl, Lib.hid rfl, HB0⟩
  case round =>
    obtain ⟨k, hk, rfl, rfl, HOK, HBW⟩ := hrel
    by_cases hlt : k < l.length
    · have hlt' : (k : Int) < (l.length : Int) := by omega
      obtain ⟨g, off, rfl, hg, c1, c2, c3⟩ := HC.out k hlt
      have hgr := Nat.lt_of_lt_of_le hg HBW.out.size
      have d1 : wr.cell? ⟨g, off + k * 3, none⟩ = some (.bool l[k].neg) := by rw [cell_up HBW.out hg]; exact c1
      have d2 : wr.cell? ⟨g, off + k * 3 + 1, none⟩ = some (.string l[k].n) := by rw [cell_up HBW.out hg]; exact c2
      have d3 : wr.cell? ⟨g, off + k * 3 + 2, none⟩ = some (.string l[k].d) := by rw [cell_up HBW.out hg]; exact c3
      clear c1 c2 c3
      obtain ⟨wo, hwo⟩ : ∃ wo, wo = wr := ⟨_, rfl⟩
      subst hwo
      have HRK := Lib.hid (HRT.out k hlt); have HGK := Lib.hid (HGT.out k hlt); have HMK := Lib.hid (HM1.out k hlt); have HQK := Lib.hid (HQ1.out k hlt (Nat.gcd (lcmL (l.take k) 1) (numS l[k].d)))
      have HGZ := Lib.hid (HGS.out k hlt)
      obtain ⟨nn, hnn⟩ : ∃ nn, l[k].neg = nn := ⟨_, rfl⟩
      obtain ⟨rr, hrr⟩ : ∃ rr, l[k].right = rr := ⟨_, rfl⟩
      rw [hnn] at d1 HRK
      rw [hrr] at HRK
      cases rr
      · have HBAD := Lib.hid (oksL_bad hlt (by rw [hrr]; simp))
        clear hnn hrr
        go_wp2_with fail
        refine (HRK.out _).mono ?_
        rintro e w1 ⟨rfl, hb⟩
        have HB2 := Lib.hid (HBW.out.trans (hb.mono HBW.out.size))
        clear hb
        go_wp2_with fail
        refine bodyPost_ret (results_tmp3 rfl _ _ _) rfl ?_
        exact ⟨_, by unfold comD; rw [HBAD.out]; rfl, by unfold comN; rw [HBAD.out]; exact .inl ⟨rfl, rfl⟩, HB2.out⟩
      · have hrk := HRK
        go_wp2_with fail
        refine (HRK.out _).mono ?_
        rintro e w1 ⟨rfl, hb⟩
        have HB2 := Lib.hid (HBW.out.trans (hb.mono HBW.out.size))
        rw [← cell_up hb hgr] at d1 d2 d3
        have hg1 := Nat.lt_of_lt_of_le hgr hb.size
        clear hb
        cases nn
        · have HOK2 := Lib.hid (oksL_take hlt HOK.out hnn hrr)
          have HQK2 := Lib.hid (fun w => HQK.out w (HGZ.out (rightR_iff.1 hrr).2.2.pos))
          clear hnn hrr
          obtain ⟨D2, hD2⟩ : ∃ D2, lcmL (l.take (k + 1)) 1 = D2 := ⟨_, rfl⟩
          obtain ⟨D1, hD1⟩ : ∃ D1, lcmL (l.take k) 1 = D1 := ⟨_, rfl⟩
          rw [hD1] at HGK HMK HQK2 ⊢
          rw [hD2] at HMK
          obtain ⟨G, hG⟩ : ∃ G, Nat.gcd D1 (numS l[k].d) = G := ⟨_, rfl⟩
          rw [hG] at HGK HMK HQK2
          obtain ⟨Q, hQ⟩ : ∃ Q, numS l[k].d / G = Q := ⟨_, rfl⟩
          rw [hQ] at HMK HQK2
          have HD2 := Lib.hid hD2
          clear hD2 hD1 hG hQ
          go_wp2_with fail
          refine (HGK.out _).mono ?_
          rintro e w2 ⟨rfl, hb⟩
          have HB3 := Lib.hid (HB2.out.trans (hb.mono HB2.out.size))
          rw [← cell_up hb hg1] at d1 d2 d3
          clear hb
          go_wp2_with fail
          refine (HQK2.out _).mono ?_
          rintro e w3 ⟨⟨R, bq, rfl⟩, hb⟩
          have HB4 := Lib.hid (HB3.out.trans (hb.mono HB3.out.size))
          clear hb d1 d2 d3
          go_wp2_with fail
          refine (HMK.out _).mono ?_
          rintro e w4 ⟨rfl, hb⟩
          have HB5 := Lib.hid (HB4.out.trans (hb.mono HB4.out.size))
          clear hb
          go_wp2_with fail
          go_roundw
          case rel => exact ⟨k + 1, by omega, by go_num, by rw [HD2.out], HOK2, HB5⟩
          case measure => simp [intOf]; omega
        · have HBAD := Lib.hid (oksL_bad hlt (by rw [hnn]; rfl))
          clear hnn hrr
          go_wp2_with fail
          refine bodyPost_ret (results_tmp3 rfl _ _ _) rfl ?_
          exact ⟨_, by unfold comD; rw [HBAD.out]; rfl, by unfold comN; rw [HBAD.out]; exact .inl ⟨rfl, rfl⟩, HB2.out⟩
    · have hge : (l.length : Int) ≤ (k : Int) := by omega
      have hT : l.take k = l := List.take_of_length_le (by omega)
      have hall : oksL l = true := by have := HOK.out; rwa [hT] at this
      have HALL := Lib.hid hall
      rw [hT]
      clear hall hT
      obtain ⟨D, hD⟩ : ∃ D, lcmL l 1 = D := ⟨_, rfl⟩
      have HD := Lib.hid hD
      rw [hD] at HQT HMT ⊢
      clear hD
      go_wp2_with fail
      clear hlt hge hk
      go_loopw [12, 13] (fun vo i wr => ∃ k : Nat, k ≤ l.length ∧ i = .int .i64 (k : Int) ∧ Hid (wr.ownsRow wq.heap.size 22 1 vo k (namesN (numsL (l.take k) D))) ∧ Hid (Below wq.heap.size wq wr)) (fun _ i _ => l.length - (intOf i).toNat)
      case atStart => exact ⟨0, by omega, rfl, Lib.hid (World.ownsRow_nil _ _ _ _), HBW⟩
      case round =>
        obtain ⟨k, hk, rfl, HO, HBW⟩ := hrel
        by_cases hlt : k < l.length
        · have hlt' : (k : Int) < (l.length : Int) := by omega
          obtain ⟨g, off, rfl, hg, c1, c2, c3⟩ := HC.out k hlt
          have hgr := Nat.lt_of_lt_of_le hg HBW.out.size
          have d1 : wr.cell? ⟨g, off + k * 3, none⟩ = some (.bool l[k].neg) := by rw [cell_up HBW.out hg]; exact c1
          have d2 : wr.cell? ⟨g, off + k * 3 + 1, none⟩ = some (.string l[k].n) := by rw [cell_up HBW.out hg]; exact c2
          have d3 : wr.cell? ⟨g, off + k * 3 + 2, none⟩ = some (.string l[k].d) := by rw [cell_up HBW.out hg]; exact c3
          clear c1 c2 c3
          obtain ⟨wo, hwo⟩ : ∃ wo, wo = wr := ⟨_, rfl⟩
          subst hwo
          have HQK := Lib.hid (HQT.out k hlt); have HMK := Lib.hid (HMT.out k hlt)
          have HE : Hid (namesN (numsL (l.take (k + 1)) D) = namesN (numsL (l.take k) D) ++ [.string (encS (numS l[k].n * (D / numS l[k].d)))]) := Lib.hid (by rw [numsL_take hlt]; simp [namesN])
          obtain ⟨M, hM⟩ : ∃ M, numS l[k].n * (D / numS l[k].d) = M := ⟨_, rfl⟩
          obtain ⟨Q, hQ⟩ : ∃ Q, D / numS l[k].d = Q := ⟨_, rfl⟩
          rw [hM] at HE; rw [hQ] at HQK HMK hM; rw [hM] at HMK
          clear hM hQ
          go_wp2_with fail
          refine (HQK.out _).mono ?_
          rintro e w3 ⟨⟨R, bq, rfl⟩, hb⟩
          have HB2 := Lib.hid (HBW.out.trans (hb.mono HBW.out.size))
          have HO2 := Lib.hid (own_up HO.out hb)
          rw [← cell_up hb hgr] at d1 d2 d3
          clear hb
          go_wp2_with fail
          refine (HMK.out _).mono ?_
          rintro e w4 ⟨rfl, hb⟩
          have HB3 := Lib.hid (HB2.out.trans (hb.mono HB2.out.size))
          have HO3 := Lib.hid (own_up HO2.out hb)
          clear hb d1 d2 d3
          go_wp2_with (first | (at_builtin; refine wpList_append_own _ rfl _ _ 46 rfl wq.heap.size 22 i0 (.string ⟨#[]⟩) 1 16 Tryz.underlying46 hi hz0 hz1 hz2 rfl (by decide) _ _ _ rfl (HO3.out.alloc _) ⟨w4.heap.size, 0, none⟩ 1 1 [.string (encS M)] rfl rfl (cell_fresh w4 _ _) (namesN_one _) (by unfold maxLen; omega) (by omega) (by have := HB3.out.size; simp; omega) ?_; intro v' w5 hown' hgrow hnn; have HO4 := Lib.hid hown'; have HG := Lib.hid hgrow; clear hown' hgrow hnn) | fail)
          go_roundw
          case rel => exact ⟨k + 1, by omega, by go_num, Lib.hid (by rw [HE.out]; exact HO4.out), Lib.hid (below_own (HB3.out.alloc HB3.out.size _) (HO3.out.alloc _) HG.out (Nat.le_refl _))⟩
          case measure => simp [intOf]; omega
        · have hge : (l.length : Int) ≤ (k : Int) := by omega
          have hkl : k = l.length := by omega
          have HLN : Hid (∀ v', wr.ownsRow wq.heap.size 22 1 v' k (namesN (numsL (l.take k) D)) → LstN wr v' (comN l)) := Lib.hid (fun v' h1 => by
            have h2 : numsL l D = comN l := by unfold comN; rw [if_pos HALL.out, HD.out]
            rw [List.take_of_length_le (by omega), hkl, ← numsL_len l D] at h1
            rw [← h2]
            exact own_lstN h1 (by rw [numsL_len]; omega))
          clear hkl
          go_wp2_with fail
          refine bodyPost_ret (results_tmp3 rfl _ _ _) rfl ?_
          exact ⟨_, by unfold comD; rw [if_pos HALL.out, HD.out, HALL.out]; rfl, HLN.out _ HO.out, HBW.out⟩
/-- an argument: a list of triples of numbers -/
def inJ (x : Int) : Prop := -9223372036854775808 ≤ x ∧ x ≤ 9223372036854775807
def ArgT (W : World) (v : Value) : Prop := ∃ p len cap, v = .slice p len cap ∧ len ≤ 9223372036854775807 ∧
  ∀ i, i < len → ∃ g off x y z, p = some ⟨g, off, none⟩ ∧ g < W.heap.size ∧ inJ x ∧ inJ y ∧ inJ z ∧ W.cell? ⟨g, off + i * 3, none⟩ = some (.int .i64 x) ∧ W.cell? ⟨g, off + i * 3 + 1, none⟩ = some (.int .i64 y) ∧ W.cell? ⟨g, off + i * 3 + 2, none⟩ = some (.int .i64 z)
theorem ArgT.up {A W : World} {v : Value} (h : ArgT A v) (hb : Below A.heap.size A W) : ArgT W v := by
  obtain ⟨p, len, cap, h1, h2, h3⟩ := h
  refine ⟨p, len, cap, h1, h2, fun i hi => ?_⟩
  obtain ⟨g, off, x, y, z, e1, e2, e3, e4, e5, e6, e7, e8⟩ := h3 i hi
  exact ⟨g, off, x, y, z, e1, Nat.lt_of_lt_of_le e2 hb.size, e3, e4, e5, by rw [cell_up hb e2]; exact e6, by rw [cell_up hb e2]; exact e7, by rw [cell_up hb e2]; exact e8⟩
def cells3 (l : List Rw) : List Value := l.flatMap fun s => [.bool s.neg, .string s.n, .string s.d]
theorem cells3_len (l : List Rw) : (cells3 l).length = l.length * 3 := by
  induction l with
  | nil => rfl
  | cons s l ih => simp only [cells3, List.flatMap_cons, List.length_append, List.length_cons, List.length_nil] at ih ⊢; omega
theorem cells3_append (a b : List Rw) : cells3 (a ++ b) = cells3 a ++ cells3 b := by simp [cells3]
theorem cells3_one (l : List Rw) : ∀ u ∈ cells3 l, u.oneCell' = true := by
  intro u hu
  simp only [cells3, List.mem_flatMap] at hu
  obtain ⟨s, -, hu⟩ := hu
  simp at hu
  rcases hu with rfl | rfl | rfl <;> rfl
theorem cells3_at : ∀ (l : List Rw) (i : Nat) (h : i < l.length), (cells3 l)[i * 3]? = some (.bool l[i].neg) ∧ (cells3 l)[i * 3 + 1]? = some (.string l[i].n) ∧ (cells3 l)[i * 3 + 2]? = some (.string l[i].d)
  | s :: l, 0, _ => by simp [cells3]
  | s :: l, i + 1, h => by
    have e : cells3 (s :: l) = .bool s.neg :: .string s.n :: .string s.d :: cells3 l := by simp [cells3]
    have ih := cells3_at l i (by simpa using h)
    rw [e, show (i + 1) * 3 = i * 3 + 1 + 1 + 1 by omega]
    simpa using ih
theorem infoRat : (Tryz.prog.info? 26).map (fun i => (i.zero, i.size, i.bytes)) = some (some (.agg #[.bool false, .string ⟨#[]⟩, .string ⟨#[]⟩]), 3, 40) := by kernel_rfl
theorem own_lstR {W : World} {base : Nat} {e : TypeId} {v : Value} {l : List Rw} (h : W.ownsRow base e 3 v l.length (cells3 l)) (hl : l.length ≤ 1000) : LstR W v l := by
  rcases h.2 with ⟨rfl, h0⟩ | ⟨g, cap, cur, rfl, hg, hgh, hnc, hcm, hcs, hct⟩
  · exact .inl ⟨rfl, List.eq_nil_of_length_eq_zero h0⟩
  · refine .inr ⟨g, 0, cap, rfl, (Array.getElem?_eq_some_iff.1 hgh).1, hl, fun i hi => ?_⟩
    have hat := cells3_at l i hi
    have key : ∀ j x, (cells3 l)[j]? = some x → W.cell? ⟨g, 0 + j, none⟩ = some x := fun j x hx => by
      rw [← hct, List.getElem?_take] at hx
      split at hx
      · rw [Nat.zero_add, Lib.cell_of_heap hgh]; rw [← Array.getElem?_toList]; exact hx
      · cases hx
    exact ⟨key _ _ hat.1, key _ _ hat.2.1, key _ _ hat.2.2⟩
theorem cell_fresh3 (w : World) (x y z : Value) (t : TypeId) : ∀ (j : Nat) (u : Value), [x, y, z][j]? = some u → (w.alloc (.cells #[x, y, z] t)).cell? ((⟨w.heap.size, 0, none⟩ : Addr).add j) = some u := by
  intro j u hj
  have hr := heap_alloc_new w (.cells #[x, y, z] t)
  have hadd : ((⟨w.heap.size, 0, none⟩ : Addr).add j) = ⟨w.heap.size, 0 + j, none⟩ := by unfold Addr.add; split <;> simp_all
  rw [hadd, Nat.zero_add, Lib.cell_of_heap hr]
  match j, hj with
  | 0, hj => simpa using hj
  | 1, hj => simpa using hj
  | 2, hj => simpa using hj
set_option maxHeartbeats 1000000 in
theorem List_any (v : Value) (wq : World) (hv : ArgT wq v) :
    Calls Tryz.prog 23 #[v] wq fun e w' => ∃ (v' : Value) (l : List Rt), e = .returned v' ∧ LstR w' v' (l.map rawR) ∧ l.length ≤ 12 ∧ (∀ a ∈ l, a.Ok ∧ Rz a 32) ∧ Below wq.heap.size wq w' := by
  obtain ⟨i0, hi, hz0, hz1, hz2⟩ := info_partsN infoRat
  obtain ⟨p, len, cap, rfl, hlen, hcell⟩ := hv
  have HC := Lib.hid hcell
  clear hcell
  go_enter Tryz.func23, Tryz.ntmps23
  go_wp2_with fail
  go_loopw [3, 4] (fun vo i wr => ∃ (k : Nat) (l : List Rt), k ≤ len ∧ k ≤ 12 ∧ i = .int .i64 (k : Int) ∧ Hid (wr.ownsRow wq.heap.size 26 3 vo l.length (cells3 (l.map rawR))) ∧ l.length ≤ k ∧ Hid (∀ a ∈ l, a.Ok ∧ Rz a 32) ∧ Hid (Below wq.heap.size wq wr)) (fun _ i _ => 12 - (intOf i).toNat)
  case atStart => exact ⟨0, [], by omega, by omega, rfl, Lib.hid (World.ownsRow_nil _ _ _ _), by simp, Lib.hid (by simp), Lib.hid (Below.refl _ _)⟩
  case round =>
    obtain ⟨k, l, hk, hk12, rfl, HO, hlk, HP, HBW⟩ := hrel
    by_cases hlt : k < len
    · have hlt' : (k : Int) < (len : Int) := by omega
      by_cases h12 : k < 12
      · have h12' : (k : Int) < 12 := by omega
        obtain ⟨g, off, x, y, z, rfl, hg, hx, hy, hz, h1, h2, h3⟩ := HC.out k hlt
        have d1 : wr.cell? ⟨g, off + k * 3, none⟩ = some (.int .i64 x) := by rw [cell_up HBW.out hg]; exact h1
        have d2 : wr.cell? ⟨g, off + k * 3 + 1, none⟩ = some (.int .i64 y) := by rw [cell_up HBW.out hg]; exact h2
        have d3 : wr.cell? ⟨g, off + k * 3 + 2, none⟩ = some (.int .i64 z) := by rw [cell_up HBW.out hg]; exact h3
        have HM := Lib.hid (fun w => Made_r x y z w hx hy hz)
        clear h1 h2 h3 hx hy hz
        obtain ⟨wo, hwo⟩ : ∃ wo, wo = wr := ⟨_, rfl⟩
        subst hwo
        go_wp2_with fail
        refine (HM.out _).mono ?_
        rintro e w1 ⟨m, rfl, hm1, hm2, hb⟩
        unfold rtV
        have HO1 := Lib.hid (own_up HO.out hb)
        have HB1 := Lib.hid (HBW.out.trans (hb.mono HBW.out.size))
        have HMM : Hid (m.Ok ∧ Rz m 32) := Lib.hid ⟨hm1, hm2⟩
        clear hb hm1 hm2 d1 d2 d3
        go_wp2_with (first | (at_builtin; refine wpList_append_own _ rfl _ _ 43 rfl wq.heap.size 26 i0 (.agg #[.bool false, .string ⟨#[]⟩, .string ⟨#[]⟩]) 3 40 Tryz.underlying43 hi hz0 hz1 hz2 rfl (by decide) _ _ _ rfl (HO1.out.alloc _) ⟨w1.heap.size, 0, none⟩ 1 1 [.bool m.neg, .string (encS m.num), .string (encS m.den)] rfl rfl (cell_fresh3 w1 _ _ _ _) (cells3_one [rawR m]) (by unfold maxLen; omega) (by omega) (by have := HB1.out.size; simp; omega) ?_; intro v' w2 hown' hgrow hnn; have HO2 := Lib.hid hown'; have HG := Lib.hid hgrow; clear hown' hgrow hnn) | fail)
        go_roundw
        case rel => exact ⟨k + 1, l ++ [m], by omega, by omega, by go_num, Lib.hid (by rw [List.map_append, cells3_append, List.length_append]; exact HO2.out), by simp; omega, Lib.hid (fun s hs => by
          rcases List.mem_append.1 hs with h | h
          · exact HP.out s h
          · rw [List.mem_singleton.1 h]; exact HMM.out), Lib.hid (below_own (HB1.out.alloc HB1.out.size _) (HO1.out.alloc _) HG.out (Nat.le_refl _))⟩
        case measure => simp [intOf]; omega
      · have h12' : ¬ (k : Int) < 12 := by omega
        have HLR : Hid (∀ v', wr.ownsRow wq.heap.size 26 3 v' l.length (cells3 (l.map rawR)) → LstR wr v' (l.map rawR)) := Lib.hid fun v' h => own_lstR (by rwa [List.length_map]) (by rw [List.length_map]; omega)
        go_wp2_with fail
        go_ret
        first | exact ⟨_, l, rfl, HLR.out _ HO.out, by omega, HP.out, HBW.out⟩ | exact ⟨_, rfl, l, HLR.out _ HO.out, by omega, HP.out, HBW.out⟩
    · have hge : (len : Int) ≤ (k : Int) := by omega
      have HLR : Hid (∀ v', wr.ownsRow wq.heap.size 26 3 v' l.length (cells3 (l.map rawR)) → LstR wr v' (l.map rawR)) := Lib.hid fun v' h => own_lstR (by rwa [List.length_map]) (by rw [List.length_map]; omega)
      go_wp2_with fail
      go_ret
      first | exact ⟨_, l, rfl, HLR.out _ HO.out, by omega, HP.out, HBW.out⟩ | exact ⟨_, rfl, l, HLR.out _ HO.out, by omega, HP.out, HBW.out⟩
end Go.Proofs.YtancflpioigjbaaGreatDoor
