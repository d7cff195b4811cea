/- Package ratio: fold of denominators, Common. Each theorem names its conditions. -/
import Derived.Test.YtancflpioigjbaaGreatDoorRdA
namespace Go.Proofs.YtancflpioigjbaaGreatDoor
open Go.RowKit Go.Shelf
open Dgt
set_option linter.unusedVariables false

/-- the least common multiple of a number and the denominators of a list -/
def lcmL (l : List Rw) (D : Nat) : Nat := l.foldl (fun D r => D * (numS r.d / Nat.gcd D (numS r.d))) D
theorem lcmL_take {l : List Rw} {k : Nat} (h : k < l.length) (D : Nat) : lcmL (l.take (k + 1)) D = lcmL (l.take k) D * (numS l[k].d / Nat.gcd (lcmL (l.take k) D) (numS l[k].d)) := by
  unfold lcmL; rw [List.take_succ_eq_append_getElem h, List.foldl_append]; rfl
theorem lcmL_sz : ∀ (l : List Rw) (D k j : Nat), SzL l j → Sz D k → Sz (lcmL l D) (k + j * l.length)
  | [], D, k, j, _, hD => by unfold lcmL; simpa using hD
  | r :: l, D, k, j, h, hD => by
    have h1 := hD.mul (((Sz.num r.d).mono (h r (by simp)).2).div (Nat.gcd D (numS r.d)))
    have h2 := lcmL_sz l _ _ j (fun x hx => h x (by simp [hx])) h1
    have e : k + j * (r :: l).length = k + j + j * l.length := by rw [List.length_cons, Nat.mul_add, Nat.mul_one]; omega
    rw [e]; exact h2
theorem lcmL_pos : ∀ (l : List Rw) (D : Nat), (∀ r ∈ l, 0 < numS r.d) → 0 < D → 0 < lcmL l D
  | [], D, _, h => h
  | r :: l, D, hp, h => lcmL_pos l _ (fun x hx => hp x (by simp [hx])) (Nat.mul_pos h (Nat.div_pos (Nat.le_of_dvd (hp r (by simp)) (Nat.gcd_dvd_right _ _)) (Nat.gcd_pos_of_pos_left _ h)))
/-- the numerators with the denominator D -/
def numsL (l : List Rw) (D : Nat) : List Nat := l.map fun r => numS r.n * (D / numS r.d)
def oksL (l : List Rw) : Bool := l.all fun r => !r.neg && r.right
def namesN (l : List Nat) : List Value := l.map fun n => .string (encS n)
theorem namesN_one (n : Nat) : ∀ u ∈ [Value.string (encS n)], u.oneCell' = true := by intro u hu; simp at hu; subst hu; rfl
theorem infoNat : (Tryz.prog.info? 22).map (fun i => (i.zero, i.size, i.bytes)) = some (some (.string ⟨#[]⟩), 1, 16) := by kernel_rfl
theorem own_lstN {W : World} {base : Nat} {e : TypeId} {v : Value} {l : List Nat} (h : W.ownsRow base e 1 v l.length (namesN l)) (hl : l.length ≤ 1000) : LstN W v l := by
  rcases h.2 with ⟨rfl, h0⟩ | ⟨g, cap, cur, rfl, hg, hgh, hnc, hcm, hcs, hct⟩
  · exact .inl ⟨rfl, List.eq_nil_of_length_eq_zero h0⟩
  · refine .inr ⟨g, 0, cap, rfl, (Array.getElem?_eq_some_iff.1 hgh).1, hl, fun i hi => ?_⟩
    have hat : (namesN l)[i]? = some (.string (encS l[i])) := by unfold namesN; rw [List.getElem?_map, List.getElem?_eq_getElem hi]; rfl
    rw [← hct, List.getElem?_take] at hat
    split at hat
    · rw [Nat.zero_add, Lib.cell_of_heap hgh, ← Array.getElem?_toList]; exact hat
    · cases hat
set_option maxHeartbeats 1000000 in
theorem foldD_any (l : List Rw) (v : Value) (D : Nat) (wq : World) (hl : LstR wq v l) (hn : l.length ≤ 20) (hs : SzL l 1000) (hp : ∀ r ∈ l, 0 < numS r.d) (hD : Sz D 1000) :
    Calls Tryz.prog 64 #[v, .string (encS D), .func (Fn.func 65) #[] #[]] wq fun e w' => e = .returned (.string (encS (lcmL l D))) ∧ Below wq.heap.size wq w' := by
  obtain ⟨p, ca, rfl, hla, hca⟩ := hl.open
  have HC := Lib.hid hca
  have HF : Hid (∀ k (h : k < l.length) w, Calls Tryz.prog 65 #[.string (encS (lcmL (l.take k) D)), .agg #[.bool l[k].neg, .string l[k].n, .string l[k].d]] w fun e w' => e = .returned (.string (encS (lcmL (l.take (k + 1)) D))) ∧ Below w.heap.size w w') := Lib.hid fun k h w => by
    rw [lcmL_take h]
    have hm := List.getElem_mem h
    refine lcm_any _ _ _ _ w (hp _ hm) ?_ (Nat.le_trans (hs _ hm).2 (by decide))
    refine (lcmL_sz (l.take k) D 1000 1000 (fun r hr => hs r (List.mem_of_mem_take hr)) hD).mono ?_
    have : (l.take k).length ≤ 20 := by rw [List.length_take]; omega
    omega
  clear hca hl hs hp hD
  go_enter Tryz.func64, Tryz.ntmps64
  go_wp2_with fail
  go_loopw [1, 11] (fun dv i wr => ∃ k : Nat, k ≤ l.length ∧ i = .int .i64 (k : Int) ∧ dv = .string (encS (lcmL (l.take k) D)) ∧ Hid (Below wq.heap.size wq wr)) (fun _ i _ => l.length - (intOf i).toNat)
  case atStart => exact ⟨0, by omega, rfl, rfl, Lib.hid (Below.refl _ _)⟩
  case round =>
    obtain ⟨k, hk, rfl, rfl, HBW⟩ := hrel
    by_cases hlt : k < l.length
    · have hlt' : (k : Int) < (l.length : Int) := by omega
      obtain ⟨g, off, rfl, hg, c1, c2, c3⟩ := HC.out k hlt
      have hgr := Nat.lt_of_lt_of_le hg HBW.out.size
      have d1 : wr.cell? ⟨g, off + k * 3, none⟩ = some (.bool l[k].neg) := by rw [cell_up HBW.out hg]; exact c1
      have d2 : wr.cell? ⟨g, off + k * 3 + 1, none⟩ = some (.string l[k].n) := by rw [cell_up HBW.out hg]; exact c2
      have d3 : wr.cell? ⟨g, off + k * 3 + 2, none⟩ = some (.string l[k].d) := by rw [cell_up HBW.out hg]; exact c3
      clear c1 c2 c3
      have HFK := Lib.hid (HF.out k hlt)
      obtain ⟨D1, hD1⟩ : ∃ D1, lcmL (l.take k) D = D1 := ⟨_, rfl⟩
      obtain ⟨D2, hD2⟩ : ∃ D2, lcmL (l.take (k + 1)) D = D2 := ⟨_, rfl⟩
      rw [hD1, hD2] at HFK
      rw [hD1]
      have HD2 := Lib.hid hD2
      clear hD1 hD2
      obtain ⟨wo, hwo⟩ : ∃ wo, wo = wr := ⟨_, rfl⟩
      subst hwo
      go_wp2_with fail
      refine (HFK.out _).mono ?_
      rintro e w1 ⟨rfl, hb⟩
      have HB1 := Lib.hid ((HBW.out.alloc HBW.out.size _).trans (hb.mono (HBW.out.alloc HBW.out.size _).size))
      clear hb d1 d2 d3
      go_wp2_with fail
      go_roundw
      case rel => exact ⟨k + 1, by omega, by go_num, by rw [HD2.out], HB1⟩
      case measure => simp [intOf]; omega
    · have hge : (l.length : Int) ≤ (k : Int) := by omega
      have HT : Hid (l.take k = l) := Lib.hid (List.take_of_length_le (by omega))
      go_wp2_with fail
      go_ret
      exact ⟨by rw [HT.out]; rfl, HBW.out⟩
/-- what Common hands back, but for the list -/
def comD (l : List Rw) : ByteArray := if oksL l = true then encS (lcmL l 1) else ⟨#[]⟩
def comN (l : List Rw) : List Nat := if oksL l = true then numsL l (lcmL l 1) else []
theorem oksL_take {l : List Rw} {k : Nat} (h : k < l.length) (h1 : oksL (l.take k) = true) (h2 : l[k].neg = false) (h3 : l[k].right = true) : oksL (l.take (k + 1)) = true := by
  unfold oksL at h1 ⊢; rw [List.take_succ_eq_append_getElem h, List.all_append, h1]; simp [h2, h3]
theorem oksL_bad {l : List Rw} {k : Nat} (h : k < l.length) (h1 : (!l[k].neg && l[k].right) = false) : oksL l = false := by
  unfold oksL
  rw [List.all_eq_false]
  exact ⟨l[k], List.getElem_mem h, by rw [h1]; simp⟩
theorem oksL_pos {l : List Rw} (h : oksL l = true) : ∀ r ∈ l, 0 < numS r.d := fun r hr => by
  have := List.all_eq_true.1 h r hr
  simp only [Bool.and_eq_true] at this
  exact (rightR_iff.1 this.2).2.2.pos
theorem numsL_take {l : List Rw} {k D : Nat} (h : k < l.length) : numsL (l.take (k + 1)) D = numsL (l.take k) D ++ [numS l[k].n * (D / numS l[k].d)] := by
  unfold numsL; rw [List.take_succ_eq_append_getElem h, List.map_append]; rfl
theorem numsL_len (l : List Rw) (D : Nat) : (numsL l D).length = l.length := by simp [numsL]
set_option maxHeartbeats 2000000 in
set_option maxRecDepth 100000 in
theorem Common_any (l : List Rw) (v : Value) (wq : World) (hl : LstR wq v l) (hn : l.length ≤ 20) (hs : SzL l 1000) :
    Calls Tryz.prog 24 #[v] wq fun e w' => ∃ v', e = .returned (.tuple #[.string (comD l), v', .bool (oksL l)]) ∧ LstN w' v' (comN l) ∧ Below wq.heap.size wq w' := by
  have HFD : Hid (∀ w, LstR w v l → oksL l = true → Calls Tryz.prog 64 #[v, .string (encS 1), .func (Fn.func 65) #[] #[]] w fun e w' => e = .returned (.string (encS (lcmL l 1))) ∧ Below w.heap.size w w') := Lib.hid fun w h h2 => foldD_any l v 1 w h hn hs (oksL_pos h2) (sz_one.mono (by decide))
  have HL := Lib.hid hl
  obtain ⟨p, ca, rfl, hla, hca⟩ := hl.open
  have HC := Lib.hid hca
  obtain ⟨i0, hi, hz0, hz1, hz2⟩ := info_partsN infoNat
  have HRT : Hid (∀ k (h : k < l.length) w, Calls Tryz.prog 17 #[.agg #[.bool l[k].neg, .string l[k].n, .string l[k].d]] w fun e w' => e = .returned (.bool l[k].right) ∧ Below w.heap.size w w') := Lib.hid fun k h w => RatRight_any _ _ _ w (Nat.le_trans (hs _ (List.getElem_mem h)).1 (by decide)) (Nat.le_trans (hs _ (List.getElem_mem h)).2 (by decide))
  have HO1 := Lib.hid (fun w => Of_any 1 w (by decide))
  have hDs : oksL l = true → Sz (lcmL l 1) 30000 := fun h => (lcmL_sz l 1 1 1000 hs sz_one).mono (by omega)
  have HQT : Hid (oksL l = true → ∀ k (h : k < l.length) w, Calls Tryz.prog 66 #[.string (encS (lcmL l 1)), .string l[k].d] w fun e w' => (∃ R, e = .returned (.tuple #[.string (encS (lcmL l 1 / numS l[k].d)), .string R, .bool true])) ∧ Below w.heap.size w w') := Lib.hid fun h0 k h w => by
    refine (Quo_n (numS_encS _) (rfl : numS l[k].d = numS l[k].d) (Nat.le_trans (encS_size_lt (hDs h0)) (by decide)) (Nat.le_trans (hs _ (List.getElem_mem h)).2 (by decide)) w).mono ?_
    rintro e w' ⟨rfl, hb⟩
    exact ⟨⟨_, by rw [decide_eq_true (oksL_pos h0 _ (List.getElem_mem h))]⟩, hb⟩
  have HMT : Hid (oksL l = true → ∀ k (h : k < l.length) w, Calls Tryz.prog 67 #[.string l[k].n, .string (encS (lcmL l 1 / numS l[k].d))] w fun e w' => e = .returned (.string (encS (numS l[k].n * (lcmL l 1 / numS l[k].d)))) ∧ Below w.heap.size w w') := Lib.hid fun h0 k h w =>
    Mul_n (rfl : numS l[k].n = numS l[k].n) (numS_encS _) (Nat.le_trans (hs _ (List.getElem_mem h)).1 (by decide)) (Nat.le_trans (encS_size_lt ((hDs h0).div _)) (by decide)) w
  clear hca hl hs hDs
  go_enter Tryz.func24, Tryz.ntmps24
  go_wp2_with fail
  go_loopw [16] (fun i wr => ∃ k : Nat, k ≤ l.length ∧ i = .int .i64 (k : Int) ∧ Hid (oksL (l.take k) = true) ∧ Hid (Below wq.heap.size wq wr)) (fun i _ => l.length - (intOf i).toNat)
  case atStart => exact ⟨0, by omega, rfl, Lib.hid rfl, Lib.hid (Below.refl _ _)⟩
  case round =>
    obtain ⟨k, hk, rfl, HOK, HBW⟩ := hrel
    by_cases hlt : k < l.length
    · have hlt' : (k : Int) < (l.length : Int) := by omega
      obtain ⟨g, off, rfl, hg, c1, c2, c3⟩ := HC.out k hlt
      have hgr := Nat.lt_of_lt_of_le hg HBW.out.size
      have d1 : wr.cell? ⟨g, off + k * 3, none⟩ = some (.bool l[k].neg) := by rw [cell_up HBW.out hg]; exact c1
      have d2 : wr.cell? ⟨g, off + k * 3 + 1, none⟩ = some (.string l[k].n) := by rw [cell_up HBW.out hg]; exact c2
      have d3 : wr.cell? ⟨g, off + k * 3 + 2, none⟩ = some (.string l[k].d) := by rw [cell_up HBW.out hg]; exact c3
      clear c1 c2 c3
      obtain ⟨wo, hwo⟩ : ∃ wo, wo = wr := ⟨_, rfl⟩
      subst hwo
      have HB1 := Lib.hid (HBW.out.alloc HBW.out.size (.cells #[.bool l[k].neg, .string l[k].n, .string l[k].d] 26))
      have HRK := Lib.hid (HRT.out k hlt)
      obtain ⟨nn, hnn⟩ : ∃ nn, l[k].neg = nn := ⟨_, rfl⟩
      rw [hnn] at d1 HRK HB1
      cases nn
      · obtain ⟨rr, hrr⟩ : ∃ rr, l[k].right = rr := ⟨_, rfl⟩
        rw [hrr] at HRK
        cases rr
        · have HBAD := Lib.hid (oksL_bad hlt (by rw [hnn, hrr]; rfl))
          clear hnn hrr
          go_wp2_with fail
          refine (HRK.out _).mono ?_
          rintro e w1 ⟨rfl, hb⟩
          have HB2 := Lib.hid (HB1.out.trans (hb.mono HB1.out.size))
          clear hb
          go_wp2_with fail
          refine bodyPost_ret (results_tmp3 rfl _ _ _) rfl ?_
          exact ⟨_, by unfold comD; rw [HBAD.out]; rfl, by unfold comN; rw [HBAD.out]; exact .inl ⟨rfl, rfl⟩, HB2.out⟩
        · have HOK2 := Lib.hid (oksL_take hlt HOK.out hnn hrr)
          clear hnn hrr
          go_wp2_with fail
          refine (HRK.out _).mono ?_
          rintro e w1 ⟨rfl, hb⟩
          have HB2 := Lib.hid (HB1.out.trans (hb.mono HB1.out.size))
          clear hb d1 d2 d3
          go_wp2_with fail
          go_roundw
          case rel => exact ⟨k + 1, by omega, by go_num, HOK2, HB2⟩
          case measure => simp [intOf]; omega
      · have HBAD := Lib.hid (oksL_bad hlt (by rw [hnn]; rfl))
        clear hnn
        go_wp2_with fail
        refine bodyPost_ret (results_tmp3 rfl _ _ _) rfl ?_
        exact ⟨_, by unfold comD; rw [HBAD.out]; rfl, by unfold comN; rw [HBAD.out]; exact .inl ⟨rfl, rfl⟩, HB1.out⟩
    · have hge : (l.length : Int) ≤ (k : Int) := by omega
      have hall : oksL l = true := by have := HOK.out; rwa [List.take_of_length_le (by omega)] at this
      have HFD2 := Lib.hid (HFD.out _ (HL.out.up HBW.out) hall)
      have HFD3 : Hid (∀ w1, Below wr.heap.size wr w1 → Calls Tryz.prog 64 #[.slice p l.length ca, .string (encS 1), .func (Fn.func 65) #[] #[]] w1 fun e w' => e = .returned (.string (encS (lcmL l 1))) ∧ Below w1.heap.size w1 w') := Lib.hid fun w1 hb => HFD.out w1 ((HL.out.up HBW.out).up hb) hall
      have HQT := Lib.hid (HQT.out hall); have HMT := Lib.hid (HMT.out hall)
      have HALL := Lib.hid hall
      clear hall HFD2
      go_wp2_with fail
      refine (HO1.out _).mono ?_
      rintro e w1 ⟨rfl, hb⟩
      have HF4 := Lib.hid (HFD3.out _ hb)
      have HB1 := Lib.hid (HBW.out.trans (hb.mono HBW.out.size))
      rw [show (1 : Int).toNat = 1 from rfl]
      clear hb
      go_wp2_with fail
      refine (HF4.out).mono ?_
      rintro e w2 ⟨rfl, hb⟩
      have HB2 := Lib.hid (HB1.out.trans (hb.mono HB1.out.size))
      clear hb hlt hge hk
      obtain ⟨D, hD⟩ : ∃ D, lcmL l 1 = D := ⟨_, rfl⟩
      have HD := Lib.hid hD
      rw [hD] at HQT HMT ⊢
      clear hD
      go_wp2_with fail
      go_loopw [8, 33] (fun vo i wr => ∃ k : Nat, k ≤ l.length ∧ i = .int .i64 (k : Int) ∧ Hid (wr.ownsRow wq.heap.size 22 1 vo k (namesN (numsL (l.take k) D))) ∧ Hid (Below wq.heap.size wq wr)) (fun _ i _ => l.length - (intOf i).toNat)
      case atStart => exact ⟨0, by omega, rfl, Lib.hid (World.ownsRow_nil _ _ _ _), HB2⟩
      case round =>
        obtain ⟨k, hk, rfl, HO, HBW⟩ := hrel
        by_cases hlt : k < l.length
        · have hlt' : (k : Int) < (l.length : Int) := by omega
          obtain ⟨g, off, rfl, hg, c1, c2, c3⟩ := HC.out k hlt
          have hgr := Nat.lt_of_lt_of_le hg HBW.out.size
          have d1 : wr.cell? ⟨g, off + k * 3, none⟩ = some (.bool l[k].neg) := by rw [cell_up HBW.out hg]; exact c1
          have d2 : wr.cell? ⟨g, off + k * 3 + 1, none⟩ = some (.string l[k].n) := by rw [cell_up HBW.out hg]; exact c2
          have d3 : wr.cell? ⟨g, off + k * 3 + 2, none⟩ = some (.string l[k].d) := by rw [cell_up HBW.out hg]; exact c3
          clear c1 c2 c3
          obtain ⟨wo, hwo⟩ : ∃ wo, wo = wr := ⟨_, rfl⟩
          subst hwo
          have HB1 := Lib.hid (HBW.out.alloc HBW.out.size (.cells #[.bool l[k].neg, .string l[k].n, .string l[k].d] 26))
          have HX := Lib.hid (heap_alloc_new wo (.cells #[.bool l[k].neg, .string l[k].n, .string l[k].d] 26))
          have HOA := Lib.hid (HO.out.alloc (.cells #[.bool l[k].neg, .string l[k].n, .string l[k].d] 26))
          have HQK := Lib.hid (HQT.out k hlt); have HMK := Lib.hid (HMT.out k hlt)
          have HE : Hid (namesN (numsL (l.take (k + 1)) D) = namesN (numsL (l.take k) D) ++ [.string (encS (numS l[k].n * (D / numS l[k].d)))]) := Lib.hid (by rw [numsL_take hlt]; simp [namesN])
          obtain ⟨M, hM⟩ : ∃ M, numS l[k].n * (D / numS l[k].d) = M := ⟨_, rfl⟩
          obtain ⟨Q, hQ⟩ : ∃ Q, D / numS l[k].d = Q := ⟨_, rfl⟩
          rw [hM] at HE; rw [hQ] at HQK HMK hM; rw [hM] at HMK
          clear hM hQ
          go_wp2_with fail
          obtain ⟨W0, hW0⟩ : ∃ W0, wo.alloc (.cells #[.bool l[k].neg, .string l[k].n, .string l[k].d] 26) = W0 := ⟨_, rfl⟩
          rw [hW0] at HB1 HX HOA ⊢
          clear hW0 d1 d2 d3
          refine (HQK.out _).mono ?_
          rintro e w3 ⟨⟨R, rfl⟩, hb⟩
          have HB2 := Lib.hid (HB1.out.trans (hb.mono HB1.out.size))
          have HO2 := Lib.hid (own_up HOA.out hb)
          obtain ⟨⟨cx0, cx1, cx2⟩, -⟩ := row_cells (heap_up hb HX.out)
          clear hb
          go_wp2_with fail
          refine (HMK.out _).mono ?_
          rintro e w4 ⟨rfl, hb⟩
          have HB3 := Lib.hid (HB2.out.trans (hb.mono HB2.out.size))
          have HO3 := Lib.hid (own_up HO2.out hb)
          clear hb cx0 cx1 cx2
          go_wp2_with (first | (at_builtin; refine wpList_append_own _ rfl _ _ 46 rfl wq.heap.size 22 i0 (.string ⟨#[]⟩) 1 16 Tryz.underlying46 hi hz0 hz1 hz2 rfl (by decide) _ _ _ rfl (HO3.out.alloc _) ⟨w4.heap.size, 0, none⟩ 1 1 [.string (encS M)] rfl rfl (cell_fresh w4 _ _) (namesN_one _) (by unfold maxLen; omega) (by omega) (by have := HB3.out.size; simp; omega) ?_; intro v' w5 hown' hgrow hnn; have HO4 := Lib.hid hown'; have HG := Lib.hid hgrow; clear hown' hgrow hnn) | fail)
          go_roundw
          case rel => exact ⟨k + 1, by omega, by go_num, Lib.hid (by rw [HE.out]; exact HO4.out), Lib.hid (below_own (HB3.out.alloc HB3.out.size _) (HO3.out.alloc _) HG.out (Nat.le_refl _))⟩
          case measure => simp [intOf]; omega
        · have hge : (l.length : Int) ≤ (k : Int) := by omega
          have hkl : k = l.length := by omega
          have HLN : Hid (∀ v', wr.ownsRow wq.heap.size 22 1 v' k (namesN (numsL (l.take k) D)) → LstN wr v' (comN l)) := Lib.hid (fun v' h1 => by
            have h2 : numsL l D = comN l := by unfold comN; rw [if_pos HALL.out, HD.out]
            rw [List.take_of_length_le (by omega), hkl, ← numsL_len l D] at h1
            rw [← h2]
            exact own_lstN h1 (by rw [numsL_len]; omega))
          clear hkl
          go_wp2_with fail
          refine bodyPost_ret (results_tmp3 rfl _ _ _) rfl ?_
          exact ⟨_, by unfold comD; rw [if_pos HALL.out, HD.out, HALL.out]; rfl, HLN.out _ HO.out, HBW.out⟩
end Go.Proofs.YtancflpioigjbaaGreatDoor
