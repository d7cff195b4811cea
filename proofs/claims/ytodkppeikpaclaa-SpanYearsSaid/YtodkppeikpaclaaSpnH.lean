/- Norm, Union, Meet, Less, Days, Count, Same, Mod of the reference model; each theorem names its conditions. -/
import Derived.Test.YtodkppeikpaclaaSpnG
import Derived.BigQuiet
namespace Go.Proofs.Ytodkppeikpaclaa
open Go.RowKit Go.Shelf
open Spn
set_option linter.unusedVariables false

theorem rUnion_any (va vb : Value) (la lb : List Sp) (w : World) (ha : la.length ≤ 10000) (hb : lb.length ≤ 10000) (hla : Lst w va la) (hlb : Lst w vb lb) :
    Calls Try.prog 18 #[va, vb] w fun e w' => ∃ v, e = .returned v ∧ Lst w' v (comb orF la lb) ∧ Below w.heap.size w w' := by
  have HC := Lib.hid (rpieces_any 0 orF (.inl ⟨rfl, rfl⟩) va vb la lb w ha hb hla hlb)
  go_enter Try.func18, Try.ntmps18
  go_wp2_with fail
  refine HC.out.mono ?_
  rintro e w1 ⟨v, rfl, hl, hb1⟩
  have HL := Lib.hid hl; have HB := Lib.hid hb1
  obtain ⟨p, c, rfl, hlen, -⟩ := hl.open
  clear hl hb1 hlen
  go_wp2_with fail
  go_ret
  exact ⟨_, rfl, HL.out, HB.out⟩
theorem rMeet_any (va vb : Value) (la lb : List Sp) (w : World) (ha : la.length ≤ 10000) (hb : lb.length ≤ 10000) (hla : Lst w va la) (hlb : Lst w vb lb) :
    Calls Try.prog 20 #[va, vb] w fun e w' => ∃ v, e = .returned v ∧ Lst w' v (comb andF la lb) ∧ Below w.heap.size w w' := by
  have HC := Lib.hid (rpieces_any 1 andF (.inr (.inl ⟨rfl, rfl⟩)) va vb la lb w ha hb hla hlb)
  go_enter Try.func20, Try.ntmps20
  go_wp2_with fail
  refine HC.out.mono ?_
  rintro e w1 ⟨v, rfl, hl, hb1⟩
  have HL := Lib.hid hl; have HB := Lib.hid hb1
  obtain ⟨p, c, rfl, hlen, -⟩ := hl.open
  clear hl hb1 hlen
  go_wp2_with fail
  go_ret
  exact ⟨_, rfl, HL.out, HB.out⟩
theorem rLess_any (va vb : Value) (la lb : List Sp) (w : World) (ha : la.length ≤ 10000) (hb : lb.length ≤ 10000) (hla : Lst w va la) (hlb : Lst w vb lb) :
    Calls Try.prog 22 #[va, vb] w fun e w' => ∃ v, e = .returned v ∧ Lst w' v (comb lessF la lb) ∧ Below w.heap.size w w' := by
  have HC := Lib.hid (rpieces_any 2 lessF (.inr (.inr ⟨rfl, rfl⟩)) va vb la lb w ha hb hla hlb)
  go_enter Try.func22, Try.ntmps22
  go_wp2_with fail
  refine HC.out.mono ?_
  rintro e w1 ⟨v, rfl, hl, hb1⟩
  have HL := Lib.hid hl; have HB := Lib.hid hb1
  obtain ⟨p, c, rfl, hlen, -⟩ := hl.open
  clear hl hb1 hlen
  go_wp2_with fail
  go_ret
  exact ⟨_, rfl, HL.out, HB.out⟩
theorem rNorm_any (va : Value) (la : List Sp) (w : World) (ha : la.length ≤ 10000) (hla : Lst w va la) :
    Calls Try.prog 16 #[va] w fun e w' => ∃ v, e = .returned v ∧ Lst w' v (norm la) ∧ Below w.heap.size w w' := by
  have HC := Lib.hid (rpieces_any 0 orF (.inl ⟨rfl, rfl⟩) va (.slice none 0 0) la [] w ha (by simp) hla (Lst.none w))
  go_enter Try.func16, Try.ntmps16
  go_wp2_with fail
  refine HC.out.mono ?_
  rintro e w1 ⟨v, rfl, hl, hb1⟩
  have HL := Lib.hid hl; have HB := Lib.hid hb1
  obtain ⟨p, c, rfl, hlen, -⟩ := hl.open
  clear hl hb1 hlen
  go_wp2_with fail
  go_ret
  exact ⟨_, rfl, HL.out, HB.out⟩
set_option maxHeartbeats 2000000 in
theorem rDays_any (va : Value) (la : List Sp) (w : World) (ha : la.length ≤ 10000) (hla : Lst w va la) :
    Calls Try.prog 31 #[va] w fun e w' => e = .returned (.int .i64 (daysL (norm la))) ∧ Below w.heap.size w w' := by
  have HC := Lib.hid (rNorm_any va la w ha hla)
  have hnl := norm_len la
  have HBD := Lib.hid (norm_bd la)
  clear hla
  go_enter Try.func31, Try.ntmps31
  go_wp2_with fail
  refine HC.out.mono ?_
  rintro e w1 ⟨v, rfl, hl, hb1⟩
  obtain ⟨p, c, rfl, hlen, hcell⟩ := hl.open
  obtain ⟨N, hN⟩ : ∃ N, norm la = N := ⟨_, rfl⟩
  rw [hN] at hlen hcell hnl HBD ⊢
  have HN := Lib.hid hN; have HB := Lib.hid hb1; have HCELL := Lib.hid hcell
  clear hl hb1 hcell hN
  go_wp2_with fail
  go_loopw [4, 5] (fun n i wr => ∃ k : Nat, k ≤ N.length ∧ i = .int .i64 (k : Int) ∧ n = .int .i64 (daysL (N.take k)) ∧ Hid (Below w1.heap.size w1 wr)) (fun _ i _ => N.length - (intOf i).toNat)
  case atStart => exact ⟨0, by omega, rfl, rfl, Lib.hid (Below.refl _ _)⟩
  case round =>
    obtain ⟨k, hk, rfl, rfl, HBW⟩ := hrel
    by_cases hlt : k < N.length
    · have hlt' : (k : Int) < (N.length : Int) := by omega
      obtain ⟨g, off, rfl, hg, h1, h2⟩ := HCELL.out k hlt
      have d1 : wr.cell? ⟨g, off + k * 2, none⟩ = some (.int .i64 N[k].1) := by rw [cell_up HBW.out hg]; exact h1
      have d2 : wr.cell? ⟨g, off + k * 2 + 1, none⟩ = some (.int .i64 N[k].2) := by rw [cell_up HBW.out hg]; exact h2
      have hbs := HBD.out _ (List.getElem_mem hlt)
      have hds := daysL_bd (N.take k) (fun s hs => HBD.out s (List.mem_of_mem_take hs))
      have hkl : (N.take k).length ≤ 40000 := by simp; omega
      have hd0 : -(3700000 * 40000) ≤ daysL (N.take k) := by have := hds.1; omega
      have hd1 : daysL (N.take k) ≤ 3700000 * 40000 := by have := hds.2; omega
      obtain ⟨hs1, hs2⟩ := hbs
      have HDN := Lib.hid (daysL_next hlt)
      obtain ⟨sf, hsf⟩ : ∃ sf, N[k].1 = sf := ⟨_, rfl⟩
      obtain ⟨st, hst⟩ : ∃ st, N[k].2 = st := ⟨_, rfl⟩
      rw [hsf] at d1 hs1; rw [hst] at d2 hs2
      rw [hsf, hst] at HDN
      clear h1 h2 hds hsf hst
      obtain ⟨D, hD⟩ : ∃ D, daysL (N.take k) = D := ⟨_, rfl⟩
      rw [hD] at hd0 hd1 HDN ⊢
      clear hD
      have ww1 : IntKind.i64.wrap (D + st) = D + st := by rw [IntKind.wrap_i64]; omega
      have ww2 : IntKind.i64.wrap (D + st - sf) = D + st - sf := by rw [IntKind.wrap_i64]; omega
      go_wp2_with fail
      go_quiet (fail)
      go_wp2_with fail
      go_roundw
      case rel => exact ⟨k + 1, by omega, by go_num, by rw [HDN.out]; congr 1; omega, Lib.hid (below_drewN HBW.out _)⟩
      case measure => simp [intOf]; omega
    · have hge : (N.length : Int) ≤ (k : Int) := by omega
      have HALL : Hid (daysL (N.take k) = daysL N) := Lib.hid (by rw [List.take_of_length_le (by omega)])
      go_wp2_with fail
      go_ret
      exact ⟨by rw [HALL.out, HN.out]; rfl, HB.out.trans (HBW.out.mono HB.out.size)⟩
set_option maxHeartbeats 2000000 in
theorem rCount_any (va : Value) (la : List Sp) (d n : Int) (w : World) (ha : la.length ≤ 10000) (hla : Lst w va la) :
    Calls Try.prog 27 #[va, .int .i64 d, .int .i64 n] w fun e w' => e = .returned (.tuple #[.int .i64 (cntN la d n), .bool (cntOk la d n)]) ∧ Below w.heap.size w w' := by
  by_cases h1 : d < 0
  · have HO : Hid (cntOk la d n = false ∧ cntN la d n = 0) := Lib.hid (cnt_no (.inl h1))
    go_enter Try.func27, Try.ntmps27
    go_wp2_with fail
    go_ret2
    exact ⟨by rw [HO.out.1, HO.out.2]; rfl, Below.refl _ _⟩
  by_cases h2 : 3652058 < d
  · have HO : Hid (cntOk la d n = false ∧ cntN la d n = 0) := Lib.hid (cnt_no (.inr (.inl h2)))
    go_enter Try.func27, Try.ntmps27
    go_wp2_with fail
    go_ret2
    exact ⟨by rw [HO.out.1, HO.out.2]; rfl, Below.refl _ _⟩
  by_cases h3 : n < 0
  · have HO : Hid (cntOk la d n = false ∧ cntN la d n = 0) := Lib.hid (cnt_no (.inr (.inr (.inl h3))))
    go_enter Try.func27, Try.ntmps27
    go_wp2_with fail
    go_ret2
    exact ⟨by rw [HO.out.1, HO.out.2]; rfl, Below.refl _ _⟩
  by_cases h4 : 3652058 < n
  · have HO : Hid (cntOk la d n = false ∧ cntN la d n = 0) := Lib.hid (cnt_no (.inr (.inr (.inr h4))))
    go_enter Try.func27, Try.ntmps27
    go_wp2_with fail
    go_ret2
    exact ⟨by rw [HO.out.1, HO.out.2]; rfl, Below.refl _ _⟩
  have HC := Lib.hid (rNorm_any va la w ha hla)
  have hnl := norm_len la
  have HBD := Lib.hid (norm_bd la)
  have HYES := Lib.hid (cnt_yes (l := la) (d := d) (n := n) (by omega) (by omega))
  have g1 : 0 ≤ d := by omega
  have g2 : d ≤ 3652058 := by omega
  have g3 : 0 ≤ n := by omega
  have g4 : n ≤ 3652058 := by omega
  clear hla h1 h2 h3 h4
  go_enter Try.func27, Try.ntmps27
  go_wp2_with fail
  refine HC.out.mono ?_
  rintro e w1 ⟨v, rfl, hl, hb1⟩
  obtain ⟨p, c, rfl, hlen, hcell⟩ := hl.open
  obtain ⟨N, hN⟩ : ∃ N, norm la = N := ⟨_, rfl⟩
  rw [hN] at hlen hcell hnl HBD HYES ⊢
  have HB := Lib.hid hb1; have HCELL := Lib.hid hcell
  clear hl hb1 hcell hN
  go_wp2_with fail
  go_loopw [2, 9, 10] (fun a b i wr => ∃ (k : Nat) (x y : Int), k ≤ N.length ∧ i = .int .i64 (k : Int) ∧ a = .int .i64 y ∧ b = .int .i64 x ∧ 0 ≤ x ∧ x ≤ 3652059 ∧ 0 ≤ y ∧ y ≤ 3652058 ∧ Hid (cntL N d n = cntL (N.drop k) x y) ∧ Hid (Below w1.heap.size w1 wr)) (fun _ _ i _ => N.length - (intOf i).toNat)
  case atStart => exact ⟨0, d, n, by omega, rfl, rfl, rfl, by omega, by omega, by omega, by omega, Lib.hid rfl, Lib.hid (Below.refl _ _)⟩
  case round =>
    obtain ⟨k, x, y, hk, rfl, rfl, rfl, x0, x1, y0, y1, HCN, HBW⟩ := hrel
    have HBF := Lib.hid (HB.out.trans (HBW.out.mono HB.out.size))
    by_cases hlt : k < N.length
    · have hlt' : (k : Int) < (N.length : Int) := by omega
      obtain ⟨g, off, rfl, hg, h1, h2⟩ := HCELL.out k hlt
      have d1 : wr.cell? ⟨g, off + k * 2, none⟩ = some (.int .i64 N[k].1) := by rw [cell_up HBW.out hg]; exact h1
      have d2 : wr.cell? ⟨g, off + k * 2 + 1, none⟩ = some (.int .i64 N[k].2) := by rw [cell_up HBW.out hg]; exact h2
      obtain ⟨hs1, hs2⟩ := HBD.out _ (List.getElem_mem hlt)
      have HDR := Lib.hid (List.drop_eq_getElem_cons hlt)
      obtain ⟨sf, hsf⟩ : ∃ sf, N[k].1 = sf := ⟨_, rfl⟩
      obtain ⟨st, hst⟩ : ∃ st, N[k].2 = st := ⟨_, rfl⟩
      rw [hsf] at d1 hs1; rw [hst] at d2 hs2
      have HNX : Hid (cntL (N.drop k) x y = if y ≤ max (sf - x) 0 then (x, y) else cntL (N.drop (k + 1)) (max x st) (y - max (sf - x) 0)) := Lib.hid (by rw [HDR.out, cntL, hsf, hst])
      clear h1 h2 hsf hst HDR
      have HB2 := HBW
      by_cases hy : y ≤ max (sf - x) 0
      · have HE : Hid (cntL N d n = (x, y)) := Lib.hid (by rw [HCN.out, HNX.out, if_pos hy])
        by_cases hf : 3652058 < x + y
        · have HO : Hid (cntOk la d n = false ∧ cntN la d n = 0) := Lib.hid (by have h := HYES.out; rw [HE.out] at h; exact h.2 hf)
          go_wp2_with fail
          go_ret2
          exact ⟨by rw [HO.out.1, HO.out.2]; rfl, HB.out.trans (HB2.out.mono HB.out.size)⟩
        · have HO : Hid (cntOk la d n = true ∧ cntN la d n = x + y) := Lib.hid (by have h := HYES.out; rw [HE.out] at h; exact h.1 (by show x + y ≤ 3652058; omega))
          go_wp2_with fail
          go_ret2
          exact ⟨by rw [HO.out.1, HO.out.2]; rfl, HB.out.trans (HB2.out.mono HB.out.size)⟩
      · have HE : Hid (cntL N d n = cntL (N.drop (k + 1)) (max x st) (y - max (sf - x) 0)) := Lib.hid (by rw [HCN.out, HNX.out, if_neg hy])
        have hm1 : 0 ≤ max x st := by omega
        have hm2 : max x st ≤ 3652059 := by omega
        have hy0 : 0 ≤ y - max (sf - x) 0 := by omega
        have hy1 : y - max (sf - x) 0 ≤ 3652058 := by omega
        go_wp2_with fail
        go_roundw
        case rel => exact ⟨k + 1, max x st, y - max (sf - x) 0, by omega, by go_num, rfl, rfl, hm1, hm2, hy0, hy1, HE, HB2⟩
        case measure => simp [intOf]; omega
    · have hge : (N.length : Int) ≤ (k : Int) := by omega
      have HE : Hid (cntL N d n = (x, y)) := Lib.hid (by rw [HCN.out, List.drop_eq_nil_of_le (by omega), cntL])
      by_cases hf : 3652058 < x + y
      · have HO : Hid (cntOk la d n = false ∧ cntN la d n = 0) := Lib.hid (by have h := HYES.out; rw [HE.out] at h; exact h.2 hf)
        go_wp2_with fail
        go_ret2
        exact ⟨by rw [HO.out.1, HO.out.2]; rfl, HBF.out⟩
      · have HO : Hid (cntOk la d n = true ∧ cntN la d n = x + y) := Lib.hid (by have h := HYES.out; rw [HE.out] at h; exact h.1 (by show x + y ≤ 3652058; omega))
        go_wp2_with fail
        go_ret2
        exact ⟨by rw [HO.out.1, HO.out.2]; rfl, HBF.out⟩
theorem eq_span (a b a' b' : Int) (w : World) : (Op.equalIn 10000 33 (.agg #[.int .i64 a, .int .i64 b]) (.agg #[.int .i64 a', .int .i64 b'])).run Try.prog w = .ok (a == a' && b == b') w := by
  have u3 := Try.underlying3
  have a3 := Try.isAgg3
  have z3 := Try.sizeOf3
  rw [show (10000 : Nat) = 9999 + 1 from rfl, Op.equalIn]
  simp only [Sem.run_bind, run_underlying Try.underlying33, Result.andThen_ok]
  go_simp
  by_cases h1 : a = a' <;> by_cases h2 : b = b' <;> simp [h1, h2]
def sameB (a b : List Sp) : Bool := decide (a = b)
theorem same_at {a b : List Sp} {k : Nat} (h : k < a.length) (h' : k < b.length) (hne : a[k] ≠ b[k]) : sameB a b = false := by
  simp only [sameB, decide_eq_false_iff_not]
  intro e; subst e; exact hne rfl
theorem same_len {a b : List Sp} (h : a.length ≠ b.length) : sameB a b = false := by
  simp only [sameB, decide_eq_false_iff_not]
  intro e; subst e; exact h rfl
set_option maxHeartbeats 1000000 in
theorem Same_any (va vb : Value) (la lb : List Sp) (w : World) (hla : Lst w va la) (hlb : Lst w vb lb) :
    Calls Try.prog 14 #[va, vb] w fun e w' => e = .returned (.bool (sameB la lb)) ∧ Below w.heap.size w w' := by
  obtain ⟨pa, ca, rfl, hlena, hcella⟩ := hla.open
  obtain ⟨pb, cb, rfl, hlenb, hcellb⟩ := hlb.open
  have HCA := Lib.hid hcella; have HCB := Lib.hid hcellb
  clear hla hlb hcella hcellb
  by_cases hl : la.length = lb.length
  case neg =>
    have HS := Lib.hid (same_len hl)
    have hlb' : ((la.length : Int) == (lb.length : Int)) = false := by rw [beq_eq_false_iff_ne]; omega
    go_enter Try.func14, Try.ntmps14
    go_wp2_with fail
    go_ret
    exact ⟨by rw [HS.out]; rfl, Below.refl _ _⟩
  have HLL := Lib.hid hl
  have hl' : (la.length : Int) = (lb.length : Int) := by omega
  rw [← hl]
  clear hl hl'
  go_enter Try.func14, Try.ntmps14
  go_wp2_with fail
  go_loopw [5] (fun i wr => ∃ k : Nat, k ≤ la.length ∧ i = .int .i64 (k : Int) ∧ Hid (la.take k = lb.take k) ∧ Hid (Below w.heap.size w wr)) (fun i _ => la.length - (intOf i).toNat)
  case atStart => exact ⟨0, by omega, rfl, Lib.hid rfl, Lib.hid (Below.refl _ _)⟩
  case round =>
    obtain ⟨k, hk, rfl, HT, HB⟩ := hrel
    by_cases hlt : k < la.length
    · have hlt' : (k : Int) < (la.length : Int) := by omega
      have hlb : k < lb.length := by rw [← HLL.out]; exact hlt
      obtain ⟨g, off, rfl, hg, h1, h2⟩ := HCA.out k hlt
      obtain ⟨g', off', rfl, hg', h1', h2'⟩ := HCB.out k hlb
      have HNX : Hid (la[k] = lb[k] → la.take (k + 1) = lb.take (k + 1)) := Lib.hid (fun h => by
        rw [List.take_succ_eq_append_getElem hlt, List.take_succ_eq_append_getElem hlb, HT.out, h])
      have HNE : Hid (la[k] ≠ lb[k] → sameB la lb = false) := Lib.hid (fun h => same_at hlt hlb h)
      obtain ⟨sa, hsa⟩ : ∃ sa, la[k] = sa := ⟨_, rfl⟩
      obtain ⟨sb, hsb⟩ : ∃ sb, lb[k] = sb := ⟨_, rfl⟩
      rw [hsa] at h1 h2 HNX HNE; rw [hsb] at h1' h2' HNX HNE
      obtain ⟨f1, t1⟩ := sa
      obtain ⟨f2, t2⟩ := sb
      dsimp only at h1 h2 h1' h2'
      have d1 : wr.cell? ⟨g, off + k * 2, none⟩ = some (.int .i64 f1) := by rw [cell_up HB.out hg]; exact h1
      have d2 : wr.cell? ⟨g, off + k * 2 + 1, none⟩ = some (.int .i64 t1) := by rw [cell_up HB.out hg]; exact h2
      have e1 : wr.cell? ⟨g', off' + k * 2, none⟩ = some (.int .i64 f2) := by rw [cell_up HB.out hg']; exact h1'
      have e2 : wr.cell? ⟨g', off' + k * 2 + 1, none⟩ = some (.int .i64 t2) := by rw [cell_up HB.out hg']; exact h2'
      clear h1 h2 h1' h2' hsa hsb hlb
      go_wp2_with fail
      have heq := fun W => eq_span f1 t1 f2 t2 W
      by_cases he : f1 = f2 ∧ t1 = t2
      · have hbq : (f1 == f2 && t1 == t2) = true := by simp [he.1, he.2]
        have HT1 := Lib.hid (HNX.out (by rw [he.1, he.2]))
        simp only [hbq] at heq
        clear he hbq
        go_quiet (fail)
        go_wp2_with fail
        go_roundw
        case rel => exact ⟨k + 1, by omega, by go_num, HT1, Lib.hid (below_drewN HB.out _)⟩
        case measure => simp [intOf]; omega
      · have hbq : (f1 == f2 && t1 == t2) = false := by
          cases hq : (f1 == f2 && t1 == t2)
          · rfl
          · exact absurd (by simpa using hq) he
        have HS := Lib.hid (HNE.out (fun h => he (by cases h; exact ⟨rfl, rfl⟩)))
        simp only [hbq] at heq
        clear he hbq
        go_quiet (fail)
        go_wp2_with fail
        go_ret
        exact ⟨by rw [HS.out]; rfl, below_drewN HB.out _⟩
    · have hge : (la.length : Int) ≤ (k : Int) := by omega
      have HS : Hid (sameB la lb = true) := Lib.hid (by
        have h := HT.out
        rw [List.take_of_length_le (by omega), List.take_of_length_le (by have := HLL.out; omega)] at h
        simp [sameB, h])
      go_wp2_with fail
      go_ret
      exact ⟨by rw [HS.out]; rfl, HB.out⟩
theorem rMod_any (n m : Int) (h : 0 < m) (h9 : m ≤ 1000000) (l0 : -9223372036854775808 ≤ n) (l1 : n ≤ 9223372036854775807) (w : World) :
    Calls Try.prog 32 #[.int .i64 n, .int .i64 m] w fun e w' => e = .returned (.int .i64 (n % m)) ∧ w = w' := by
  have b1 : -m < n.tmod m := Int.lt_tmod_of_pos n h
  have b2 : n.tmod m < m := Int.tmod_lt_of_pos n h
  have hne : m ≠ 0 := by omega
  have h1 : n.tmod m = if 0 ≤ n ∨ m ∣ n then n % m else n % m - m := by
    rw [Int.tmod_eq_emod]
    split <;> simp [Int.natAbs_of_nonneg (Int.le_of_lt h)]
  have h2 := Int.emod_nonneg n hne
  have h3 := Int.emod_lt_of_pos n h
  by_cases hn : n.tmod m < 0
  · have HE : Hid (n.tmod m + m = n % m) := Lib.hid (by rw [h1] at hn ⊢; split at hn <;> rename_i hc <;> first | omega | (rw [if_neg hc]; omega))
    clear h1
    obtain ⟨r, hr⟩ : ∃ r, n.tmod m = r := ⟨_, rfl⟩
    rw [hr] at b1 b2 hn HE
    go_enter Try.func32, Try.ntmps32
    go_wp2_with fail
    go_ret
    exact ⟨by rw [← HE.out]; rfl, rfl⟩
  · have HE : Hid (n.tmod m = n % m) := Lib.hid (by rw [h1] at hn ⊢; split at hn <;> rename_i hc <;> first | omega | rw [if_pos hc])
    clear h1
    obtain ⟨r, hr⟩ : ∃ r, n.tmod m = r := ⟨_, rfl⟩
    rw [hr] at b1 b2 hn HE
    go_enter Try.func32, Try.ntmps32
    go_wp2_with fail
    go_ret
    exact ⟨by rw [← HE.out]; rfl, rfl⟩
end Go.Proofs.Ytodkppeikpaclaa
