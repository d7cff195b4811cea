/- 'tithinglaw05.SpanRules' returns true at every input: the walk, the row. -/
import Derived.Test.YtodkppeikpaclaaSpnS
import Derived.Test.YtodkppeikpaclaaSpnR
import Derived.Test.YtodkppeikpaclaaSpnN
namespace Go.Proofs.Ytodkppeikpaclaa.spanRules
open Go.ChangeShapes Go.Shelf Go.WideShapes Go.ChangeAt Go.RowKit
open Spn Go.Sort
set_option linter.unusedVariables false

theorem sameB_refl (l : List Sp) : sameB l l = true := by simp [sameB]
theorem r1 (a b : List Sp) : comb orF a b = comb orF b a.reverse := comb_ext rfl rfl fun d => by rw [hasB_reverse]; exact Bool.or_comm _ _
theorem r2 (a b : List Sp) : comb andF a b = comb andF b a.reverse := comb_ext rfl rfl fun d => by rw [hasB_reverse]; exact Bool.and_comm _ _
theorem r3 (a b : List Sp) : comb orF (comb orF a b) a = comb orF a b := comb_ext rfl rfl fun d => by
  rw [hasB_comb rfl]; cases hasB a d <;> cases hasB b d <;> rfl
theorem r4 (a b : List Sp) : comb andF (comb andF a b) b = comb andF a b := comb_ext rfl rfl fun d => by
  rw [hasB_comb rfl]; cases hasB a d <;> cases hasB b d <;> rfl
theorem r5 (a b : List Sp) : comb andF (comb andF a b) (comb lessF a b) = [] := (comb_nrm _ _ _).ext (b' := 0) (m := []) trivial fun d => by
  rw [hasB_comb rfl, hasB_comb rfl, hasB_comb rfl, hasB_nil]; cases hasB a d <;> cases hasB b d <;> rfl
theorem r6 (a b : List Sp) : comb orF (comb andF a b) (comb lessF a b) = norm a := comb_ext rfl rfl fun d => by
  rw [hasB_comb rfl, hasB_comb rfl, hasB_nil]; cases hasB a d <;> cases hasB b d <;> rfl
theorem r7 (a b : List Sp) : comb lessF a b = comb lessF a.reverse b := comb_ext rfl rfl fun d => by rw [hasB_reverse]
set_option maxHeartbeats 4000000 in
set_option maxRecDepth 100000 in
theorem walk (x y : Value) (w : World) (ha : ArgP w x) (hb0 : ArgP w y) : Calls Try.prog 7 #[x, y] w fun e w' => e = .returned (.bool true) ∧ Below w.heap.size w w' := by
  obtain ⟨i0, hi, hz0, hz1, hz2⟩ := info_parts infoSpan
  have HA := Lib.hid ha; have HC := Lib.hid hb0
  clear ha hb0
  have HB := Lib.hid (Below.refl w.heap.size w)
  go_enter Try.func7, Try.ntmps7
  go_wp2_with fail
  refine (sanity_any _).mono ?_
  rintro e w1 ⟨rfl, hb⟩
  have HB := Lib.hid (HB.out.trans (hb.mono HB.out.size))
  have HA := Lib.hid (HA.out.up hb)
  have HC := Lib.hid (HC.out.up hb)
  clear hb
  go_wp2_with fail
  refine (Made_any _ _ HA.out).mono ?_
  rintro e w2 ⟨va, la, rfl, hl, hna8, hm, hb⟩
  have HB := Lib.hid (HB.out.trans (hb.mono HB.out.size))
  have HA := Lib.hid (HA.out.up hb)
  have HC := Lib.hid (HC.out.up hb)
  have HX := Lib.hid hl; have HMA := Lib.hid hm
  have hna : la.length ≤ 10000 := by omega
  clear hl hm
  clear hb
  go_wp2_with fail
  refine (Made_any _ _ HC.out).mono ?_
  rintro e w3 ⟨vb, lb, rfl, hl, hnb8, hm, hb⟩
  have HB := Lib.hid (HB.out.trans (hb.mono HB.out.size))
  have HC := Lib.hid (HC.out.up hb)
  have HX := Lib.hid (HX.out.up hb)
  have HY := Lib.hid hl; have HMB := Lib.hid hm
  have hnb : lb.length ≤ 10000 := by omega
  clear hl hm
  clear hb
  obtain ⟨pa, ca, hva, -, hcl⟩ := HX.out.open
  obtain rfl := hva
  have HCL := Lib.hid hcl
  clear hcl HA HC
  have hla : (la.length : Int) ≤ 8 := by omega
  go_wp2_with fail
  go_loopw [8, 9] (fun vo i wr => ∃ (k : Nat) (m : Int), k ≤ la.length ∧ m = (k : Int) - 1 ∧ i = .int .i64 m ∧ Hid (wr.ownsRow w3.heap.size 33 2 vo (la.drop k).reverse.length (cells2 (la.drop k).reverse)) ∧ Hid (Below w3.heap.size w3 wr)) (fun _ i _ => (intOf i + 1).toNat)
  case atStart => exact ⟨la.length, (la.length : Int) - 1, by omega, rfl, by go_num, Lib.hid (by rw [List.drop_length]; exact World.ownsRow_nil _ _ _ _), Lib.hid (Below.refl _ _)⟩
  case round =>
    obtain ⟨k, m, hk, hm, rfl, HO, HBW⟩ := hrel
    rcases k with _ | j
    · have hneg : m < 0 := by omega
      have HR := Lib.hid (own_lst HO.out (by simp; omega))
      rw [List.drop_zero] at HR
      clear HO
      obtain ⟨bk, hbk⟩ : ∃ bk, la.reverse = bk := ⟨_, rfl⟩
      rw [hbk] at HR
      have hb := HBW.out
      have HB := Lib.hid (HB.out.trans (hb.mono HB.out.size))
      have HX := Lib.hid (HX.out.up hb)
      have HY := Lib.hid (HY.out.up hb)
      clear hb
      obtain ⟨pr, cr, hvr, -, -⟩ := HR.out.open
      obtain rfl := hvr
      have hnr : bk.length ≤ 10000 := by rw [← hbk]; simp; omega
      have l5 := comb_len orF la lb; have l6 := comb_len andF la lb; have l7 := comb_len lessF la lb
      have E1 := Lib.hid (r1 la lb); have E2 := Lib.hid (r2 la lb); have E3 := Lib.hid (r3 la lb); have E4 := Lib.hid (r4 la lb); have E5 := Lib.hid (r5 la lb); have E6 := Lib.hid (r6 la lb); have E7 := Lib.hid (r7 la lb)
      obtain ⟨lU, hLU⟩ : ∃ l, comb orF la lb = l := ⟨_, rfl⟩
      have HLU := Lib.hid hLU
      obtain ⟨lM, hLM⟩ : ∃ l, comb andF la lb = l := ⟨_, rfl⟩
      have HLM := Lib.hid hLM
      obtain ⟨lR, hLR⟩ : ∃ l, comb lessF la lb = l := ⟨_, rfl⟩
      have HLR := Lib.hid hLR
      simp only [hLU, hLM, hLR, hbk] at E1 E2 E3 E4 E5 E6 E7 l5 l6 l7
      clear hLU hLM hLR hbk
      have b5 : lU.length ≤ 10000 := by omega
      have b6 : lM.length ≤ 10000 := by omega
      have b7 : lR.length ≤ 10000 := by omega
      clear l5 l6 l7
      go_wp2_with fail
      refine (Union_any _ _ la lb _ hna hnb HX.out HY.out).mono ?_
      rintro e w11 ⟨vKU, rfl, hl, hb⟩
      have HB := Lib.hid (HB.out.trans (hb.mono HB.out.size))
      have HX := Lib.hid (HX.out.up hb)
      have HY := Lib.hid (HY.out.up hb)
      have HR := Lib.hid (HR.out.up hb)
      rw [HLU.out] at hl
      obtain ⟨pKU, cKU, rfl, -, -⟩ := hl.open
      have KU := Lib.hid hl
      clear hl
      clear hb
      go_wp2_with fail
      refine (Meet_any _ _ la lb _ hna hnb HX.out HY.out).mono ?_
      rintro e w12 ⟨vKM, rfl, hl, hb⟩
      have HB := Lib.hid (HB.out.trans (hb.mono HB.out.size))
      have HX := Lib.hid (HX.out.up hb)
      have HY := Lib.hid (HY.out.up hb)
      have HR := Lib.hid (HR.out.up hb)
      have KU := Lib.hid (KU.out.up hb)
      rw [HLM.out] at hl
      obtain ⟨pKM, cKM, rfl, -, -⟩ := hl.open
      have KM := Lib.hid hl
      clear hl
      clear hb
      go_wp2_with fail
      refine (Less_any _ _ la lb _ hna hnb HX.out HY.out).mono ?_
      rintro e w13 ⟨vKR, rfl, hl, hb⟩
      have HB := Lib.hid (HB.out.trans (hb.mono HB.out.size))
      have HX := Lib.hid (HX.out.up hb)
      have HY := Lib.hid (HY.out.up hb)
      have HR := Lib.hid (HR.out.up hb)
      have KU := Lib.hid (KU.out.up hb)
      have KM := Lib.hid (KM.out.up hb)
      rw [HLR.out] at hl
      obtain ⟨pKR, cKR, rfl, -, -⟩ := hl.open
      have KR := Lib.hid hl
      clear hl
      clear hb
      go_wp2_with fail
      refine (Union_any _ _ lb bk _ hnb hnr HY.out HR.out).mono ?_
      rintro e w14 ⟨vT1, rfl, hl, hb⟩
      have HB := Lib.hid (HB.out.trans (hb.mono HB.out.size))
      have HX := Lib.hid (HX.out.up hb)
      have HY := Lib.hid (HY.out.up hb)
      have HR := Lib.hid (HR.out.up hb)
      have KU := Lib.hid (KU.out.up hb)
      have KM := Lib.hid (KM.out.up hb)
      have KR := Lib.hid (KR.out.up hb)
      rw [← E1.out] at hl
      obtain ⟨pT1, cT1, rfl, -, -⟩ := hl.open
      have T1 := Lib.hid hl
      clear hl
      clear hb
      go_wp2_with fail
      refine (Same_any _ _ _ _ _ KU.out T1.out).mono ?_
      rintro e w15 ⟨rfl, hb⟩
      have HB := Lib.hid (HB.out.trans (hb.mono HB.out.size))
      have HX := Lib.hid (HX.out.up hb)
      have HY := Lib.hid (HY.out.up hb)
      have HR := Lib.hid (HR.out.up hb)
      have KU := Lib.hid (KU.out.up hb)
      have KM := Lib.hid (KM.out.up hb)
      have KR := Lib.hid (KR.out.up hb)
      have T1 := Lib.hid (T1.out.up hb)
      rw [sameB_refl]
      clear hb
      clear T1
      go_wp2_with fail
      refine (Meet_any _ _ lb bk _ hnb hnr HY.out HR.out).mono ?_
      rintro e w16 ⟨vT1, rfl, hl, hb⟩
      have HB := Lib.hid (HB.out.trans (hb.mono HB.out.size))
      have HX := Lib.hid (HX.out.up hb)
      have HY := Lib.hid (HY.out.up hb)
      have HR := Lib.hid (HR.out.up hb)
      have KU := Lib.hid (KU.out.up hb)
      have KM := Lib.hid (KM.out.up hb)
      have KR := Lib.hid (KR.out.up hb)
      rw [← E2.out] at hl
      obtain ⟨pT1, cT1, rfl, -, -⟩ := hl.open
      have T1 := Lib.hid hl
      clear hl
      clear hb
      go_wp2_with fail
      refine (Same_any _ _ _ _ _ KM.out T1.out).mono ?_
      rintro e w17 ⟨rfl, hb⟩
      have HB := Lib.hid (HB.out.trans (hb.mono HB.out.size))
      have HX := Lib.hid (HX.out.up hb)
      have HY := Lib.hid (HY.out.up hb)
      have HR := Lib.hid (HR.out.up hb)
      have KU := Lib.hid (KU.out.up hb)
      have KM := Lib.hid (KM.out.up hb)
      have KR := Lib.hid (KR.out.up hb)
      have T1 := Lib.hid (T1.out.up hb)
      rw [sameB_refl]
      clear hb
      clear T1
      go_wp2_with fail
      refine (Union_any _ _ lU la _ b5 hna KU.out HX.out).mono ?_
      rintro e w18 ⟨vT1, rfl, hl, hb⟩
      have HB := Lib.hid (HB.out.trans (hb.mono HB.out.size))
      have HX := Lib.hid (HX.out.up hb)
      have HY := Lib.hid (HY.out.up hb)
      have HR := Lib.hid (HR.out.up hb)
      have KU := Lib.hid (KU.out.up hb)
      have KM := Lib.hid (KM.out.up hb)
      have KR := Lib.hid (KR.out.up hb)
      rw [E3.out] at hl
      obtain ⟨pT1, cT1, rfl, -, -⟩ := hl.open
      have T1 := Lib.hid hl
      clear hl
      clear hb
      go_wp2_with fail
      refine (Same_any _ _ _ _ _ T1.out KU.out).mono ?_
      rintro e w19 ⟨rfl, hb⟩
      have HB := Lib.hid (HB.out.trans (hb.mono HB.out.size))
      have HX := Lib.hid (HX.out.up hb)
      have HY := Lib.hid (HY.out.up hb)
      have HR := Lib.hid (HR.out.up hb)
      have KU := Lib.hid (KU.out.up hb)
      have KM := Lib.hid (KM.out.up hb)
      have KR := Lib.hid (KR.out.up hb)
      have T1 := Lib.hid (T1.out.up hb)
      rw [sameB_refl]
      clear hb
      clear T1
      go_wp2_with fail
      refine (Meet_any _ _ lM lb _ b6 hnb KM.out HY.out).mono ?_
      rintro e w20 ⟨vT1, rfl, hl, hb⟩
      have HB := Lib.hid (HB.out.trans (hb.mono HB.out.size))
      have HX := Lib.hid (HX.out.up hb)
      have HY := Lib.hid (HY.out.up hb)
      have HR := Lib.hid (HR.out.up hb)
      have KU := Lib.hid (KU.out.up hb)
      have KM := Lib.hid (KM.out.up hb)
      have KR := Lib.hid (KR.out.up hb)
      rw [E4.out] at hl
      obtain ⟨pT1, cT1, rfl, -, -⟩ := hl.open
      have T1 := Lib.hid hl
      clear hl
      clear hb
      go_wp2_with fail
      refine (Same_any _ _ _ _ _ T1.out KM.out).mono ?_
      rintro e w21 ⟨rfl, hb⟩
      have HB := Lib.hid (HB.out.trans (hb.mono HB.out.size))
      have HX := Lib.hid (HX.out.up hb)
      have HY := Lib.hid (HY.out.up hb)
      have HR := Lib.hid (HR.out.up hb)
      have KU := Lib.hid (KU.out.up hb)
      have KM := Lib.hid (KM.out.up hb)
      have KR := Lib.hid (KR.out.up hb)
      have T1 := Lib.hid (T1.out.up hb)
      rw [sameB_refl]
      clear hb
      clear T1
      go_wp2_with fail
      refine (Meet_any _ _ lM lR _ b6 b7 KM.out KR.out).mono ?_
      rintro e w22 ⟨vT1, rfl, hl, hb⟩
      have HB := Lib.hid (HB.out.trans (hb.mono HB.out.size))
      have HX := Lib.hid (HX.out.up hb)
      have HY := Lib.hid (HY.out.up hb)
      have HR := Lib.hid (HR.out.up hb)
      have KU := Lib.hid (KU.out.up hb)
      have KM := Lib.hid (KM.out.up hb)
      have KR := Lib.hid (KR.out.up hb)
      rw [E5.out] at hl
      obtain ⟨pT1, cT1, rfl, -, -⟩ := hl.open
      have T1 := Lib.hid hl
      clear hl
      clear hb
      go_wp2_with fail
      refine (Union_any _ _ lM lR _ b6 b7 KM.out KR.out).mono ?_
      rintro e w23 ⟨vT1, rfl, hl, hb⟩
      have HB := Lib.hid (HB.out.trans (hb.mono HB.out.size))
      have HX := Lib.hid (HX.out.up hb)
      have HY := Lib.hid (HY.out.up hb)
      have HR := Lib.hid (HR.out.up hb)
      have KU := Lib.hid (KU.out.up hb)
      have KM := Lib.hid (KM.out.up hb)
      have KR := Lib.hid (KR.out.up hb)
      rw [E6.out] at hl
      obtain ⟨pT1, cT1, rfl, -, -⟩ := hl.open
      have T1 := Lib.hid hl
      clear hl
      clear hb
      go_wp2_with fail
      refine (Norm_any _ la _ hna HX.out).mono ?_
      rintro e w24 ⟨v2, rfl, hl, hb⟩
      have HB := Lib.hid (HB.out.trans (hb.mono HB.out.size))
      have HX := Lib.hid (HX.out.up hb)
      have HY := Lib.hid (HY.out.up hb)
      have HR := Lib.hid (HR.out.up hb)
      have KU := Lib.hid (KU.out.up hb)
      have KM := Lib.hid (KM.out.up hb)
      have KR := Lib.hid (KR.out.up hb)
      have T1 := Lib.hid (T1.out.up hb)
      obtain ⟨p2, c2, rfl, -, -⟩ := hl.open
      have T2 := Lib.hid hl
      clear hl
      clear hb
      go_wp2_with fail
      refine (Same_any _ _ _ _ _ T1.out T2.out).mono ?_
      rintro e w25 ⟨rfl, hb⟩
      have HB := Lib.hid (HB.out.trans (hb.mono HB.out.size))
      have HX := Lib.hid (HX.out.up hb)
      have HY := Lib.hid (HY.out.up hb)
      have HR := Lib.hid (HR.out.up hb)
      have KU := Lib.hid (KU.out.up hb)
      have KM := Lib.hid (KM.out.up hb)
      have KR := Lib.hid (KR.out.up hb)
      have T1 := Lib.hid (T1.out.up hb)
      have T2 := Lib.hid (T2.out.up hb)
      rw [sameB_refl]
      clear hb
      clear T1 T2
      go_wp2_with fail
      refine (Less_any _ _ bk lb _ hnr hnb HR.out HY.out).mono ?_
      rintro e w26 ⟨vT1, rfl, hl, hb⟩
      have HB := Lib.hid (HB.out.trans (hb.mono HB.out.size))
      have HX := Lib.hid (HX.out.up hb)
      have HY := Lib.hid (HY.out.up hb)
      have HR := Lib.hid (HR.out.up hb)
      have KU := Lib.hid (KU.out.up hb)
      have KM := Lib.hid (KM.out.up hb)
      have KR := Lib.hid (KR.out.up hb)
      rw [← E7.out] at hl
      obtain ⟨pT1, cT1, rfl, -, -⟩ := hl.open
      have T1 := Lib.hid hl
      clear hl
      clear hb
      go_wp2_with fail
      refine (Same_any _ _ _ _ _ KR.out T1.out).mono ?_
      rintro e w27 ⟨rfl, hb⟩
      have HB := Lib.hid (HB.out.trans (hb.mono HB.out.size))
      have HX := Lib.hid (HX.out.up hb)
      have HY := Lib.hid (HY.out.up hb)
      have HR := Lib.hid (HR.out.up hb)
      have KU := Lib.hid (KU.out.up hb)
      have KM := Lib.hid (KM.out.up hb)
      have KR := Lib.hid (KR.out.up hb)
      have T1 := Lib.hid (T1.out.up hb)
      rw [sameB_refl]
      clear hb
      clear T1
      go_wp2_with fail
      go_ret
      exact ⟨rfl, HB.out⟩
    · obtain rfl : m = (j : Int) := by omega
      have hlt : j < la.length := by omega
      have hlt' : (j : Int) < (la.length : Int) := by omega
      obtain ⟨g, off, rfl, hg, e1, e2⟩ := HCL.out j hlt
      obtain ⟨sf, hsf⟩ : ∃ sf, la[j].1 = sf := ⟨_, rfl⟩
      obtain ⟨st, hst⟩ : ∃ st, la[j].2 = st := ⟨_, rfl⟩
      rw [hsf] at e1; rw [hst] at e2
      have HD : Hid ((la.drop j).reverse = (la.drop (j + 1)).reverse ++ [(sf, st)]) := Lib.hid (by rw [List.drop_eq_getElem_cons hlt, List.reverse_cons, ← hsf, ← hst])
      have d1 : wr.cell? ⟨g, off + j * 2, none⟩ = some (.int .i64 sf) := by rw [cell_up HBW.out hg]; exact e1
      have d2 : wr.cell? ⟨g, off + j * 2 + 1, none⟩ = some (.int .i64 st) := by rw [cell_up HBW.out hg]; exact e2
      have hdl : (la.drop (j + 1)).reverse.length ≤ 8 := by simp; omega
      obtain ⟨ls, hls⟩ : ∃ ls, (la.drop (j + 1)).reverse = ls := ⟨_, rfl⟩
      rw [hls] at HD HO hdl
      clear e1 e2 hsf hst hls hm
      go_wp2_with (first | (at_builtin; refine wpList_append_own _ rfl _ _ 24 rfl w3.heap.size 33 i0 (.agg #[.int .i64 0, .int .i64 0]) 2 16 Try.underlying24 hi hz0 hz1 hz2 rfl (by decide) _ _ _ rfl (HO.out.alloc _) ⟨wr.heap.size, 0, none⟩ 1 1 [.int .i64 sf, .int .i64 st] rfl rfl (cell_fresh2 wr _ _ _) (by simp [Value.oneCell']) (by unfold maxLen; omega) (by omega) (by have := HBW.out.size; simp; omega) ?_; intro v' w2 hown' hgrow hnn; have HO2 := Lib.hid hown'; have HG := Lib.hid hgrow; clear hown' hgrow hnn) | fail)
      go_roundw
      case rel => exact ⟨j, (j : Int) - 1, by omega, rfl, by go_num, Lib.hid (by rw [HD.out]; simpa [cells2] using HO2.out), Lib.hid (below_own HBW.out HO.out HG.out (Nat.le_refl _) (Nat.le_refl _))⟩
      case measure => simp [intOf]

/-! ### THE ROW's STEP -/
set_option maxRecDepth 100000 in
theorem lifted (os : Os) (started : os.Started) (H : Type) (enc : TypeId × Value → H) :
    ReturnsInHanded {} Try.checked os 7 .any (Rows.spanRulesSpec.pre6 enc Try.prog Try.f7 Rows.spanRulesRow.domain false) (Rows.spanRulesSpec.post enc Try.prog Try.f7 false true false false) := by
  refine returnsInHanded_of_change (C := Try.checked) own started (by kernel_rfl) Try.func7
    (ChangeSpec.witness6 (enc := enc) (C := Try.checked) false ⟨#[], #[.slice none 0 0, .slice none 0 0], []⟩ 8 (by kernel_rfl) (by kernel_rfl) (by kernel_rfl) (by kernel_rfl)) ?_
  intro W base args ds gs before hval0 hW hcnd _
  have hval : ∀ (j : Nat) t v, Try.f7.params[j]? = some t → args[j]? = some v → Value.okWide Try.prog W .any base t v := hval0
  have hW' := hW
  obtain ⟨p, q, hA0, hV, rfl, hfz, hnd⟩ := hW
  have hA : DataW.TrodAll enc Try.prog W 0 (fun _ => true) true Try.f7.params.toList args.toList ds p := hA0
  rw [Try.params7] at hA hval
  obtain ⟨v0, vs0, d0, ds0, p0, q0, hargs, rfl, rfl, h0, r0⟩ := trodAll_cons hA
  obtain ⟨v1, vs1, d1, ds1, p1, q1, rfl, rfl, rfl, h1, r1⟩ := trodAll_cons r0
  obtain ⟨rfl, rfl, rfl⟩ := trodAll_nil r1
  obtain rfl : args = #[v0, v1] := by cases args; simp_all
  obtain ⟨rfl, rfl⟩ := trodVars_none hV
  have a0 : ArgP W v0 := arg_arrays Try.underlying22 Try.underlying30 Try.underlying3 (by kernel_rfl) (by kernel_rfl) (hval 0 22 v0 rfl rfl) h0
  have lt0 : ∀ x ∈ p0, x.block < W.heap.size := fun x hx => hW'.lt x (by simp [hx])
  have a1 : ArgP W v1 := arg_arrays Try.underlying22 Try.underlying30 Try.underlying3 (by kernel_rfl) (by kernel_rfl) (hval 1 22 v1 rfl rfl) h1
  have lt1 : ∀ x ∈ p1, x.block < W.heap.size := fun x hx => hW'.lt x (by simp [hx])
  clear hA0 hval0
  simp only [List.append_nil] at hW'
  refine (walk v0 v1 W a0 a1).mono fun e W' ⟨he, hb⟩ => ?_
  subst he
  exact ⟨_, rfl, post_of_below (pv := []) hW' (fun _ _ _ => (trodAll_cons_mk (shut_bool Try.underlying4 _) trodAll_mk0)) (fun sp hsp => (trodAll_cons_mk (WideElems.Trod_stays (by kernel_rfl) (by kernel_rfl) (of_decide_eq_true (by kernel_rfl)) h0 (fun x hx => hb.same (lt0 x hx)) (fun x hx => hsp x (by simp [hx]))) (trodAll_cons_mk (WideElems.Trod_stays (by kernel_rfl) (by kernel_rfl) (of_decide_eq_true (by kernel_rfl)) h1 (fun x hx => hb.same (lt1 x hx)) (fun x hx => hsp x (by simp [hx]))) trodAll_mk0))) (fun _ _ => rfl) (by simp)
    hb (ok_one (by kernel_rfl) rfl (okWide_bool_mk Try.underlying4 _))⟩

theorem over : Rows.spanRulesRow.holds Try.pinned (OpenSpec.ofChange Rows.spanRulesSpec) :=
  OpenClaim.holds_of_wide 7 Try.f7 rfl rfl rfl rfl rfl rfl rfl ⟨rfl, rfl, rfl, rfl, rfl⟩ rfl rfl rfl rfl rfl (by kernel_rfl) Try.func7 (by kernel_rfl)
    (of_decide_eq_true (by kernel_rfl)) (by unfold Func.isWrapper; first | (rw [if_pos (by decide +kernel)]; kernel_rfl) | (rw [if_neg (by decide +kernel)]; exact ⟨rfl, rfl⟩))
    (fun os started H enc _ => lifted os started H enc)

theorem proved : Rows.SpanRulesSaid :=
  over
#print axioms proved
end Go.Proofs.Ytodkppeikpaclaa.spanRules
