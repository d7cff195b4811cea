/- 'tithinglaw05.SpanYears' returns true at every input: the walk, the row. -/
import Derived.Test.YtodkppeikpaclaaSpnS
import Derived.Test.YtodkppeikpaclaaSpnR
import Derived.Test.YtodkppeikpaclaaSpnN
import Derived.Test.YtodkppeikpaclaaRgn
import Derived.IntWalk
import Derived.Test.YtodkppeikpaclaaSpnZ
namespace Go.Proofs.Ytodkppeikpaclaa.spanYears
open Go.ChangeShapes Go.Shelf Go.WideShapes Go.ChangeAt Go.RowKit
open Spn Go.Sort
set_option linter.unusedVariables false

def EY0 (bs be j : Nat) (p x sf st : Int) : Nat → Value
  | 0 => .int .i64 p
  | 1 => .int .i64 p
  | 2 => .bool false
  | 3 => .bool false
  | 4 => .bool false
  | 5 => .bool false
  | 6 => .bool false
  | 7 => .bool false
  | 8 => .bool false
  | 9 => .bool false
  | 10 => .bool false
  | 11 => undef
  | 12 => undef
  | 13 => undef
  | 14 => undef
  | 15 => undef
  | 16 => undef
  | 17 => undef
  | 18 => .bool false
  | 19 => .bool false
  | _ => undef
def SY0 (bs be j : Nat) (p x sf st : Int) (ix : Nat) (v : Value) (w : World) : Prop :=
  match ix with
  | ix => v = EY0 bs be j p x sf st ix
theorem SY0_up (bs be j : Nat) (p x sf st : Int) (ix : Nat) (v : Value) (w w' : World) (hb : Below w.heap.size w w') (h : SY0 bs be j p x sf st ix v w) : SY0 bs be j p x sf st ix v w' := by
  exact h
def EY1 (bs be j : Nat) (p x sf st : Int) : Nat → Value
  | 0 => .int .i64 p
  | 1 => .int .i64 p
  | 2 => .bool false
  | 3 => .bool false
  | 4 => .bool true
  | 5 => .bool true
  | 6 => .bool false
  | 7 => .bool false
  | 8 => .bool false
  | 9 => .bool true
  | 10 => .bool true
  | 11 => .agg #[.int .i64 sf, .int .i64 st]
  | 13 => .int .i64 (j : Int)
  | 14 => .pointer (some ⟨be, j, none⟩)
  | 15 => .int .i64 x
  | 16 => .bool true
  | 17 => .bool false
  | 18 => .bool false
  | 19 => .bool false
  | _ => undef
def SY1 (bs be j : Nat) (p x sf st : Int) (ix : Nat) (v : Value) (w : World) : Prop :=
  match ix with
  | 12 => Lst w v [(sf, st)]
  | ix => v = EY1 bs be j p x sf st ix
theorem SY1_up (bs be j : Nat) (p x sf st : Int) (ix : Nat) (v : Value) (w w' : World) (hb : Below w.heap.size w w') (h : SY1 bs be j p x sf st ix v w) : SY1 bs be j p x sf st ix v w' := by
  unfold SY1 at h ⊢
  split at h
  · exact h.up hb
  · exact h
set_option maxHeartbeats 16000000 in
set_option maxRecDepth 100000 in
theorem walk (f dy : Int) (w : World) (hf : inI f) (hd : inI dy) : Calls Try.prog 11 #[.int .i64 f, .int .i64 dy] w fun e w' => e = .returned (.bool true) ∧ Below w.heap.size w w' := by
  have p0 := hf.1; have p1 := hf.2; have d0 := hd.1; have d1 := hd.2
  have HB := Lib.hid (Below.refl w.heap.size w)
  go_enter Try.func11, Try.ntmps11
  go_wp2_with fail
  refine (sanity_any _).mono ?_
  rintro e w1 ⟨rfl, hb⟩
  have HB := Lib.hid (HB.out.trans (hb.mono HB.out.size))
  clear hb
  go_wp2_with fail
  obtain ⟨q1, hq1⟩ : ∃ y, f % 21 = y := ⟨_, rfl⟩
  obtain ⟨q2, hq2⟩ : ∃ y, dy % 8000 = y := ⟨_, rfl⟩
  have g0 : 0 ≤ q1 := by omega
  have g1 : q1 < 21 := by omega
  have g2 : 0 ≤ q2 := by omega
  have g3 : q2 < 8000 := by omega
  have H1 := Lib.hid hq1; have H2 := Lib.hid hq2
  clear hq1 hq2 hf hd
  refine (rMod_any f 21 (by decide) (by decide) p0 p1 _).mono ?_
  rintro e w9 ⟨rfl, rfl⟩
  rw [H1.out]
  have HB := Lib.hid (HB.out.alloc HB.out.size (.cells #[.int .i64 f, .int .i64 q1] 30))
  have Kbd := Lib.hid (heap_alloc_new w1 (.cells #[.int .i64 f, .int .i64 q1] 30))
  have hltbd : w1.heap.size < (w1.alloc (.cells #[.int .i64 f, .int .i64 q1] 30)).heap.size := by simp
  go_wp2_with fail
  obtain ⟨V, hV⟩ : ∃ V, w1.alloc (.cells #[.int .i64 f, .int .i64 q1] 30) = V := ⟨_, rfl⟩
  rw [hV] at HB Kbd hltbd ⊢
  obtain ⟨bd, hbd⟩ : ∃ b, w1.heap.size = b := ⟨_, rfl⟩
  rw [hbd] at Kbd hltbd ⊢
  clear hV hbd
  go_loopw [7] (fun i wr => ∃ k : Nat, k ≤ 2 ∧ i = .int .i64 (k : Int) ∧ Hid (Below V.heap.size V wr)) (fun i _ => 2 - (intOf i).toNat)
  case atStart => exact ⟨0, by omega, rfl, Lib.hid (Below.refl _ _)⟩
  case round =>
    obtain ⟨k, hk, rfl, HBW⟩ := hrel
    by_cases hlt : k < 2
    · have hlt' : (k : Int) < 2 := by omega
      have hcx : ∃ x : Int, V.cell? ⟨bd, k, none⟩ = some (.int .i64 x) ∧ -9223372036854775808 ≤ x ∧ x ≤ 9223372036854775807 := by
        rw [Lib.cell_of_heap Kbd.out]
        rcases (by omega : k = 0 ∨ k = 1) with rfl | rfl
        · exact ⟨_, rfl, p0, p1⟩
        · exact ⟨_, rfl, by omega, by omega⟩
      obtain ⟨x, hx, x0, x1⟩ := hcx
      have HCX := Lib.hid hx
      have c1 : wr.cell? ⟨bd, k, none⟩ = some (.int .i64 x) := by rw [cell_up HBW.out hltbd]; exact hx
      obtain ⟨sf, hsf⟩ : ∃ sf, (yS x).1 = sf := ⟨_, rfl⟩
      obtain ⟨st, hst⟩ : ∃ st, (yS x).2 = st := ⟨_, rfl⟩
      obtain ⟨ok, hok⟩ : ∃ o, yOk x = o := ⟨_, rfl⟩
      have HSF := Lib.hid hsf; have HST := Lib.hid hst; have HOK := Lib.hid hok
      clear hx hsf hst hok
      go_wp2_with fail
      refine (Year_any x x0 x1 _).mono ?_
      rintro e v1 ⟨rfl, hb⟩
      rw [HSF.out, HST.out, HOK.out]
      have HBW := Lib.hid (HBW.out.trans (hb.mono HBW.out.size))
      replace c1 : v1.cell? ⟨bd, k, none⟩ = some (.int .i64 x) := by rw [cell_up HBW.out hltbd]; exact HCX.out
      clear hb
      have hbx2 : bd < v1.heap.size := Nat.lt_of_lt_of_le hltbd HBW.out.size
      have HBW := Lib.hid (HBW.out.alloc HBW.out.size (.cells #[.int .i64 sf, .int .i64 st] 33))
      have KS := Lib.hid (heap_alloc_new v1 (.cells #[.int .i64 sf, .int .i64 st] 33))
      go_wp2_with fail
      obtain ⟨v2, hV⟩ : ∃ V, v1.alloc (.cells #[.int .i64 sf, .int .i64 st] 33) = V := ⟨_, rfl⟩
      rw [hV] at HBW KS ⊢
      obtain ⟨bs, hbd⟩ : ∃ b, v1.heap.size = b := ⟨_, rfl⟩
      rw [hbd] at KS ⊢
      clear hV hbd
      replace c1 : v2.cell? ⟨bd, k, none⟩ = some (.int .i64 x) := by rw [cell_up HBW.out hltbd]; exact HCX.out
      refine (rYear_any x x0 x1 _).mono ?_
      rintro e v3 ⟨rfl, hb⟩
      rw [HSF.out, HST.out, HOK.out]
      have HBW := Lib.hid (HBW.out.trans (hb.mono HBW.out.size))
      have KS := Lib.hid (heap_up hb KS.out)
      replace c1 : v3.cell? ⟨bd, k, none⟩ = some (.int .i64 x) := by rw [cell_up HBW.out hltbd]; exact HCX.out
      clear hb
      have hbx4 : bd < v3.heap.size := Nat.lt_of_lt_of_le hltbd HBW.out.size
      have HBW := Lib.hid (HBW.out.alloc HBW.out.size (.cells #[.int .i64 sf, .int .i64 st] 33))
      have s0 : v3.cell? ⟨bs, 0, none⟩ = some (.int .i64 sf) := by rw [Lib.cell_of_heap KS.out]; rfl
      have s1 : v3.cell? ⟨bs, 1, none⟩ = some (.int .i64 st) := by rw [Lib.cell_of_heap KS.out]; rfl
      have hbs : bs < v3.heap.size := (Array.getElem?_eq_some_iff.1 KS.out).1
      have KS := Lib.hid (heap_up ((Below.refl _ v3).alloc (Nat.le_refl _) (.cells #[.int .i64 sf, .int .i64 st] 33)) KS.out)
      have KT := Lib.hid (heap_alloc_new v3 (.cells #[.int .i64 sf, .int .i64 st] 33))
      by_cases hx0 : x < 0
      · obtain ⟨e1, e2⟩ := yS_no (p := x) (.inl hx0)
        rw [HOK.out] at e1
        subst e1
        clear e2
        go_wp2_with fail
        go_roundw
        case rel => exact ⟨k + 1, by omega, by go_num, HBW⟩
        case measure => simp [intOf]; omega
      by_cases hx1 : 20 ≤ x
      · obtain ⟨e1, e2⟩ := yS_no (p := x) (.inr hx1)
        rw [HOK.out] at e1
        subst e1
        clear e2
        go_wp2_with fail
        go_roundw
        case rel => exact ⟨k + 1, by omega, by go_num, HBW⟩
        case measure => simp [intOf]; omega
      have hx2 : 0 ≤ x := by omega
      have hx3 : x < 20 := by omega
      obtain ⟨e1, -⟩ := yS_ok (p := x) hx2 hx3
      rw [HOK.out] at e1
      subst e1
      obtain ⟨a1, a2, a3, a4, a5, a6, a7, a8, a9, a10, a11, a12⟩ := year_parts hx2 hx3
      simp only [HSF.out, HST.out] at a1 a2 a3 a4 a5 a6 a7 a8 a9 a10 a11 a12
      have t0 : 0 ≤ st := by omega
      have t1 : st ≤ 5000000 := by omega
      obtain ⟨nf, hnf⟩ : ∃ y, (yS (x + 1)).1 = y := ⟨_, rfl⟩
      obtain ⟨nt, hnt⟩ : ∃ y, (yS (x + 1)).2 = y := ⟨_, rfl⟩
      obtain ⟨mo, hmo⟩ : ∃ y, yOk (x + 1) = y := ⟨_, rfl⟩
      have hmore : mo = true → nf = st := fun h => by
        rw [h] at hmo
        simp only [yOk, decide_eq_true_eq] at hmo
        rw [← hnf]; exact a10 (by omega)
      have HNF := Lib.hid hnf; have HNT := Lib.hid hnt; have HMO := Lib.hid hmo; have HMR := Lib.hid hmore
      have A1 := Lib.hid a1; have A2 := Lib.hid a2; have A3 := Lib.hid a3; have A4 := Lib.hid a4; have A5 := Lib.hid a5; have A6 := Lib.hid a6; have A7 := Lib.hid a7; have A8 := Lib.hid a8; have A9 := Lib.hid a9
      clear hnf hnt hmo hmore a1 a2 a3 a4 a5 a6 a7 a8 a9 a10
      go_wp2_with fail
      obtain ⟨v4, hV⟩ : ∃ V, v3.alloc (.cells #[.int .i64 sf, .int .i64 st] 33) = V := ⟨_, rfl⟩
      rw [hV] at HBW KS KT ⊢
      obtain ⟨bt, hbd⟩ : ∃ b, v3.heap.size = b := ⟨_, rfl⟩
      rw [hbd] at KT ⊢
      clear hV hbd
      replace c1 : v4.cell? ⟨bd, k, none⟩ = some (.int .i64 x) := by rw [cell_up HBW.out hltbd]; exact HCX.out
      clear s0 s1
      refine (Civil_any sf _).mono ?_
      rintro e v5 ⟨rfl, hb⟩
      unfold CivV
      rw [A1.out, A2.out, A3.out, A4.out]
      have HBW := Lib.hid (HBW.out.trans (hb.mono HBW.out.size))
      have KS := Lib.hid (heap_up hb KS.out)
      have KT := Lib.hid (heap_up hb KT.out)
      replace c1 : v5.cell? ⟨bd, k, none⟩ = some (.int .i64 x) := by rw [cell_up HBW.out hltbd]; exact HCX.out
      clear hb
      have s0 : v5.cell? ⟨bs, 0, none⟩ = some (.int .i64 sf) := by rw [Lib.cell_of_heap KS.out]; rfl
      have s1 : v5.cell? ⟨bs, 1, none⟩ = some (.int .i64 st) := by rw [Lib.cell_of_heap KS.out]; rfl
      go_wp2_with fail
      clear s0 s1
      refine (Period_any sf _).mono ?_
      rintro e v6 ⟨rfl, hb⟩
      rw [A5.out, A6.out]
      have HBW := Lib.hid (HBW.out.trans (hb.mono HBW.out.size))
      have KS := Lib.hid (heap_up hb KS.out)
      have KT := Lib.hid (heap_up hb KT.out)
      replace c1 : v6.cell? ⟨bd, k, none⟩ = some (.int .i64 x) := by rw [cell_up HBW.out hltbd]; exact HCX.out
      clear hb
      have s0 : v6.cell? ⟨bs, 0, none⟩ = some (.int .i64 sf) := by rw [Lib.cell_of_heap KS.out]; rfl
      have s1 : v6.cell? ⟨bs, 1, none⟩ = some (.int .i64 st) := by rw [Lib.cell_of_heap KS.out]; rfl
      go_wp2_with fail
      clear s0 s1
      refine (Period_any (st - 1) _).mono ?_
      rintro e v7 ⟨rfl, hb⟩
      rw [A7.out, A8.out]
      have HBW := Lib.hid (HBW.out.trans (hb.mono HBW.out.size))
      have KS := Lib.hid (heap_up hb KS.out)
      have KT := Lib.hid (heap_up hb KT.out)
      replace c1 : v7.cell? ⟨bd, k, none⟩ = some (.int .i64 x) := by rw [cell_up HBW.out hltbd]; exact HCX.out
      clear hb
      have s0 : v7.cell? ⟨bs, 0, none⟩ = some (.int .i64 sf) := by rw [Lib.cell_of_heap KS.out]; rfl
      have s1 : v7.cell? ⟨bs, 1, none⟩ = some (.int .i64 st) := by rw [Lib.cell_of_heap KS.out]; rfl
      go_wp2_with fail
      clear s0 s1
      refine (Year_any (x + 1) (by omega) (by omega) _).mono ?_
      rintro e v8 ⟨rfl, hb⟩
      rw [HNF.out, HNT.out, HMO.out]
      have HBW := Lib.hid (HBW.out.trans (hb.mono HBW.out.size))
      have KS := Lib.hid (heap_up hb KS.out)
      have KT := Lib.hid (heap_up hb KT.out)
      replace c1 : v8.cell? ⟨bd, k, none⟩ = some (.int .i64 x) := by rw [cell_up HBW.out hltbd]; exact HCX.out
      clear hb
      have s0 : v8.cell? ⟨bs, 0, none⟩ = some (.int .i64 sf) := by rw [Lib.cell_of_heap KS.out]; rfl
      have s1 : v8.cell? ⟨bs, 1, none⟩ = some (.int .i64 st) := by rw [Lib.cell_of_heap KS.out]; rfl
      have hbs : bs < v8.heap.size := (Array.getElem?_eq_some_iff.1 KS.out).1
      have hbx9 : bd < v8.heap.size := Nat.lt_of_lt_of_le hltbd HBW.out.size
      have HBW := Lib.hid (HBW.out.alloc HBW.out.size (.cells #[.int .i64 nf, .int .i64 nt] 33))
      have KS := Lib.hid (heap_up ((Below.refl _ v8).alloc (Nat.le_refl _) (.cells #[.int .i64 nf, .int .i64 nt] 33)) KS.out)
      have KT := Lib.hid (heap_up ((Below.refl _ v8).alloc (Nat.le_refl _) (.cells #[.int .i64 nf, .int .i64 nt] 33)) KT.out)
      have KN := Lib.hid (heap_alloc_new v8 (.cells #[.int .i64 nf, .int .i64 nt] 33))
      have hlen := A9.out
      cases mo
      · rcases hlen with hlen | hlen
        · have HL : Hid (st = sf + 365) := Lib.hid hlen
          subst hlen
          go_wp2_with fail
          go_roundw
          case rel => exact ⟨k + 1, by omega, by go_num, HBW⟩
          case measure => simp [intOf]; omega
        · have HL : Hid (st = sf + 366) := Lib.hid hlen
          subst hlen
          have hz : ((sf + 366 - sf : Int) != 366) = false := by rw [bne_eq_false_iff_eq]; omega
          go_wp2_with fail
          go_roundw
          case rel => exact ⟨k + 1, by omega, by go_num, HBW⟩
          case measure => simp [intOf]; omega
      · obtain rfl := HMR.out rfl
        have HBWb := HBW
        rcases hlen with hlen | hlen
        · have HL : Hid (nf = sf + 365) := Lib.hid hlen
          subst hlen
          go_wp2_with fail
          go_roundw
          case rel => exact ⟨k + 1, by omega, by go_num, HBW⟩
          case measure => simp [intOf]; omega
        · have HL : Hid (nf = sf + 366) := Lib.hid hlen
          subst hlen
          have hz : ((sf + 366 - sf : Int) != 366) = false := by rw [bne_eq_false_iff_eq]; omega
          go_wp2_with fail
          go_roundw
          case rel => exact ⟨k + 1, by omega, by go_num, HBW⟩
          case measure => simp [intOf]; omega
    · have hge : (2 : Int) ≤ (k : Int) := by omega
      have HB := Lib.hid (HB.out.trans (HBW.out.mono HB.out.size))
      clear HBW Kbd hltbd
      go_wp2_with fail
      refine (rMod_any dy 8000 (by decide) (by decide) d0 d1 _).mono ?_
      rintro e w9 ⟨rfl, rfl⟩
      rw [H2.out]
      have HB := Lib.hid (HB.out.alloc HB.out.size (.cells #[.int .i64 dy, .int .i64 (730000 + q2)] 30))
      have Kbe := Lib.hid (heap_alloc_new wr (.cells #[.int .i64 dy, .int .i64 (730000 + q2)] 30))
      have hltbe : wr.heap.size < (wr.alloc (.cells #[.int .i64 dy, .int .i64 (730000 + q2)] 30)).heap.size := by simp
      go_wp2_with fail
      obtain ⟨U, hV⟩ : ∃ V, wr.alloc (.cells #[.int .i64 dy, .int .i64 (730000 + q2)] 30) = V := ⟨_, rfl⟩
      rw [hV] at HB Kbe hltbe ⊢
      obtain ⟨be, hbd⟩ : ∃ b, wr.heap.size = b := ⟨_, rfl⟩
      rw [hbd] at Kbe hltbe ⊢
      clear hV hbd
      go_loopw [24] (fun i wr => ∃ k : Nat, k ≤ 2 ∧ i = .int .i64 (k : Int) ∧ Hid (Below U.heap.size U wr)) (fun i _ => 2 - (intOf i).toNat)
      case atStart => exact ⟨0, by omega, rfl, Lib.hid (Below.refl _ _)⟩
      case round =>
        clear hk hge
        obtain ⟨j, hj, rfl, HBW⟩ := hrel
        by_cases hlt : j < 2
        · have hlt' : (j : Int) < 2 := by omega
          have hcx : ∃ x : Int, U.cell? ⟨be, j, none⟩ = some (.int .i64 x) := by
            rw [Lib.cell_of_heap Kbe.out]
            rcases (by omega : j = 0 ∨ j = 1) with rfl | rfl
            · exact ⟨_, rfl⟩
            · exact ⟨_, rfl⟩
          obtain ⟨x, hx⟩ := hcx
          have HCX := Lib.hid hx
          have hpb := per_bd x
          obtain ⟨p, hp⟩ : ∃ y, perN x = y := ⟨_, rfl⟩
          have HPN := Lib.hid hp; have HH := Lib.hid (fun h : perOk x = true => per_have h)
          rw [hp] at hpb
          obtain ⟨ok, hok⟩ : ∃ o, perOk x = o := ⟨_, rfl⟩
          obtain ⟨sf, hsf⟩ : ∃ y, (yS p).1 = y := ⟨_, rfl⟩
          obtain ⟨st, hst⟩ : ∃ y, (yS p).2 = y := ⟨_, rfl⟩
          have HF := Lib.hid hsf; have HT := Lib.hid hst; have HO := Lib.hid hok
          have HHAS : Hid (ok = true → hasB [(sf, st)] x = true) := Lib.hid (fun h => by
            obtain ⟨q, -, hq, hc⟩ := HH.out (by rw [hok, h])
            rw [hp] at hq
            subst hq
            have e : yS (q : Int) = (sf, st) := by rw [← hsf, ← hst]
            rw [e] at hc
            simp [hasB, hc])
          clear hx hp hsf hst hok HH
          have hp0 := hpb.1; have hp1 := hpb.2; clear hpb
          have c1 : wr.cell? ⟨be, j, none⟩ = some (.int .i64 x) := by rw [cell_up HBW.out hltbe]; exact HCX.out
          go_wp2_with fail
          refine (Period_any x _).mono ?_
          rintro e v10 ⟨rfl, hb⟩
          rw [HPN.out, HO.out]
          have HBW := Lib.hid (HBW.out.trans (hb.mono HBW.out.size))
          replace c1 : v10.cell? ⟨be, j, none⟩ = some (.int .i64 x) := by rw [cell_up HBW.out hltbe]; exact HCX.out
          clear hb
          go_wp2_with fail
          refine (rPeriod_any x _).mono ?_
          rintro e v11 ⟨rfl, hb⟩
          rw [HPN.out, HO.out]
          have HBW := Lib.hid (HBW.out.trans (hb.mono HBW.out.size))
          replace c1 : v11.cell? ⟨be, j, none⟩ = some (.int .i64 x) := by rw [cell_up HBW.out hltbe]; exact HCX.out
          clear hb
          go_wp2_with fail
          refine (Year_any p (by omega) (by omega) _).mono ?_
          rintro e v12 ⟨rfl, hb⟩
          rw [HF.out, HT.out]
          have HBW := Lib.hid (HBW.out.trans (hb.mono HBW.out.size))
          replace c1 : v12.cell? ⟨be, j, none⟩ = some (.int .i64 x) := by rw [cell_up HBW.out hltbe]; exact HCX.out
          clear hb
          have hbx13 : be < v12.heap.size := Nat.lt_of_lt_of_le hltbe HBW.out.size
          have HBW := Lib.hid (HBW.out.alloc HBW.out.size (.cells #[.int .i64 sf, .int .i64 st] 33))
          have KS := Lib.hid (heap_alloc_new v12 (.cells #[.int .i64 sf, .int .i64 st] 33))
          go_wp2_with fail
          obtain ⟨v13, hV⟩ : ∃ V, v12.alloc (.cells #[.int .i64 sf, .int .i64 st] 33) = V := ⟨_, rfl⟩
          rw [hV] at HBW KS ⊢
          obtain ⟨bs, hbd⟩ : ∃ b, v12.heap.size = b := ⟨_, rfl⟩
          rw [hbd] at KS ⊢
          clear hV hbd
          replace c1 : v13.cell? ⟨be, j, none⟩ = some (.int .i64 x) := by rw [cell_up HBW.out hltbe]; exact HCX.out
          have HC1 := Lib.hid c1
          clear c1
          have hltB : be < v13.heap.size := Nat.lt_of_lt_of_le hltbe HBW.out.size
          cases ok
          · refine wp_region_vals (w := v13) (by kernel_rfl) (SY0 bs be j p x sf st) (fun t => (decide (198 ≤ t) && decide (t < 218))) (by kernel_rfl) (by kernel_rfl) (by kernel_rfl) (SY0_up bs be j p x sf st) ?_ ?_
            · intro i hi o listed a w hR K hK
              have ho := hR.at_
              have hi : i < 20 := hi
              have hii : i = 0 ∨ i = 1 ∨ i = 2 ∨ i = 3 ∨ i = 4 ∨ i = 5 ∨ i = 6 ∨ i = 7 ∨ i = 8 ∨ i = 9 ∨ i = 10 ∨ i = 11 ∨ i = 12 ∨ i = 13 ∨ i = 14 ∨ i = 15 ∨ i = 16 ∨ i = 17 ∨ i = 18 ∨ i = 19 := by omega
              rcases hii with rfl | rfl | rfl | rfl | rfl | rfl | rfl | rfl | rfl | rfl | rfl | rfl | rfl | rfl | rfl | rfl | rfl | rfl | rfl | rfl
              · simp at ho
                subst ho
                have b25 : a.tmps.getD 25 undef = .int .i64 p := hR.base 25 (by kernel_rfl)
                refine plain_step rfl rfl ?_
                go_simp
                exact hK _ _ (rfl) (Below.refl _ _)
              · simp at ho
                subst ho
                have b27 : a.tmps.getD 27 undef = .int .i64 p := hR.base 27 (by kernel_rfl)
                refine plain_step rfl rfl ?_
                go_simp
                exact hK _ _ (rfl) (Below.refl _ _)
              · simp at ho
                subst ho
                have e0 : a.tmps.getD 198 undef = .int .i64 p := hR.dep ⟨0, .data⟩ (by simp) rfl
                have e1 : a.tmps.getD 199 undef = .int .i64 p := hR.dep ⟨1, .data⟩ (by simp) rfl
                refine plain_step rfl rfl ?_
                go_simp
                exact hK _ _ (rfl) (Below.refl _ _)
              · simp at ho
                subst ho
                have e2 : a.tmps.getD 200 undef = .bool false := hR.dep ⟨2, .data⟩ (by simp) rfl
                refine plain_step rfl rfl ?_
                go_simp
                exact hK _ _ (rfl) (Below.refl _ _)
              · simp at ho
                subst ho
                have e3 : a.tmps.getD 201 undef = .bool false := hR.dep ⟨3, .guard⟩ (by simp) rfl
                have b26 : a.tmps.getD 26 undef = .bool false := hR.base 26 (by kernel_rfl)
                refine guard_step rfl rfl rfl (b := false) e3 ?_
                go_simp
                exact hK _ _ (rfl) (Below.refl _ _)
              · simp at ho
                subst ho
                have e3 : a.tmps.getD 201 undef = .bool false := hR.dep ⟨3, .guard⟩ (by simp) rfl
                have b28 : a.tmps.getD 28 undef = .bool false := hR.base 28 (by kernel_rfl)
                refine guard_step rfl rfl rfl (b := false) e3 ?_
                go_simp
                exact hK _ _ (rfl) (Below.refl _ _)
              · simp at ho
                subst ho
                have e4 : a.tmps.getD 202 undef = .bool false := hR.dep ⟨4, .data⟩ (by simp) rfl
                have e5 : a.tmps.getD 203 undef = .bool false := hR.dep ⟨5, .data⟩ (by simp) rfl
                have e3 : a.tmps.getD 201 undef = .bool false := hR.dep ⟨3, .guard⟩ (by simp) rfl
                refine guard_step rfl rfl rfl (b := false) e3 ?_
                go_simp
                exact hK _ _ (rfl) (Below.refl _ _)
              · simp at ho
                subst ho
                have e3 : a.tmps.getD 201 undef = .bool false := hR.dep ⟨3, .data⟩ (by simp) rfl
                have e6 : a.tmps.getD 204 undef = .bool false := hR.dep ⟨6, .data⟩ (by simp) rfl
                refine plain_step rfl rfl ?_
                go_simp
                exact hK _ _ (rfl) (Below.refl _ _)
              · simp at ho
                subst ho
                have e7 : a.tmps.getD 205 undef = .bool false := hR.dep ⟨7, .data⟩ (by simp) rfl
                refine plain_step rfl rfl ?_
                go_simp
                exact hK _ _ (rfl) (Below.refl _ _)
              · simp at ho
                subst ho
                have e8 : a.tmps.getD 206 undef = .bool false := hR.dep ⟨8, .guard⟩ (by simp) rfl
                have b26 : a.tmps.getD 26 undef = .bool false := hR.base 26 (by kernel_rfl)
                refine guard_step rfl rfl rfl (b := false) e8 ?_
                go_simp
                exact hK _ _ (rfl) (Below.refl _ _)
              · simp at ho
                subst ho
                have e9 : a.tmps.getD 207 undef = .bool false := hR.dep ⟨9, .data⟩ (by simp) rfl
                have e8 : a.tmps.getD 206 undef = .bool false := hR.dep ⟨8, .guard⟩ (by simp) rfl
                refine guard_step rfl rfl rfl (b := false) e8 ?_
                go_simp
                exact hK _ _ (rfl) (Below.refl _ _)
              · simp at ho
                subst ho
                have e10 : a.tmps.getD 208 undef = .bool false := hR.dep ⟨10, .guard⟩ (by simp) rfl
                refine guard_skip rfl rfl rfl (b := true) e10 (by decide) ?_
                exact hK _ _ rfl (Below.refl _ _)
              · simp at ho
                subst ho
                have e10 : a.tmps.getD 208 undef = .bool false := hR.dep ⟨10, .guard⟩ (by simp) rfl
                refine guard_skip rfl rfl rfl (b := true) e10 (by decide) ?_
                exact hK _ _ rfl (Below.refl _ _)
              · simp at ho
                subst ho
                have e10 : a.tmps.getD 208 undef = .bool false := hR.dep ⟨10, .guard⟩ (by simp) rfl
                refine guard_skip rfl rfl rfl (b := true) e10 (by decide) ?_
                exact hK _ _ rfl (Below.refl _ _)
              · simp at ho
                subst ho
                have e10 : a.tmps.getD 208 undef = .bool false := hR.dep ⟨10, .guard⟩ (by simp) rfl
                refine guard_skip rfl rfl rfl (b := true) e10 (by decide) ?_
                exact hK _ _ rfl (Below.refl _ _)
              · simp at ho
                subst ho
                have e10 : a.tmps.getD 208 undef = .bool false := hR.dep ⟨10, .guard⟩ (by simp) rfl
                refine guard_skip rfl rfl rfl (b := true) e10 (by decide) ?_
                exact hK _ _ rfl (Below.refl _ _)
              · simp at ho
                subst ho
                have e10 : a.tmps.getD 208 undef = .bool false := hR.dep ⟨10, .guard⟩ (by simp) rfl
                refine guard_skip rfl rfl rfl (b := true) e10 (by decide) ?_
                exact hK _ _ rfl (Below.refl _ _)
              · simp at ho
                subst ho
                have e10 : a.tmps.getD 208 undef = .bool false := hR.dep ⟨10, .guard⟩ (by simp) rfl
                refine guard_skip rfl rfl rfl (b := true) e10 (by decide) ?_
                exact hK _ _ rfl (Below.refl _ _)
              · simp at ho
                subst ho
                have e10 : a.tmps.getD 208 undef = .bool false := hR.dep ⟨10, .data⟩ (by simp) rfl
                have e17 : a.tmps.getD 215 undef = undef := hR.dep ⟨17, .data⟩ (by simp) rfl
                have e8 : a.tmps.getD 206 undef = .bool false := hR.dep ⟨8, .guard⟩ (by simp) rfl
                refine guard_step rfl rfl rfl (b := false) e8 ?_
                go_simp
                exact hK _ _ (rfl) (Below.refl _ _)
              · simp at ho
                subst ho
                have e8 : a.tmps.getD 206 undef = .bool false := hR.dep ⟨8, .data⟩ (by simp) rfl
                have e18 : a.tmps.getD 216 undef = .bool false := hR.dep ⟨18, .data⟩ (by simp) rfl
                refine plain_step rfl rfl ?_
                go_simp
                exact hK _ _ (rfl) (Below.refl _ _)
            · intro s w hS hb
              have e19 : s 217 = .bool false := hS 19 (by decide)
              simp only [over, Nat.zero_add, Nat.reduceAdd, Nat.reduceLeDiff, Nat.reduceLT, decide_true, decide_false, Bool.and_true, Bool.and_false, cond_true, cond_false]
              have HBW := Lib.hid (HBW.out.trans (hb.mono HBW.out.size))
              clear hb hS hltB
              rw [e19]
              clear e19
              go_wp2_with fail
              go_roundw
              case rel => exact ⟨j + 1, by omega, by go_num, HBW⟩
              case measure => simp [intOf]; omega
          · refine wp_region_vals (w := v13) (by kernel_rfl) (SY1 bs be j p x sf st) (fun t => (decide (198 ≤ t) && decide (t < 218))) (by kernel_rfl) (by kernel_rfl) (by kernel_rfl) (SY1_up bs be j p x sf st) ?_ ?_
            · intro i hi o listed a w hR K hK
              have ho := hR.at_
              have hi : i < 20 := hi
              have hii : i = 0 ∨ i = 1 ∨ i = 2 ∨ i = 3 ∨ i = 4 ∨ i = 5 ∨ i = 6 ∨ i = 7 ∨ i = 8 ∨ i = 9 ∨ i = 10 ∨ i = 11 ∨ i = 12 ∨ i = 13 ∨ i = 14 ∨ i = 15 ∨ i = 16 ∨ i = 17 ∨ i = 18 ∨ i = 19 := by omega
              rcases hii with rfl | rfl | rfl | rfl | rfl | rfl | rfl | rfl | rfl | rfl | rfl | rfl | rfl | rfl | rfl | rfl | rfl | rfl | rfl | rfl
              · simp at ho
                subst ho
                have b25 : a.tmps.getD 25 undef = .int .i64 p := hR.base 25 (by kernel_rfl)
                refine plain_step rfl rfl ?_
                go_simp
                exact hK _ _ (rfl) (Below.refl _ _)
              · simp at ho
                subst ho
                have b27 : a.tmps.getD 27 undef = .int .i64 p := hR.base 27 (by kernel_rfl)
                refine plain_step rfl rfl ?_
                go_simp
                exact hK _ _ (rfl) (Below.refl _ _)
              · simp at ho
                subst ho
                have e0 : a.tmps.getD 198 undef = .int .i64 p := hR.dep ⟨0, .data⟩ (by simp) rfl
                have e1 : a.tmps.getD 199 undef = .int .i64 p := hR.dep ⟨1, .data⟩ (by simp) rfl
                refine plain_step rfl rfl ?_
                go_simp
                exact hK _ _ (rfl) (Below.refl _ _)
              · simp at ho
                subst ho
                have e2 : a.tmps.getD 200 undef = .bool false := hR.dep ⟨2, .data⟩ (by simp) rfl
                refine plain_step rfl rfl ?_
                go_simp
                exact hK _ _ (rfl) (Below.refl _ _)
              · simp at ho
                subst ho
                have e3 : a.tmps.getD 201 undef = .bool false := hR.dep ⟨3, .guard⟩ (by simp) rfl
                have b26 : a.tmps.getD 26 undef = .bool true := hR.base 26 (by kernel_rfl)
                refine guard_step rfl rfl rfl (b := false) e3 ?_
                go_simp
                exact hK _ _ (rfl) (Below.refl _ _)
              · simp at ho
                subst ho
                have e3 : a.tmps.getD 201 undef = .bool false := hR.dep ⟨3, .guard⟩ (by simp) rfl
                have b28 : a.tmps.getD 28 undef = .bool true := hR.base 28 (by kernel_rfl)
                refine guard_step rfl rfl rfl (b := false) e3 ?_
                go_simp
                exact hK _ _ (rfl) (Below.refl _ _)
              · simp at ho
                subst ho
                have e4 : a.tmps.getD 202 undef = .bool true := hR.dep ⟨4, .data⟩ (by simp) rfl
                have e5 : a.tmps.getD 203 undef = .bool true := hR.dep ⟨5, .data⟩ (by simp) rfl
                have e3 : a.tmps.getD 201 undef = .bool false := hR.dep ⟨3, .guard⟩ (by simp) rfl
                refine guard_step rfl rfl rfl (b := false) e3 ?_
                go_simp
                exact hK _ _ (rfl) (Below.refl _ _)
              · simp at ho
                subst ho
                have e3 : a.tmps.getD 201 undef = .bool false := hR.dep ⟨3, .data⟩ (by simp) rfl
                have e6 : a.tmps.getD 204 undef = .bool false := hR.dep ⟨6, .data⟩ (by simp) rfl
                refine plain_step rfl rfl ?_
                go_simp
                exact hK _ _ (rfl) (Below.refl _ _)
              · simp at ho
                subst ho
                have e7 : a.tmps.getD 205 undef = .bool false := hR.dep ⟨7, .data⟩ (by simp) rfl
                refine plain_step rfl rfl ?_
                go_simp
                exact hK _ _ (rfl) (Below.refl _ _)
              · simp at ho
                subst ho
                have e8 : a.tmps.getD 206 undef = .bool false := hR.dep ⟨8, .guard⟩ (by simp) rfl
                have b26 : a.tmps.getD 26 undef = .bool true := hR.base 26 (by kernel_rfl)
                refine guard_step rfl rfl rfl (b := false) e8 ?_
                go_simp
                exact hK _ _ (rfl) (Below.refl _ _)
              · simp at ho
                subst ho
                have e9 : a.tmps.getD 207 undef = .bool true := hR.dep ⟨9, .data⟩ (by simp) rfl
                have e8 : a.tmps.getD 206 undef = .bool false := hR.dep ⟨8, .guard⟩ (by simp) rfl
                refine guard_step rfl rfl rfl (b := false) e8 ?_
                go_simp
                exact hK _ _ (rfl) (Below.refl _ _)
              · simp at ho
                subst ho
                have e10 : a.tmps.getD 208 undef = .bool true := hR.dep ⟨10, .guard⟩ (by simp) rfl
                have b29 : a.tmps.getD 29 undef = .pointer (some ⟨bs, 0, none⟩) := hR.base 29 (by kernel_rfl)
                have KW := heap_up hR.below KS.out
                have s0 : w.cell? ⟨bs, 0, none⟩ = some (.int .i64 sf) := by rw [Lib.cell_of_heap KW]; rfl
                have s1 : w.cell? ⟨bs, 1, none⟩ = some (.int .i64 st) := by rw [Lib.cell_of_heap KW]; rfl
                clear KW
                refine guard_step rfl rfl rfl (b := true) e10 ?_
                go_simp
                exact hK _ _ (rfl) (Below.refl _ _)
              · simp at ho
                subst ho
                have e11 : a.tmps.getD 209 undef = .agg #[.int .i64 sf, .int .i64 st] := hR.dep ⟨11, .data⟩ (by simp) rfl
                have e10 : a.tmps.getD 208 undef = .bool true := hR.dep ⟨10, .guard⟩ (by simp) rfl
                have e11b : (a.tmps[209]?).getD undef = .agg #[.int .i64 sf, .int .i64 st] := by rw [← Array.getD_eq_getD_getElem?]; exact e11
                refine guard_step rfl rfl rfl (b := true) e10 ?_
                go_simp
                exact hK _ _ (lst_lit _ [(sf, st)] (by simp) #[.int .i64 sf, .int .i64 st] 33 rfl 1 1 rfl) ((Below.refl _ _).alloc (Nat.le_refl _) _)
              · simp at ho
                subst ho
                have e10 : a.tmps.getD 208 undef = .bool true := hR.dep ⟨10, .guard⟩ (by simp) rfl
                have b24 : a.tmps.getD 24 undef = .int .i64 (j : Int) := hR.base 24 (by kernel_rfl)
                refine guard_step rfl rfl rfl (b := true) e10 ?_
                go_simp
                exact hK _ _ (rfl) (Below.refl _ _)
              · simp at ho
                subst ho
                have e13 : a.tmps.getD 211 undef = .int .i64 (j : Int) := hR.dep ⟨13, .data⟩ (by simp) rfl
                have e10 : a.tmps.getD 208 undef = .bool true := hR.dep ⟨10, .guard⟩ (by simp) rfl
                have b23 : a.tmps.getD 23 undef = .pointer (some ⟨be, 0, none⟩) := hR.base 23 (by kernel_rfl)
                refine guard_step rfl rfl rfl (b := true) e10 ?_
                go_simp
                exact hK _ _ (rfl) (Below.refl _ _)
              · simp at ho
                subst ho
                have e14 : a.tmps.getD 212 undef = .pointer (some ⟨be, j, none⟩) := hR.dep ⟨14, .data⟩ (by simp) rfl
                have e10 : a.tmps.getD 208 undef = .bool true := hR.dep ⟨10, .guard⟩ (by simp) rfl
                have c1 : w.cell? ⟨be, j, none⟩ = some (.int .i64 x) := by rw [cell_up hR.below hltB]; exact HC1.out
                refine guard_step rfl rfl rfl (b := true) e10 ?_
                go_simp
                exact hK _ _ (rfl) (Below.refl _ _)
              · simp at ho
                subst ho
                have e12 := hR.dep ⟨12, .data⟩ (by simp) rfl
                have e15 : a.tmps.getD 213 undef = .int .i64 x := hR.dep ⟨15, .data⟩ (by simp) rfl
                have e10 : a.tmps.getD 208 undef = .bool true := hR.dep ⟨10, .guard⟩ (by simp) rfl
                have hl : Lst w (a.tmps.getD 210 undef) [(sf, st)] := e12
                obtain ⟨vv, hvv⟩ : ∃ v, a.tmps.getD 210 undef = v := ⟨_, rfl⟩
                rw [hvv] at hl
                clear e12
                refine guard_step rfl rfl rfl (b := true) e10 ?_
                go_simp
                refine (Has_any x vv [(sf, st)] _ hl).mono ?_
                rintro e w' ⟨rfl, hb⟩
                rw [HHAS.out rfl]
                exact hK _ _ (rfl) hb
              · simp at ho
                subst ho
                have e16 : a.tmps.getD 214 undef = .bool true := hR.dep ⟨16, .data⟩ (by simp) rfl
                have e10 : a.tmps.getD 208 undef = .bool true := hR.dep ⟨10, .guard⟩ (by simp) rfl
                refine guard_step rfl rfl rfl (b := true) e10 ?_
                go_simp
                exact hK _ _ (rfl) (Below.refl _ _)
              · simp at ho
                subst ho
                have e10 : a.tmps.getD 208 undef = .bool true := hR.dep ⟨10, .data⟩ (by simp) rfl
                have e17 : a.tmps.getD 215 undef = .bool false := hR.dep ⟨17, .data⟩ (by simp) rfl
                have e8 : a.tmps.getD 206 undef = .bool false := hR.dep ⟨8, .guard⟩ (by simp) rfl
                refine guard_step rfl rfl rfl (b := false) e8 ?_
                go_simp
                exact hK _ _ (rfl) (Below.refl _ _)
              · simp at ho
                subst ho
                have e8 : a.tmps.getD 206 undef = .bool false := hR.dep ⟨8, .data⟩ (by simp) rfl
                have e18 : a.tmps.getD 216 undef = .bool false := hR.dep ⟨18, .data⟩ (by simp) rfl
                refine plain_step rfl rfl ?_
                go_simp
                exact hK _ _ (rfl) (Below.refl _ _)
            · intro s w hS hb
              have e19 : s 217 = .bool false := hS 19 (by decide)
              simp only [over, Nat.zero_add, Nat.reduceAdd, Nat.reduceLeDiff, Nat.reduceLT, decide_true, decide_false, Bool.and_true, Bool.and_false, cond_true, cond_false]
              have HBW := Lib.hid (HBW.out.trans (hb.mono HBW.out.size))
              clear hb hS hltB
              rw [e19]
              clear e19
              go_wp2_with fail
              go_roundw
              case rel => exact ⟨j + 1, by omega, by go_num, HBW⟩
              case measure => simp [intOf]; omega
        · have hge : (2 : Int) ≤ (j : Int) := by omega
          have HB := Lib.hid (HB.out.trans (HBW.out.mono HB.out.size))
          go_wp2_with fail
          go_ret
          exact ⟨rfl, HB.out⟩

/-! ### THE ROW's STEP -/
set_option maxRecDepth 100000 in
theorem lifted (os : Os) (started : os.Started) (H : Type) (enc : TypeId × Value → H) :
    ReturnsInHanded {} Try.checked os 11 .any (Rows.spanYearsSpec.pre6 enc Try.prog Try.f11 Rows.spanYearsRow.domain false) (Rows.spanYearsSpec.post enc Try.prog Try.f11 false true false false) := by
  refine returnsInHanded_of_change (C := Try.checked) own started (by kernel_rfl) Try.func11
    (ChangeSpec.witness6 (enc := enc) (C := Try.checked) false ⟨#[], #[.int .i64 0, .int .i64 0], []⟩ 8 (by kernel_rfl) (by kernel_rfl) (by kernel_rfl) (by kernel_rfl)) ?_
  intro W base args ds gs before hval0 hW hcnd _
  have hval : ∀ (j : Nat) t v, Try.f11.params[j]? = some t → args[j]? = some v → Value.okWide Try.prog W .any base t v := hval0
  have hW' := hW
  obtain ⟨p, q, hA0, hV, rfl, hfz, hnd⟩ := hW
  have hA : DataW.TrodAll enc Try.prog W 0 (fun _ => true) true Try.f11.params.toList args.toList ds p := hA0
  rw [Try.params11] at hA hval
  obtain ⟨v0, vs0, d0, ds0, p0, q0, hargs, rfl, rfl, h0, r0⟩ := trodAll_cons hA
  obtain ⟨v1, vs1, d1, ds1, p1, q1, rfl, rfl, rfl, h1, r1⟩ := trodAll_cons r0
  obtain ⟨rfl, rfl, rfl⟩ := trodAll_nil r1
  obtain rfl : args = #[v0, v1] := by cases args; simp_all
  obtain ⟨rfl, rfl⟩ := trodVars_none hV
  obtain ⟨n0, rfl, rfl, rfl, w0⟩ := open_int Try.underlying3 (hval 0 3 v0 rfl rfl) h0
  obtain ⟨n1, rfl, rfl, rfl, w1⟩ := open_int Try.underlying3 (hval 1 3 v1 rfl rfl) h1
  clear hA0 hval0
  simp only [List.append_nil] at hW'
  refine (walk n0 n1 W (wf_in w0) (wf_in w1)).mono fun e W' ⟨he, hb⟩ => ?_
  subst he
  exact ⟨_, rfl, post_of_below (pv := []) hW' (fun _ _ _ => (trodAll_cons_mk (shut_bool Try.underlying4 _) trodAll_mk0)) (fun sp hsp => (trodAll_cons_mk (shut_int Try.underlying3 w0) (trodAll_cons_mk (shut_int Try.underlying3 w1) trodAll_mk0))) (fun _ _ => rfl) (by simp)
    hb (ok_one (by kernel_rfl) rfl (okWide_bool_mk Try.underlying4 _))⟩

theorem over : Rows.spanYearsRow.holds Try.pinned (OpenSpec.ofChange Rows.spanYearsSpec) :=
  OpenClaim.holds_of_wide 11 Try.f11 rfl rfl rfl rfl rfl rfl rfl ⟨rfl, rfl, rfl, rfl, rfl⟩ rfl rfl rfl rfl rfl (by kernel_rfl) Try.func11 (by kernel_rfl)
    (of_decide_eq_true (by kernel_rfl)) (by unfold Func.isWrapper; first | (rw [if_pos (by decide +kernel)]; kernel_rfl) | (rw [if_neg (by decide +kernel)]; exact ⟨rfl, rfl⟩))
    (fun os started H enc _ => lifted os started H enc)

theorem proved : Rows.SpanYearsSaid :=
  over
#print axioms proved
end Go.Proofs.Ytodkppeikpaclaa.spanYears
