/- The contract of the reference's Format; each theorem names its conditions. -/
import Derived.Test.YtfoifnhakmfefaaRefR
namespace Go.Proofs.Ytfoifnhakmfefaa
open Go.RowKit Go.Shelf
open Cal Txt
set_option linter.unusedVariables false

theorem wr_next {y m d : Int} {T : List (List UInt8)} {k : Nat} {S t : List UInt8} (h : S = wrAll y m d (T.take k)) (hk : k < T.length) (ht : T[k] = t) : S ++ wr y m d t = wrAll y m d (T.take (k + 1)) := by
  rw [List.take_succ_eq_append_getElem hk, wrAll_snoc, ← h, ht]
theorem dig1_len (n : Int) : (dig1 n).length ≤ 2 := by unfold dig1; split <;> simp [dig2]
set_option maxHeartbeats 4000000 in
set_option maxRecDepth 100000 in
theorem rFormat_any (L : List UInt8) (n : Int) (w : World) : Calls Try.prog 23 #[.string ⟨L.toArray⟩, .int .i64 n] w (Gives w (.tuple #[.string ⟨(fmtS L n).toArray⟩, .bool (fmtOk L n)])) := by
  have hii : insideB n = true ∨ insideB n = false := by cases insideB n <;> simp
  rcases hii with hi | hi
  case inr =>
    have cv := Lib.hid (show CivV n = .tuple #[.int .i64 0, .int .i64 0, .int .i64 0, .bool false] by simp [CivV, cyV, cmV, cdV, hi])
    have hf : fmtOk L n = false := by simp [fmtOk, hi]
    have HF := Lib.hid hf
    clear hi hf
    go_enter Try.func23, Try.ntmps23
    go_wp2_with fail
    refine (rCivil_any _ _).mono ?_
    rintro e w1 ⟨rfl, rfl⟩
    rw [cv.out]
    go_wp2_with fail
    refine (rRight_any L _).mono ?_
    rintro e w2 ⟨rfl, hb2⟩
    have HB2 := Lib.hid hb2
    clear hb2
    go_wp2_with fail
    go_ret2
    refine ⟨?_, HB2.out⟩
    rw [show fmtS L n = [] by simp [fmtS, HF.out], HF.out]; rfl
  have hbd := civ_bd n (inside_bd hi).1 (inside_bd hi).2
  obtain ⟨b1, b2, b3, b4, b5, b6⟩ := hbd
  have cv := Lib.hid (show CivV n = .tuple #[.int .i64 (civY n), .int .i64 (civM n), .int .i64 (civD n), .bool true] by simp [CivV, cyV, cmV, cdV, hi])
  have HI := Lib.hid hi
  clear hi
  go_enter Try.func23, Try.ntmps23
  go_wp2_with fail
  refine (rCivil_any _ _).mono ?_
  rintro e w1 ⟨rfl, rfl⟩
  rw [cv.out]
  go_wp2_with fail
  refine (rRight_any L _).mono ?_
  rintro e w2 ⟨rfl, hb2⟩
  have HB2 := Lib.hid hb2
  clear hb2
  have hrr : rightB L = true ∨ rightB L = false := by cases rightB L <;> simp
  rcases hrr with hr | hr
  case inr =>
    have hf : fmtOk L n = false := by simp [fmtOk, hr]
    have HF := Lib.hid hf
    rw [hr]
    clear hr hf
    go_wp2_with fail
    go_ret2
    refine ⟨?_, HB2.out⟩
    rw [show fmtS L n = [] by simp [fmtS, HF.out], HF.out]; rfl
  have hl40 := rightB_len hr
  have HR := Lib.hid hr
  rw [hr]
  clear hr
  go_wp2_with fail
  refine (rParts_any L (by omega) _).mono ?_
  rintro e W5 ⟨v, rfl, hown, hb5⟩
  have hlT : (strs (tokens L)).length = (tokens L).length := by simp [strs]
  have htl := tokens_len _ L (Nat.le_refl _)
  have htl40 : (tokens L).length ≤ 40 := by omega
  rcases hown.2 with ⟨rfl, hn0⟩ | ⟨g, cap, cur, rfl, hg, hgh, hnc, hcm, hcs, hct⟩
  case inl =>
    have ht0 : tokens L = [] := List.eq_nil_of_length_eq_zero (by rw [← hlT]; exact hn0)
    have := HR.out
    simp [rightB, ht0, goodFrom] at this
  have HB5 := Lib.hid (HB2.out.trans (hb5.mono HB2.out.size))
  have hrow : ∀ j (hj : j < (tokens L).length), W5.cell? ⟨g, j, none⟩ = some (.string ⟨((tokens L)[j]).toArray⟩) := by
    intro j hj
    rw [Lib.cell_of_heap hgh]
    have e := congrArg (fun l => l[j]?) hct
    simp only [Nat.mul_one, List.getElem?_take] at e
    rw [hlT, if_pos hj] at e
    simpa [strs, hj] using e
  have HROW := Lib.hid hrow
  have HGH := Lib.hid hgh
  rw [hlT]
  have hg5 : g < W5.heap.size := (Array.getElem?_eq_some_iff.1 HGH.out).1
  clear hb5 hown hgh hct hrow hcs hnc
  go_wp2_with fail
  go_loopw [11, 13] (fun s i wr => ∃ (k : Nat) (S : List UInt8), k ≤ (tokens L).length ∧ i = .int .i64 (k : Int) ∧ s = .string ⟨S.toArray⟩ ∧ S.length ≤ 4 * k ∧ Hid (S = wrAll (civY n) (civM n) (civD n) ((tokens L).take k)) ∧ Hid (Below W5.heap.size W5 wr)) (fun _ i _ => (tokens L).length - (intOf i).toNat)
  case atStart => exact ⟨0, [], by omega, rfl, rfl, by simp, Lib.hid rfl, Lib.hid (Below.refl _ _)⟩
  case round =>
    obtain ⟨k, S, hk', rfl, rfl, hS, HS, HBW⟩ := hrel
    by_cases hlt : k < (tokens L).length
    · have hlt' : (k : Int) < ((tokens L).length : Int) := by omega
      have hgw : wr.cell? ⟨g, k, none⟩ = some (.string ⟨((tokens L)[k]).toArray⟩) := by
        rw [World.cell?_of_block (w := W5) (HBW.out.block g hg5)]
        exact HROW.out k hlt
      have hx : IsTok (tokens L)[k] := tokens_isTok _ L (Nat.le_refl _) _ (List.getElem_mem hlt)
      obtain ⟨t, ht⟩ : ∃ t, (tokens L)[k] = t := ⟨_, rfl⟩
      rw [ht] at hgw hx
      rcases hx with rfl | rfl | rfl | ⟨c, rfl⟩
      · have HW := Lib.hid (wr_next (y := civY n) (m := civM n) (d := civD n) HS.out hlt ht)
        have hdg := Lib.hid (dgs4 (civY n) (by omega) (by omega))
        clear ht
        go_wp2_with fail
        refine (rdigits_any _ 4 (by omega) (by omega) (by omega) (by omega) _).mono ?_
        rintro e v2 ⟨rfl, hb2⟩
        rw [hdg.out]
        have HB2 := Lib.hid (HBW.out.trans (hb2.mono HBW.out.size))
        clear hb2
        have hl2 : (dig4 (civY n)).length = 4 := rfl
        go_wp2_with fail
        go_roundw
        case rel => exact ⟨k + 1, _, by omega, by go_num, by rw [str_append], by simp; omega, Lib.hid (by rw [← HW.out, show Txt.wr (civY n) (civM n) (civD n) [89, 89, 89, 89] = dig4 (civY n) by rfl]), HB2⟩
        case measure => simp [intOf]; omega
      · have HW := Lib.hid (wr_next (y := civY n) (m := civM n) (d := civD n) HS.out hlt ht)
        have hdg := Lib.hid (dgs2 (civM n) (by omega) (by omega))
        clear ht
        go_wp2_with fail
        refine (rdigits_any _ 2 (by omega) (by omega) (by omega) (by omega) _).mono ?_
        rintro e v2 ⟨rfl, hb2⟩
        rw [hdg.out]
        have HB2 := Lib.hid (HBW.out.trans (hb2.mono HBW.out.size))
        clear hb2
        have hl2 : (dig2 (civM n)).length = 2 := rfl
        go_wp2_with fail
        go_roundw
        case rel => exact ⟨k + 1, _, by omega, by go_num, by rw [str_append], by simp; omega, Lib.hid (by rw [← HW.out, show Txt.wr (civY n) (civM n) (civD n) [77, 77] = dig2 (civM n) by simp [Txt.wr]]), HB2⟩
        case measure => simp [intOf]; omega
      · have HW := Lib.hid (wr_next (y := civY n) (m := civM n) (d := civD n) HS.out hlt ht)
        have hdg := Lib.hid (dgs2 (civD n) (by omega) (by omega))
        clear ht
        go_wp2_with fail
        refine (rdigits_any _ 2 (by omega) (by omega) (by omega) (by omega) _).mono ?_
        rintro e v2 ⟨rfl, hb2⟩
        rw [hdg.out]
        have HB2 := Lib.hid (HBW.out.trans (hb2.mono HBW.out.size))
        clear hb2
        have hl2 : (dig2 (civD n)).length = 2 := rfl
        go_wp2_with fail
        go_roundw
        case rel => exact ⟨k + 1, _, by omega, by go_num, by rw [str_append], by simp; omega, Lib.hid (by rw [← HW.out, show Txt.wr (civY n) (civM n) (civD n) [68, 68] = dig2 (civD n) by simp [Txt.wr]]), HB2⟩
        case measure => simp [intOf]; omega
      · by_cases e77 : c = 77
        · subst e77
          have HW := Lib.hid (wr_next (y := civY n) (m := civM n) (d := civD n) HS.out hlt ht)
          have hdg := Lib.hid (dgs1 (civM n) (by omega) (by omega))
          clear ht
          go_wp2_with fail
          refine (rdigits_any _ 1 (by omega) (by omega) (by omega) (by omega) _).mono ?_
          rintro e v2 ⟨rfl, hb2⟩
          rw [hdg.out]
          have HB2 := Lib.hid (HBW.out.trans (hb2.mono HBW.out.size))
          clear hb2
          have hl2 : (dig1 (civM n)).length ≤ 2 := dig1_len _
          go_wp2_with fail
          go_roundw
          case rel => exact ⟨k + 1, _, by omega, by go_num, by rw [str_append], by simp; omega, Lib.hid (by rw [← HW.out, show Txt.wr (civY n) (civM n) (civD n) [77] = dig1 (civM n) by simp [Txt.wr]]), HB2⟩
          case measure => simp [intOf]; omega
        by_cases e68 : c = 68
        · subst e68
          have HW := Lib.hid (wr_next (y := civY n) (m := civM n) (d := civD n) HS.out hlt ht)
          have hdg := Lib.hid (dgs1 (civD n) (by omega) (by omega))
          clear ht
          go_wp2_with fail
          refine (rdigits_any _ 1 (by omega) (by omega) (by omega) (by omega) _).mono ?_
          rintro e v2 ⟨rfl, hb2⟩
          rw [hdg.out]
          have HB2 := Lib.hid (HBW.out.trans (hb2.mono HBW.out.size))
          clear hb2
          have hl2 : (dig1 (civD n)).length ≤ 2 := dig1_len _
          go_wp2_with fail
          go_roundw
          case rel => exact ⟨k + 1, _, by omega, by go_num, by rw [str_append], by simp; omega, Lib.hid (by rw [← HW.out, show Txt.wr (civY n) (civM n) (civD n) [68] = dig1 (civD n) by simp [Txt.wr]]), HB2⟩
          case measure => simp [intOf]; omega
        have HW := Lib.hid (wr_next (y := civY n) (m := civM n) (d := civD n) HS.out hlt ht)
        have HE := Lib.hid (show Txt.wr (civY n) (civM n) (civD n) [c] = [c] by simp [Txt.wr, e77, e68])
        have f77 : (c == 77) = false := by simpa using e77
        have f68 : (c == 68) = false := by simpa using e68
        clear e77 e68
        clear ht
        go_wp2_with fail
        go_roundw
        case rel => exact ⟨k + 1, _, by omega, by go_num, by rw [str_append], by simp; omega, Lib.hid (by rw [← HW.out, HE.out]), HBW⟩
        case measure => simp [intOf]; omega
    · have hge : ((tokens L).length : Int) ≤ (k : Int) := by omega
      have hf : fmtOk L n = true := by simp [fmtOk, HR.out, HI.out]
      have hw : S = fmtS L n := by
        rw [fmtS, if_pos hf, Txt.written, HS.out, show k = (tokens L).length by omega, List.take_length]
      have HF := Lib.hid hf
      have HW := Lib.hid hw
      clear hf hw
      go_wp2_with fail
      go_ret2
      refine ⟨?_, HB5.out.trans (HBW.out.mono HB5.out.size)⟩
      rw [HF.out, HW.out]; rfl
end Go.Proofs.Ytfoifnhakmfefaa
