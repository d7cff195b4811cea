/- The contract of the reference's Read; each theorem names its conditions. -/
import Derived.Test.YtfoifnhakmfefaaRefF
namespace Go.Proofs.Ytfoifnhakmfefaa
open Go.RowKit Go.Shelf
open Cal Txt
set_option linter.unusedVariables false

theorem good_noY : ∀ (ts : List (List UInt8)) (s : St), goodFrom s ts = true → [89] ∉ ts
  | [], _, _ => by simp
  | t :: ts, s, h => by
    have hb : badTok s.op t = false := by
      cases hb : badTok s.op t
      · rfl
      · simp [goodFrom, hb] at h
    have h' : goodFrom (Txt.stepT s t) ts = true := by simpa [goodFrom, hb] using h
    intro hm
    rcases List.mem_cons.1 hm with e | e
    · subst e; simp [badTok] at hb
    · exact good_noY ts _ h' e
theorem right_noY {L : List UInt8} (h : rightB L = true) : [89] ∉ tokens L := by
  simp only [rightB, Bool.and_eq_true] at h
  exact good_noY _ _ h.2
theorem takeN_nil (t : List UInt8) : takeN t [] = 0 := by simp [takeN, headD, numD]
theorem takeR_nil (t : List UInt8) : takeR t [] = [] := by simp [takeR]
theorem stay : ∀ (ts : List (List UInt8)) (a : Rd), a.r = [] → (ts.foldl stepR a).r = [] ∧ (a.y = 0 → (ts.foldl stepR a).y = 0) ∧ (a.m = 0 → (ts.foldl stepR a).m = 0) ∧ (a.d = 0 → (ts.foldl stepR a).d = 0)
  | [], a, h => ⟨h, id, id, id⟩
  | t :: ts, a, h => by
    have hs : (stepR a t).r = [] ∧ (a.y = 0 → (stepR a t).y = 0) ∧ (a.m = 0 → (stepR a t).m = 0) ∧ (a.d = 0 → (stepR a t).d = 0) := by
      unfold stepR
      split
      · simp [h, takeN_nil, takeR_nil]
      split
      · simp [h, takeN_nil, takeR_nil]
      split
      · simp [h, takeN_nil, takeR_nil]
      simp [h]
    obtain ⟨h1, h2, h3, h4⟩ := stay ts (stepR a t) hs.1
    exact ⟨h1, fun e => h2 (hs.2.1 e), fun e => h3 (hs.2.2.1 e), fun e => h4 (hs.2.2.2 e)⟩
theorem stepR_r (a : Rd) (t : List UInt8) (h : a.r = []) : (stepR a t).r = [] := (stay [t] a h).1
theorem read_split {T : List (List UInt8)} {s : List UInt8} {k : Nat} {a : Rd} (h : readT (T.take k) s = a) (hk : k < T.length) : readT T s = (T.drop (k + 1)).foldl stepR (stepR a T[k]) := by
  have e : T = T.take k ++ T[k] :: T.drop (k + 1) := by
    rw [← List.drop_eq_getElem_cons hk, List.take_append_drop]
  conv => lhs; rw [e]
  unfold readT at h ⊢
  rw [List.foldl_append, h, List.foldl_cons]
theorem read_past {L s : List UInt8} {k : Nat} {a : Rd} (h : readT ((tokens L).take k) s = a) (hk : k < (tokens L).length) (hr : a.r = []) {t : List UInt8} (ht : (tokens L)[k] = t) (hf : t.headD 0 = 89 ∨ t.headD 0 = 77 ∨ t.headD 0 = 68) : readOk L s = false := by
  have e := read_split h hk
  rw [ht] at e
  have hn : validB (readT (tokens L) s).y (readT (tokens L) s).m (readT (tokens L) s).d = false := by
    cases hv : validB (readT (tokens L) s).y (readT (tokens L) s).m (readT (tokens L) s).d
    · rfl
    · exfalso
      have hv' := (valid_iff _ _ _).1 hv
      obtain ⟨-, h2, h3, h4⟩ := stay ((tokens L).drop (k + 1)) (stepR a t) (stepR_r a t hr)
      rw [← e] at h2 h3 h4
      rcases hf with hf | hf | hf
      · have := h2 (by unfold stepR; rw [if_pos hf, hr]; exact takeN_nil t); omega
      · have := h3 (by unfold stepR; rw [if_neg (by rw [hf]; decide), if_pos hf, hr]; exact takeN_nil t); omega
      · have := h4 (by unfold stepR; rw [if_neg (by rw [hf]; decide), if_neg (by rw [hf]; decide), if_pos hf, hr]; exact takeN_nil t); omega
  simp [readOk, hn]
theorem read_next {T : List (List UInt8)} {s : List UInt8} {k : Nat} {a : Rd} {t : List UInt8} (h : readT (T.take k) s = a) (hk : k < T.length) (ht : T[k] = t) : readT (T.take (k + 1)) s = stepR a t := by
  rw [List.take_succ_eq_append_getElem hk, readT_snoc, h, ht]
theorem numR_all {s : List UInt8} (h : ∀ c ∈ s, isD c = true) : numR s = numD s := by
  have : s.all isD = true := List.all_eq_true.2 h
  simp [numR, this]
theorem drop_get {s : List UInt8} {a j : Nat} (h : a + j < s.length) : (s.drop a)[j]'(by rw [List.length_drop]; omega) = s[a + j] := by simp
set_option maxHeartbeats 8000000 in
set_option maxRecDepth 100000 in
theorem rRead_any (L s : List UInt8) (hs : s.length ≤ maxLen) (w : World) : Calls Try.prog 26 #[.string ⟨L.toArray⟩, .string ⟨s.toArray⟩] w (Gives w (.tuple #[.int .i64 (readN L s), .bool (readOk L s)])) := by
  have hsm : s.length ≤ 9223372036854775807 := by unfold maxLen at hs; omega
  clear hs
  go_enter Try.func26, Try.ntmps26
  go_wp2_with fail
  refine (rRight_any L _).mono ?_
  rintro e w2 ⟨rfl, hb2⟩
  have HB2 := Lib.hid hb2
  clear hb2
  have hrr : rightB L = true ∨ rightB L = false := by cases rightB L <;> simp
  rcases hrr with hr | hr
  case inr =>
    have HF : Hid (readOk L s = false) := Lib.hid (by simp [readOk, hr])
    rw [hr]
    clear hr
    go_wp2_with fail
    go_ret2
    refine ⟨?_, HB2.out⟩
    rw [show readN L s = 0 by simp [readN, HF.out], HF.out]; rfl
  have hl40 := rightB_len hr
  have HR := Lib.hid hr
  rw [hr]
  clear hr
  go_wp2_with fail
  have hb3 : Below w.heap.size w (w2.alloc (.cells #[.int .i64 0, .int .i64 0, .int .i64 0] 22)) := HB2.out.alloc HB2.out.size _
  have hk3 := heap_alloc_new w2 (.cells #[.int .i64 0, .int .i64 0, .int .i64 0] 22)
  have hs3 : (w2.alloc (.cells #[.int .i64 0, .int .i64 0, .int .i64 0] 22)).heap.size = w2.heap.size + 1 := by simp
  obtain ⟨W3, hW3⟩ : ∃ W3, w2.alloc (.cells #[.int .i64 0, .int .i64 0, .int .i64 0] 22) = W3 := ⟨_, rfl⟩
  rw [hW3] at hb3 hk3 hs3 ⊢
  have HB3 := Lib.hid hb3; have HK3 := Lib.hid hk3; have HS3 := Lib.hid hs3
  have HSZ := Lib.hid HB2.out.size
  clear hb3 hk3 hs3 hW3
  refine (rParts_any L (by omega) _).mono ?_
  rintro e W5 ⟨v, rfl, hown, hb5⟩
  have hlT : (strs (tokens L)).length = (tokens L).length := by simp [strs]
  have htl := tokens_len _ L (Nat.le_refl _)
  have htl40 : (tokens L).length ≤ 40 := by omega
  rcases hown.2 with ⟨rfl, hn0⟩ | ⟨g, cap, cur, rfl, hg, hgh, hnc, hcm, hcs, hct⟩
  case inl =>
    have ht0 : tokens L = [] := List.eq_nil_of_length_eq_zero (by rw [← hlT]; exact hn0)
    have := HR.out
    simp [rightB, ht0, goodFrom] at this
  have HK5 : Hid (W5.heap[w2.heap.size]? = some (.cells #[.int .i64 0, .int .i64 0, .int .i64 0] 22 (0, 0))) := Lib.hid (by rw [hb5.block _ (by have := HS3.out; omega)]; exact HK3.out)
  have HB5 := Lib.hid (HB3.out.trans (hb5.mono HB3.out.size))
  have hrow : ∀ j (hj : j < (tokens L).length), W5.cell? ⟨g, j, none⟩ = some (.string ⟨((tokens L)[j]).toArray⟩) := by
    intro j hj
    rw [Lib.cell_of_heap hgh]
    have e := congrArg (fun l => l[j]?) hct
    simp only [Nat.mul_one, List.getElem?_take] at e
    rw [hlT, if_pos hj] at e
    simpa [strs, hj] using e
  have HROW := Lib.hid hrow
  rw [hlT]
  have hgb : w2.heap.size < g := by have := HS3.out; omega
  clear hb5 hown hgh hct hrow hcs hnc hg
  go_wp2_with fail
  go_loopw [8, 10] (fun at' i wr => ∃ (k a : Nat) (rd : Rd), k ≤ (tokens L).length ∧ i = .int .i64 (k : Int) ∧ at' = .int .i64 (a : Int) ∧ a ≤ 4 * k ∧ Hid (readT ((tokens L).take k) s = rd) ∧ Hid (rd.r = s.drop a) ∧ Hid (wr.heap[w2.heap.size]? = some (.cells #[.int .i64 rd.y, .int .i64 rd.m, .int .i64 rd.d] 22 (0, 0))) ∧ Hid (wr.heap[g]? = W5.heap[g]?) ∧ Hid (Below w.heap.size w wr)) (fun _ i _ => (tokens L).length - (intOf i).toNat)
  case atStart => exact ⟨0, 0, ⟨0, 0, 0, s⟩, by omega, rfl, rfl, by omega, Lib.hid rfl, Lib.hid rfl, HK5, Lib.hid rfl, HB5⟩
  case round =>
    obtain ⟨k, a, rd, hk', rfl, rfl, ha, HT, HRR, HBX, HGB, HBW⟩ := hrel
    obtain ⟨ry, rm, rdd, rr⟩ := rd
    dsimp only at HT HRR HBX
    have c0 : wr.cell? ⟨w2.heap.size, 0, none⟩ = some (.int .i64 ry) := by rw [Lib.cell_of_heap HBX.out]; rfl
    have c1 : wr.cell? ⟨w2.heap.size, 1, none⟩ = some (.int .i64 rm) := by rw [Lib.cell_of_heap HBX.out]; rfl
    have c2 : wr.cell? ⟨w2.heap.size, 2, none⟩ = some (.int .i64 rdd) := by rw [Lib.cell_of_heap HBX.out]; rfl
    have hz : ∀ j, wr.frozen? ⟨w2.heap.size, j, none⟩ = false := fun j => Lib.frozen_of_heap HBX.out j
    by_cases hlt : k < (tokens L).length
    · have hlt' : (k : Int) < ((tokens L).length : Int) := by omega
      have hgw : wr.cell? ⟨g, k, none⟩ = some (.string ⟨((tokens L)[k]).toArray⟩) := by
        rw [World.cell?_of_block (w := W5) HGB.out]
        exact HROW.out k hlt
      have hx : IsTok (tokens L)[k] := tokens_isTok _ L (Nat.le_refl _) _ (List.getElem_mem hlt)
      have HNY : Hid ((tokens L)[k] ≠ [89]) := Lib.hid (fun h => right_noY HR.out (h ▸ List.getElem_mem hlt))
      obtain ⟨t, ht⟩ : ∃ t, (tokens L)[k] = t := ⟨_, rfl⟩
      rw [ht] at hgw hx HNY
      rcases hx with rfl | rfl | rfl | ⟨c, rfl⟩
      · have HN := Lib.hid (read_next HT.out hlt ht)
        by_cases hal : a ≤ s.length
        case neg =>
          have HF : Hid (readOk L s = false) := Lib.hid (read_past HT.out hlt (by rw [HRR.out]; exact List.drop_eq_nil_of_le (by omega)) ht (by simp))
          have hal' : (s.length : Int) < (a : Int) := by omega
          clear ht HNY
          go_wp2_with fail
          refine wp_loop_rounds 1 ?_
          rw [rounds_succ]
          go_wp2_with fail
          go_ret2
          refine ⟨?_, HBW.out⟩
          rw [show readN L s = 0 by simp [readN, HF.out], HF.out]; rfl
        clear ht HNY
        go_wp2_with fail
        go_loopw [12] (fun e wr' => wr = wr' ∧ ∃ j : Nat, e = .int .i64 ((a + j : Nat) : Int) ∧ j ≤ 4 ∧ a + j ≤ s.length ∧ Hid (∀ c ∈ (s.drop a).take j, isD c = true)) (fun e _ => a + 4 - (intOf e).toNat)
        case atStart => exact ⟨rfl, 0, rfl, by omega, by omega, Lib.hid (by simp)⟩
        case round =>
          obtain ⟨rfl, j, rfl, hjM, hjs, HD⟩ := hrel
          by_cases h1 : a + j < s.length
          · have h1' : ((a + j : Nat) : Int) < (s.length : Int) := by omega
            have hgd := get_data s (a + j) h1
            have hcb : s[a + j].toNat < 256 := s[a + j].toNat_lt
            by_cases hM : j < 4
            · have hM' : ((a + j : Nat) : Int) < (a : Int) + 4 := by omega
              by_cases hlo : (48 : Int) ≤ (s[a + j].toNat : Int)
              · by_cases hhi : (s[a + j].toNat : Int) ≤ 57
                · have HDN : Hid (∀ c ∈ (s.drop a).take (j + 1), isD c = true) := Lib.hid (take_isD_succ (by simp; omega) HD.out (by rw [drop_get h1]; exact isD_mk hlo hhi))
                  go_wp2_with fail
                  go_roundw
                  case rel => exact ⟨trivial, j + 1, by go_num, by omega, by omega, HDN⟩
                  case measure => simp [intOf]; omega
                · have hte := take_end (t := [89, 89, 89, 89]) (s := s.drop a) (k := j) (by simp; omega) (by simp; omega) HD.out (.inr (.inr ⟨by simp; omega, by rw [drop_get h1]; exact isD_gt (by omega)⟩))
                  have HTE := Lib.hid hte
                  have HST : Hid (stepR ⟨ry, rm, rdd, rr⟩ [89, 89, 89, 89] = ⟨numD ((s.drop a).take j), rm, rdd, (s.drop a).drop j⟩) := Lib.hid (by simp [stepR, show rr = s.drop a from HRR.out, hte.1, hte.2])
                  have x4 := ext_tok s a j (by omega)
                  have HNR := Lib.hid (numR_all HD.out)
                  have hl4 : ((s.drop a).take j).length ≤ 4 := by simp; omega
                  clear hte
                  go_wp2_with fail
                  refine (rnumber_any _ hl4 _).mono ?_
                  rintro e w6 ⟨rfl, rfl⟩
                  rw [HNR.out]
                  go_wp2_with fail
                  go_roundw
                  case rel => exact ⟨k + 1, a + j, ⟨numD ((s.drop a).take j), rm, rdd, (s.drop a).drop j⟩, by omega, by go_num, by go_num, by omega, Lib.hid (HN.out.trans HST.out), Lib.hid (by dsimp only; rw [List.drop_drop]), Lib.hid (by rw [heap_self HBX.out]; rfl), Lib.hid (by rw [heap_other (by omega)]; exact HGB.out), Lib.hid (HBW.out.setCell (p := ⟨w2.heap.size, _, none⟩) HSZ.out _)⟩
                  case measure => simp [intOf]; omega
              · have hte := take_end (t := [89, 89, 89, 89]) (s := s.drop a) (k := j) (by simp; omega) (by simp; omega) HD.out (.inr (.inr ⟨by simp; omega, by rw [drop_get h1]; exact isD_lt (by omega)⟩))
                have HTE := Lib.hid hte
                have HST : Hid (stepR ⟨ry, rm, rdd, rr⟩ [89, 89, 89, 89] = ⟨numD ((s.drop a).take j), rm, rdd, (s.drop a).drop j⟩) := Lib.hid (by simp [stepR, show rr = s.drop a from HRR.out, hte.1, hte.2])
                have x4 := ext_tok s a j (by omega)
                have HNR := Lib.hid (numR_all HD.out)
                have hl4 : ((s.drop a).take j).length ≤ 4 := by simp; omega
                clear hte
                go_wp2_with fail
                refine (rnumber_any _ hl4 _).mono ?_
                rintro e w6 ⟨rfl, rfl⟩
                rw [HNR.out]
                go_wp2_with fail
                go_roundw
                case rel => exact ⟨k + 1, a + j, ⟨numD ((s.drop a).take j), rm, rdd, (s.drop a).drop j⟩, by omega, by go_num, by go_num, by omega, Lib.hid (HN.out.trans HST.out), Lib.hid (by dsimp only; rw [List.drop_drop]), Lib.hid (by rw [heap_self HBX.out]; rfl), Lib.hid (by rw [heap_other (by omega)]; exact HGB.out), Lib.hid (HBW.out.setCell (p := ⟨w2.heap.size, _, none⟩) HSZ.out _)⟩
                case measure => simp [intOf]; omega
            · have hM' : (a : Int) + 4 ≤ ((a + j : Nat) : Int) := by omega
              have hte := take_end (t := [89, 89, 89, 89]) (s := s.drop a) (k := j) (by simp; omega) (by simp; omega) HD.out (.inr (.inl (by simp; omega)))
              have HTE := Lib.hid hte
              have HST : Hid (stepR ⟨ry, rm, rdd, rr⟩ [89, 89, 89, 89] = ⟨numD ((s.drop a).take j), rm, rdd, (s.drop a).drop j⟩) := Lib.hid (by simp [stepR, show rr = s.drop a from HRR.out, hte.1, hte.2])
              have x4 := ext_tok s a j (by omega)
              have HNR := Lib.hid (numR_all HD.out)
              have hl4 : ((s.drop a).take j).length ≤ 4 := by simp; omega
              clear hte
              go_wp2_with fail
              refine (rnumber_any _ hl4 _).mono ?_
              rintro e w6 ⟨rfl, rfl⟩
              rw [HNR.out]
              go_wp2_with fail
              go_roundw
              case rel => exact ⟨k + 1, a + j, ⟨numD ((s.drop a).take j), rm, rdd, (s.drop a).drop j⟩, by omega, by go_num, by go_num, by omega, Lib.hid (HN.out.trans HST.out), Lib.hid (by dsimp only; rw [List.drop_drop]), Lib.hid (by rw [heap_self HBX.out]; rfl), Lib.hid (by rw [heap_other (by omega)]; exact HGB.out), Lib.hid (HBW.out.setCell (p := ⟨w2.heap.size, _, none⟩) HSZ.out _)⟩
              case measure => simp [intOf]; omega
          · have h1' : (s.length : Int) ≤ ((a + j : Nat) : Int) := by omega
            have hte := take_end (t := [89, 89, 89, 89]) (s := s.drop a) (k := j) (by simp; omega) (by simp; omega) HD.out (.inl (by simp; omega))
            have HTE := Lib.hid hte
            have HST : Hid (stepR ⟨ry, rm, rdd, rr⟩ [89, 89, 89, 89] = ⟨numD ((s.drop a).take j), rm, rdd, (s.drop a).drop j⟩) := Lib.hid (by simp [stepR, show rr = s.drop a from HRR.out, hte.1, hte.2])
            have x4 := ext_tok s a j (by omega)
            have HNR := Lib.hid (numR_all HD.out)
            have hl4 : ((s.drop a).take j).length ≤ 4 := by simp; omega
            clear hte
            go_wp2_with fail
            refine (rnumber_any _ hl4 _).mono ?_
            rintro e w6 ⟨rfl, rfl⟩
            rw [HNR.out]
            go_wp2_with fail
            go_roundw
            case rel => exact ⟨k + 1, a + j, ⟨numD ((s.drop a).take j), rm, rdd, (s.drop a).drop j⟩, by omega, by go_num, by go_num, by omega, Lib.hid (HN.out.trans HST.out), Lib.hid (by dsimp only; rw [List.drop_drop]), Lib.hid (by rw [heap_self HBX.out]; rfl), Lib.hid (by rw [heap_other (by omega)]; exact HGB.out), Lib.hid (HBW.out.setCell (p := ⟨w2.heap.size, _, none⟩) HSZ.out _)⟩
            case measure => simp [intOf]; omega
      · have HN := Lib.hid (read_next HT.out hlt ht)
        by_cases hal : a ≤ s.length
        case neg =>
          have HF : Hid (readOk L s = false) := Lib.hid (read_past HT.out hlt (by rw [HRR.out]; exact List.drop_eq_nil_of_le (by omega)) ht (by simp))
          have hal' : (s.length : Int) < (a : Int) := by omega
          clear ht HNY
          go_wp2_with fail
          refine wp_loop_rounds 1 ?_
          rw [rounds_succ]
          go_wp2_with fail
          go_ret2
          refine ⟨?_, HBW.out⟩
          rw [show readN L s = 0 by simp [readN, HF.out], HF.out]; rfl
        clear ht HNY
        go_wp2_with fail
        go_loopw [12] (fun e wr' => wr = wr' ∧ ∃ j : Nat, e = .int .i64 ((a + j : Nat) : Int) ∧ j ≤ 2 ∧ a + j ≤ s.length ∧ Hid (∀ c ∈ (s.drop a).take j, isD c = true)) (fun e _ => a + 2 - (intOf e).toNat)
        case atStart => exact ⟨rfl, 0, rfl, by omega, by omega, Lib.hid (by simp)⟩
        case round =>
          obtain ⟨rfl, j, rfl, hjM, hjs, HD⟩ := hrel
          by_cases h1 : a + j < s.length
          · have h1' : ((a + j : Nat) : Int) < (s.length : Int) := by omega
            have hgd := get_data s (a + j) h1
            have hcb : s[a + j].toNat < 256 := s[a + j].toNat_lt
            by_cases hM : j < 2
            · have hM' : ((a + j : Nat) : Int) < (a : Int) + 2 := by omega
              by_cases hlo : (48 : Int) ≤ (s[a + j].toNat : Int)
              · by_cases hhi : (s[a + j].toNat : Int) ≤ 57
                · have HDN : Hid (∀ c ∈ (s.drop a).take (j + 1), isD c = true) := Lib.hid (take_isD_succ (by simp; omega) HD.out (by rw [drop_get h1]; exact isD_mk hlo hhi))
                  go_wp2_with fail
                  go_roundw
                  case rel => exact ⟨trivial, j + 1, by go_num, by omega, by omega, HDN⟩
                  case measure => simp [intOf]; omega
                · have hte := take_end (t := [77, 77]) (s := s.drop a) (k := j) (by simp; omega) (by simp; omega) HD.out (.inr (.inr ⟨by simp; omega, by rw [drop_get h1]; exact isD_gt (by omega)⟩))
                  have HTE := Lib.hid hte
                  have HST : Hid (stepR ⟨ry, rm, rdd, rr⟩ [77, 77] = ⟨ry, numD ((s.drop a).take j), rdd, (s.drop a).drop j⟩) := Lib.hid (by simp [stepR, show rr = s.drop a from HRR.out, hte.1, hte.2])
                  have x4 := ext_tok s a j (by omega)
                  have HNR := Lib.hid (numR_all HD.out)
                  have hl4 : ((s.drop a).take j).length ≤ 4 := by simp; omega
                  clear hte
                  go_wp2_with fail
                  refine (rnumber_any _ hl4 _).mono ?_
                  rintro e w6 ⟨rfl, rfl⟩
                  rw [HNR.out]
                  go_wp2_with fail
                  go_roundw
                  case rel => exact ⟨k + 1, a + j, ⟨ry, numD ((s.drop a).take j), rdd, (s.drop a).drop j⟩, by omega, by go_num, by go_num, by omega, Lib.hid (HN.out.trans HST.out), Lib.hid (by dsimp only; rw [List.drop_drop]), Lib.hid (by rw [heap_self HBX.out]; rfl), Lib.hid (by rw [heap_other (by omega)]; exact HGB.out), Lib.hid (HBW.out.setCell (p := ⟨w2.heap.size, _, none⟩) HSZ.out _)⟩
                  case measure => simp [intOf]; omega
              · have hte := take_end (t := [77, 77]) (s := s.drop a) (k := j) (by simp; omega) (by simp; omega) HD.out (.inr (.inr ⟨by simp; omega, by rw [drop_get h1]; exact isD_lt (by omega)⟩))
                have HTE := Lib.hid hte
                have HST : Hid (stepR ⟨ry, rm, rdd, rr⟩ [77, 77] = ⟨ry, numD ((s.drop a).take j), rdd, (s.drop a).drop j⟩) := Lib.hid (by simp [stepR, show rr = s.drop a from HRR.out, hte.1, hte.2])
                have x4 := ext_tok s a j (by omega)
                have HNR := Lib.hid (numR_all HD.out)
                have hl4 : ((s.drop a).take j).length ≤ 4 := by simp; omega
                clear hte
                go_wp2_with fail
                refine (rnumber_any _ hl4 _).mono ?_
                rintro e w6 ⟨rfl, rfl⟩
                rw [HNR.out]
                go_wp2_with fail
                go_roundw
                case rel => exact ⟨k + 1, a + j, ⟨ry, numD ((s.drop a).take j), rdd, (s.drop a).drop j⟩, by omega, by go_num, by go_num, by omega, Lib.hid (HN.out.trans HST.out), Lib.hid (by dsimp only; rw [List.drop_drop]), Lib.hid (by rw [heap_self HBX.out]; rfl), Lib.hid (by rw [heap_other (by omega)]; exact HGB.out), Lib.hid (HBW.out.setCell (p := ⟨w2.heap.size, _, none⟩) HSZ.out _)⟩
                case measure => simp [intOf]; omega
            · have hM' : (a : Int) + 2 ≤ ((a + j : Nat) : Int) := by omega
              have hte := take_end (t := [77, 77]) (s := s.drop a) (k := j) (by simp; omega) (by simp; omega) HD.out (.inr (.inl (by simp; omega)))
              have HTE := Lib.hid hte
              have HST : Hid (stepR ⟨ry, rm, rdd, rr⟩ [77, 77] = ⟨ry, numD ((s.drop a).take j), rdd, (s.drop a).drop j⟩) := Lib.hid (by simp [stepR, show rr = s.drop a from HRR.out, hte.1, hte.2])
              have x4 := ext_tok s a j (by omega)
              have HNR := Lib.hid (numR_all HD.out)
              have hl4 : ((s.drop a).take j).length ≤ 4 := by simp; omega
              clear hte
              go_wp2_with fail
              refine (rnumber_any _ hl4 _).mono ?_
              rintro e w6 ⟨rfl, rfl⟩
              rw [HNR.out]
              go_wp2_with fail
              go_roundw
              case rel => exact ⟨k + 1, a + j, ⟨ry, numD ((s.drop a).take j), rdd, (s.drop a).drop j⟩, by omega, by go_num, by go_num, by omega, Lib.hid (HN.out.trans HST.out), Lib.hid (by dsimp only; rw [List.drop_drop]), Lib.hid (by rw [heap_self HBX.out]; rfl), Lib.hid (by rw [heap_other (by omega)]; exact HGB.out), Lib.hid (HBW.out.setCell (p := ⟨w2.heap.size, _, none⟩) HSZ.out _)⟩
              case measure => simp [intOf]; omega
          · have h1' : (s.length : Int) ≤ ((a + j : Nat) : Int) := by omega
            have hte := take_end (t := [77, 77]) (s := s.drop a) (k := j) (by simp; omega) (by simp; omega) HD.out (.inl (by simp; omega))
            have HTE := Lib.hid hte
            have HST : Hid (stepR ⟨ry, rm, rdd, rr⟩ [77, 77] = ⟨ry, numD ((s.drop a).take j), rdd, (s.drop a).drop j⟩) := Lib.hid (by simp [stepR, show rr = s.drop a from HRR.out, hte.1, hte.2])
            have x4 := ext_tok s a j (by omega)
            have HNR := Lib.hid (numR_all HD.out)
            have hl4 : ((s.drop a).take j).length ≤ 4 := by simp; omega
            clear hte
            go_wp2_with fail
            refine (rnumber_any _ hl4 _).mono ?_
            rintro e w6 ⟨rfl, rfl⟩
            rw [HNR.out]
            go_wp2_with fail
            go_roundw
            case rel => exact ⟨k + 1, a + j, ⟨ry, numD ((s.drop a).take j), rdd, (s.drop a).drop j⟩, by omega, by go_num, by go_num, by omega, Lib.hid (HN.out.trans HST.out), Lib.hid (by dsimp only; rw [List.drop_drop]), Lib.hid (by rw [heap_self HBX.out]; rfl), Lib.hid (by rw [heap_other (by omega)]; exact HGB.out), Lib.hid (HBW.out.setCell (p := ⟨w2.heap.size, _, none⟩) HSZ.out _)⟩
            case measure => simp [intOf]; omega
      · have HN := Lib.hid (read_next HT.out hlt ht)
        by_cases hal : a ≤ s.length
        case neg =>
          have HF : Hid (readOk L s = false) := Lib.hid (read_past HT.out hlt (by rw [HRR.out]; exact List.drop_eq_nil_of_le (by omega)) ht (by simp))
          have hal' : (s.length : Int) < (a : Int) := by omega
          clear ht HNY
          go_wp2_with fail
          refine wp_loop_rounds 1 ?_
          rw [rounds_succ]
          go_wp2_with fail
          go_ret2
          refine ⟨?_, HBW.out⟩
          rw [show readN L s = 0 by simp [readN, HF.out], HF.out]; rfl
        clear ht HNY
        go_wp2_with fail
        go_loopw [12] (fun e wr' => wr = wr' ∧ ∃ j : Nat, e = .int .i64 ((a + j : Nat) : Int) ∧ j ≤ 2 ∧ a + j ≤ s.length ∧ Hid (∀ c ∈ (s.drop a).take j, isD c = true)) (fun e _ => a + 2 - (intOf e).toNat)
        case atStart => exact ⟨rfl, 0, rfl, by omega, by omega, Lib.hid (by simp)⟩
        case round =>
          obtain ⟨rfl, j, rfl, hjM, hjs, HD⟩ := hrel
          by_cases h1 : a + j < s.length
          · have h1' : ((a + j : Nat) : Int) < (s.length : Int) := by omega
            have hgd := get_data s (a + j) h1
            have hcb : s[a + j].toNat < 256 := s[a + j].toNat_lt
            by_cases hM : j < 2
            · have hM' : ((a + j : Nat) : Int) < (a : Int) + 2 := by omega
              by_cases hlo : (48 : Int) ≤ (s[a + j].toNat : Int)
              · by_cases hhi : (s[a + j].toNat : Int) ≤ 57
                · have HDN : Hid (∀ c ∈ (s.drop a).take (j + 1), isD c = true) := Lib.hid (take_isD_succ (by simp; omega) HD.out (by rw [drop_get h1]; exact isD_mk hlo hhi))
                  go_wp2_with fail
                  go_roundw
                  case rel => exact ⟨trivial, j + 1, by go_num, by omega, by omega, HDN⟩
                  case measure => simp [intOf]; omega
                · have hte := take_end (t := [68, 68]) (s := s.drop a) (k := j) (by simp; omega) (by simp; omega) HD.out (.inr (.inr ⟨by simp; omega, by rw [drop_get h1]; exact isD_gt (by omega)⟩))
                  have HTE := Lib.hid hte
                  have HST : Hid (stepR ⟨ry, rm, rdd, rr⟩ [68, 68] = ⟨ry, rm, numD ((s.drop a).take j), (s.drop a).drop j⟩) := Lib.hid (by simp [stepR, show rr = s.drop a from HRR.out, hte.1, hte.2])
                  have x4 := ext_tok s a j (by omega)
                  have HNR := Lib.hid (numR_all HD.out)
                  have hl4 : ((s.drop a).take j).length ≤ 4 := by simp; omega
                  clear hte
                  go_wp2_with fail
                  refine (rnumber_any _ hl4 _).mono ?_
                  rintro e w6 ⟨rfl, rfl⟩
                  rw [HNR.out]
                  go_wp2_with fail
                  go_roundw
                  case rel => exact ⟨k + 1, a + j, ⟨ry, rm, numD ((s.drop a).take j), (s.drop a).drop j⟩, by omega, by go_num, by go_num, by omega, Lib.hid (HN.out.trans HST.out), Lib.hid (by dsimp only; rw [List.drop_drop]), Lib.hid (by rw [heap_self HBX.out]; rfl), Lib.hid (by rw [heap_other (by omega)]; exact HGB.out), Lib.hid (HBW.out.setCell (p := ⟨w2.heap.size, _, none⟩) HSZ.out _)⟩
                  case measure => simp [intOf]; omega
              · have hte := take_end (t := [68, 68]) (s := s.drop a) (k := j) (by simp; omega) (by simp; omega) HD.out (.inr (.inr ⟨by simp; omega, by rw [drop_get h1]; exact isD_lt (by omega)⟩))
                have HTE := Lib.hid hte
                have HST : Hid (stepR ⟨ry, rm, rdd, rr⟩ [68, 68] = ⟨ry, rm, numD ((s.drop a).take j), (s.drop a).drop j⟩) := Lib.hid (by simp [stepR, show rr = s.drop a from HRR.out, hte.1, hte.2])
                have x4 := ext_tok s a j (by omega)
                have HNR := Lib.hid (numR_all HD.out)
                have hl4 : ((s.drop a).take j).length ≤ 4 := by simp; omega
                clear hte
                go_wp2_with fail
                refine (rnumber_any _ hl4 _).mono ?_
                rintro e w6 ⟨rfl, rfl⟩
                rw [HNR.out]
                go_wp2_with fail
                go_roundw
                case rel => exact ⟨k + 1, a + j, ⟨ry, rm, numD ((s.drop a).take j), (s.drop a).drop j⟩, by omega, by go_num, by go_num, by omega, Lib.hid (HN.out.trans HST.out), Lib.hid (by dsimp only; rw [List.drop_drop]), Lib.hid (by rw [heap_self HBX.out]; rfl), Lib.hid (by rw [heap_other (by omega)]; exact HGB.out), Lib.hid (HBW.out.setCell (p := ⟨w2.heap.size, _, none⟩) HSZ.out _)⟩
                case measure => simp [intOf]; omega
            · have hM' : (a : Int) + 2 ≤ ((a + j : Nat) : Int) := by omega
              have hte := take_end (t := [68, 68]) (s := s.drop a) (k := j) (by simp; omega) (by simp; omega) HD.out (.inr (.inl (by simp; omega)))
              have HTE := Lib.hid hte
              have HST : Hid (stepR ⟨ry, rm, rdd, rr⟩ [68, 68] = ⟨ry, rm, numD ((s.drop a).take j), (s.drop a).drop j⟩) := Lib.hid (by simp [stepR, show rr = s.drop a from HRR.out, hte.1, hte.2])
              have x4 := ext_tok s a j (by omega)
              have HNR := Lib.hid (numR_all HD.out)
              have hl4 : ((s.drop a).take j).length ≤ 4 := by simp; omega
              clear hte
              go_wp2_with fail
              refine (rnumber_any _ hl4 _).mono ?_
              rintro e w6 ⟨rfl, rfl⟩
              rw [HNR.out]
              go_wp2_with fail
              go_roundw
              case rel => exact ⟨k + 1, a + j, ⟨ry, rm, numD ((s.drop a).take j), (s.drop a).drop j⟩, by omega, by go_num, by go_num, by omega, Lib.hid (HN.out.trans HST.out), Lib.hid (by dsimp only; rw [List.drop_drop]), Lib.hid (by rw [heap_self HBX.out]; rfl), Lib.hid (by rw [heap_other (by omega)]; exact HGB.out), Lib.hid (HBW.out.setCell (p := ⟨w2.heap.size, _, none⟩) HSZ.out _)⟩
              case measure => simp [intOf]; omega
          · have h1' : (s.length : Int) ≤ ((a + j : Nat) : Int) := by omega
            have hte := take_end (t := [68, 68]) (s := s.drop a) (k := j) (by simp; omega) (by simp; omega) HD.out (.inl (by simp; omega))
            have HTE := Lib.hid hte
            have HST : Hid (stepR ⟨ry, rm, rdd, rr⟩ [68, 68] = ⟨ry, rm, numD ((s.drop a).take j), (s.drop a).drop j⟩) := Lib.hid (by simp [stepR, show rr = s.drop a from HRR.out, hte.1, hte.2])
            have x4 := ext_tok s a j (by omega)
            have HNR := Lib.hid (numR_all HD.out)
            have hl4 : ((s.drop a).take j).length ≤ 4 := by simp; omega
            clear hte
            go_wp2_with fail
            refine (rnumber_any _ hl4 _).mono ?_
            rintro e w6 ⟨rfl, rfl⟩
            rw [HNR.out]
            go_wp2_with fail
            go_roundw
            case rel => exact ⟨k + 1, a + j, ⟨ry, rm, numD ((s.drop a).take j), (s.drop a).drop j⟩, by omega, by go_num, by go_num, by omega, Lib.hid (HN.out.trans HST.out), Lib.hid (by dsimp only; rw [List.drop_drop]), Lib.hid (by rw [heap_self HBX.out]; rfl), Lib.hid (by rw [heap_other (by omega)]; exact HGB.out), Lib.hid (HBW.out.setCell (p := ⟨w2.heap.size, _, none⟩) HSZ.out _)⟩
            case measure => simp [intOf]; omega
      · by_cases e77 : c = 77
        · subst e77
          have HN := Lib.hid (read_next HT.out hlt ht)
          by_cases hal : a ≤ s.length
          case neg =>
            have HF : Hid (readOk L s = false) := Lib.hid (read_past HT.out hlt (by rw [HRR.out]; exact List.drop_eq_nil_of_le (by omega)) ht (by simp))
            have hal' : (s.length : Int) < (a : Int) := by omega
            clear ht HNY
            go_wp2_with fail
            refine wp_loop_rounds 1 ?_
            rw [rounds_succ]
            go_wp2_with fail
            go_ret2
            refine ⟨?_, HBW.out⟩
            rw [show readN L s = 0 by simp [readN, HF.out], HF.out]; rfl
          clear ht HNY
          go_wp2_with fail
          go_loopw [12] (fun e wr' => wr = wr' ∧ ∃ j : Nat, e = .int .i64 ((a + j : Nat) : Int) ∧ j ≤ 2 ∧ a + j ≤ s.length ∧ Hid (∀ c ∈ (s.drop a).take j, isD c = true)) (fun e _ => a + 2 - (intOf e).toNat)
          case atStart => exact ⟨rfl, 0, rfl, by omega, by omega, Lib.hid (by simp)⟩
          case round =>
            obtain ⟨rfl, j, rfl, hjM, hjs, HD⟩ := hrel
            by_cases h1 : a + j < s.length
            · have h1' : ((a + j : Nat) : Int) < (s.length : Int) := by omega
              have hgd := get_data s (a + j) h1
              have hcb : s[a + j].toNat < 256 := s[a + j].toNat_lt
              by_cases hM : j < 2
              · have hM' : ((a + j : Nat) : Int) < (a : Int) + 2 := by omega
                by_cases hlo : (48 : Int) ≤ (s[a + j].toNat : Int)
                · by_cases hhi : (s[a + j].toNat : Int) ≤ 57
                  · have HDN : Hid (∀ c ∈ (s.drop a).take (j + 1), isD c = true) := Lib.hid (take_isD_succ (by simp; omega) HD.out (by rw [drop_get h1]; exact isD_mk hlo hhi))
                    go_wp2_with fail
                    go_roundw
                    case rel => exact ⟨trivial, j + 1, by go_num, by omega, by omega, HDN⟩
                    case measure => simp [intOf]; omega
                  · have hte := take_end (t := [77]) (s := s.drop a) (k := j) (by simp; omega) (by simp; omega) HD.out (.inr (.inr ⟨by simp; omega, by rw [drop_get h1]; exact isD_gt (by omega)⟩))
                    have HTE := Lib.hid hte
                    have HST : Hid (stepR ⟨ry, rm, rdd, rr⟩ [77] = ⟨ry, numD ((s.drop a).take j), rdd, (s.drop a).drop j⟩) := Lib.hid (by simp [stepR, show rr = s.drop a from HRR.out, hte.1, hte.2])
                    have x4 := ext_tok s a j (by omega)
                    have HNR := Lib.hid (numR_all HD.out)
                    have hl4 : ((s.drop a).take j).length ≤ 4 := by simp; omega
                    clear hte
                    go_wp2_with fail
                    refine (rnumber_any _ hl4 _).mono ?_
                    rintro e w6 ⟨rfl, rfl⟩
                    rw [HNR.out]
                    go_wp2_with fail
                    go_roundw
                    case rel => exact ⟨k + 1, a + j, ⟨ry, numD ((s.drop a).take j), rdd, (s.drop a).drop j⟩, by omega, by go_num, by go_num, by omega, Lib.hid (HN.out.trans HST.out), Lib.hid (by dsimp only; rw [List.drop_drop]), Lib.hid (by rw [heap_self HBX.out]; rfl), Lib.hid (by rw [heap_other (by omega)]; exact HGB.out), Lib.hid (HBW.out.setCell (p := ⟨w2.heap.size, _, none⟩) HSZ.out _)⟩
                    case measure => simp [intOf]; omega
                · have hte := take_end (t := [77]) (s := s.drop a) (k := j) (by simp; omega) (by simp; omega) HD.out (.inr (.inr ⟨by simp; omega, by rw [drop_get h1]; exact isD_lt (by omega)⟩))
                  have HTE := Lib.hid hte
                  have HST : Hid (stepR ⟨ry, rm, rdd, rr⟩ [77] = ⟨ry, numD ((s.drop a).take j), rdd, (s.drop a).drop j⟩) := Lib.hid (by simp [stepR, show rr = s.drop a from HRR.out, hte.1, hte.2])
                  have x4 := ext_tok s a j (by omega)
                  have HNR := Lib.hid (numR_all HD.out)
                  have hl4 : ((s.drop a).take j).length ≤ 4 := by simp; omega
                  clear hte
                  go_wp2_with fail
                  refine (rnumber_any _ hl4 _).mono ?_
                  rintro e w6 ⟨rfl, rfl⟩
                  rw [HNR.out]
                  go_wp2_with fail
                  go_roundw
                  case rel => exact ⟨k + 1, a + j, ⟨ry, numD ((s.drop a).take j), rdd, (s.drop a).drop j⟩, by omega, by go_num, by go_num, by omega, Lib.hid (HN.out.trans HST.out), Lib.hid (by dsimp only; rw [List.drop_drop]), Lib.hid (by rw [heap_self HBX.out]; rfl), Lib.hid (by rw [heap_other (by omega)]; exact HGB.out), Lib.hid (HBW.out.setCell (p := ⟨w2.heap.size, _, none⟩) HSZ.out _)⟩
                  case measure => simp [intOf]; omega
              · have hM' : (a : Int) + 2 ≤ ((a + j : Nat) : Int) := by omega
                have hte := take_end (t := [77]) (s := s.drop a) (k := j) (by simp; omega) (by simp; omega) HD.out (.inr (.inl (by simp; omega)))
                have HTE := Lib.hid hte
                have HST : Hid (stepR ⟨ry, rm, rdd, rr⟩ [77] = ⟨ry, numD ((s.drop a).take j), rdd, (s.drop a).drop j⟩) := Lib.hid (by simp [stepR, show rr = s.drop a from HRR.out, hte.1, hte.2])
                have x4 := ext_tok s a j (by omega)
                have HNR := Lib.hid (numR_all HD.out)
                have hl4 : ((s.drop a).take j).length ≤ 4 := by simp; omega
                clear hte
                go_wp2_with fail
                refine (rnumber_any _ hl4 _).mono ?_
                rintro e w6 ⟨rfl, rfl⟩
                rw [HNR.out]
                go_wp2_with fail
                go_roundw
                case rel => exact ⟨k + 1, a + j, ⟨ry, numD ((s.drop a).take j), rdd, (s.drop a).drop j⟩, by omega, by go_num, by go_num, by omega, Lib.hid (HN.out.trans HST.out), Lib.hid (by dsimp only; rw [List.drop_drop]), Lib.hid (by rw [heap_self HBX.out]; rfl), Lib.hid (by rw [heap_other (by omega)]; exact HGB.out), Lib.hid (HBW.out.setCell (p := ⟨w2.heap.size, _, none⟩) HSZ.out _)⟩
                case measure => simp [intOf]; omega
            · have h1' : (s.length : Int) ≤ ((a + j : Nat) : Int) := by omega
              have hte := take_end (t := [77]) (s := s.drop a) (k := j) (by simp; omega) (by simp; omega) HD.out (.inl (by simp; omega))
              have HTE := Lib.hid hte
              have HST : Hid (stepR ⟨ry, rm, rdd, rr⟩ [77] = ⟨ry, numD ((s.drop a).take j), rdd, (s.drop a).drop j⟩) := Lib.hid (by simp [stepR, show rr = s.drop a from HRR.out, hte.1, hte.2])
              have x4 := ext_tok s a j (by omega)
              have HNR := Lib.hid (numR_all HD.out)
              have hl4 : ((s.drop a).take j).length ≤ 4 := by simp; omega
              clear hte
              go_wp2_with fail
              refine (rnumber_any _ hl4 _).mono ?_
              rintro e w6 ⟨rfl, rfl⟩
              rw [HNR.out]
              go_wp2_with fail
              go_roundw
              case rel => exact ⟨k + 1, a + j, ⟨ry, numD ((s.drop a).take j), rdd, (s.drop a).drop j⟩, by omega, by go_num, by go_num, by omega, Lib.hid (HN.out.trans HST.out), Lib.hid (by dsimp only; rw [List.drop_drop]), Lib.hid (by rw [heap_self HBX.out]; rfl), Lib.hid (by rw [heap_other (by omega)]; exact HGB.out), Lib.hid (HBW.out.setCell (p := ⟨w2.heap.size, _, none⟩) HSZ.out _)⟩
              case measure => simp [intOf]; omega
        by_cases e68 : c = 68
        · subst e68
          have HN := Lib.hid (read_next HT.out hlt ht)
          by_cases hal : a ≤ s.length
          case neg =>
            have HF : Hid (readOk L s = false) := Lib.hid (read_past HT.out hlt (by rw [HRR.out]; exact List.drop_eq_nil_of_le (by omega)) ht (by simp))
            have hal' : (s.length : Int) < (a : Int) := by omega
            clear ht HNY
            go_wp2_with fail
            refine wp_loop_rounds 1 ?_
            rw [rounds_succ]
            go_wp2_with fail
            go_ret2
            refine ⟨?_, HBW.out⟩
            rw [show readN L s = 0 by simp [readN, HF.out], HF.out]; rfl
          clear ht HNY
          go_wp2_with fail
          go_loopw [12] (fun e wr' => wr = wr' ∧ ∃ j : Nat, e = .int .i64 ((a + j : Nat) : Int) ∧ j ≤ 2 ∧ a + j ≤ s.length ∧ Hid (∀ c ∈ (s.drop a).take j, isD c = true)) (fun e _ => a + 2 - (intOf e).toNat)
          case atStart => exact ⟨rfl, 0, rfl, by omega, by omega, Lib.hid (by simp)⟩
          case round =>
            obtain ⟨rfl, j, rfl, hjM, hjs, HD⟩ := hrel
            by_cases h1 : a + j < s.length
            · have h1' : ((a + j : Nat) : Int) < (s.length : Int) := by omega
              have hgd := get_data s (a + j) h1
              have hcb : s[a + j].toNat < 256 := s[a + j].toNat_lt
              by_cases hM : j < 2
              · have hM' : ((a + j : Nat) : Int) < (a : Int) + 2 := by omega
                by_cases hlo : (48 : Int) ≤ (s[a + j].toNat : Int)
                · by_cases hhi : (s[a + j].toNat : Int) ≤ 57
                  · have HDN : Hid (∀ c ∈ (s.drop a).take (j + 1), isD c = true) := Lib.hid (take_isD_succ (by simp; omega) HD.out (by rw [drop_get h1]; exact isD_mk hlo hhi))
                    go_wp2_with fail
                    go_roundw
                    case rel => exact ⟨trivial, j + 1, by go_num, by omega, by omega, HDN⟩
                    case measure => simp [intOf]; omega
                  · have hte := take_end (t := [68]) (s := s.drop a) (k := j) (by simp; omega) (by simp; omega) HD.out (.inr (.inr ⟨by simp; omega, by rw [drop_get h1]; exact isD_gt (by omega)⟩))
                    have HTE := Lib.hid hte
                    have HST : Hid (stepR ⟨ry, rm, rdd, rr⟩ [68] = ⟨ry, rm, numD ((s.drop a).take j), (s.drop a).drop j⟩) := Lib.hid (by simp [stepR, show rr = s.drop a from HRR.out, hte.1, hte.2])
                    have x4 := ext_tok s a j (by omega)
                    have HNR := Lib.hid (numR_all HD.out)
                    have hl4 : ((s.drop a).take j).length ≤ 4 := by simp; omega
                    clear hte
                    go_wp2_with fail
                    refine (rnumber_any _ hl4 _).mono ?_
                    rintro e w6 ⟨rfl, rfl⟩
                    rw [HNR.out]
                    go_wp2_with fail
                    go_roundw
                    case rel => exact ⟨k + 1, a + j, ⟨ry, rm, numD ((s.drop a).take j), (s.drop a).drop j⟩, by omega, by go_num, by go_num, by omega, Lib.hid (HN.out.trans HST.out), Lib.hid (by dsimp only; rw [List.drop_drop]), Lib.hid (by rw [heap_self HBX.out]; rfl), Lib.hid (by rw [heap_other (by omega)]; exact HGB.out), Lib.hid (HBW.out.setCell (p := ⟨w2.heap.size, _, none⟩) HSZ.out _)⟩
                    case measure => simp [intOf]; omega
                · have hte := take_end (t := [68]) (s := s.drop a) (k := j) (by simp; omega) (by simp; omega) HD.out (.inr (.inr ⟨by simp; omega, by rw [drop_get h1]; exact isD_lt (by omega)⟩))
                  have HTE := Lib.hid hte
                  have HST : Hid (stepR ⟨ry, rm, rdd, rr⟩ [68] = ⟨ry, rm, numD ((s.drop a).take j), (s.drop a).drop j⟩) := Lib.hid (by simp [stepR, show rr = s.drop a from HRR.out, hte.1, hte.2])
                  have x4 := ext_tok s a j (by omega)
                  have HNR := Lib.hid (numR_all HD.out)
                  have hl4 : ((s.drop a).take j).length ≤ 4 := by simp; omega
                  clear hte
                  go_wp2_with fail
                  refine (rnumber_any _ hl4 _).mono ?_
                  rintro e w6 ⟨rfl, rfl⟩
                  rw [HNR.out]
                  go_wp2_with fail
                  go_roundw
                  case rel => exact ⟨k + 1, a + j, ⟨ry, rm, numD ((s.drop a).take j), (s.drop a).drop j⟩, by omega, by go_num, by go_num, by omega, Lib.hid (HN.out.trans HST.out), Lib.hid (by dsimp only; rw [List.drop_drop]), Lib.hid (by rw [heap_self HBX.out]; rfl), Lib.hid (by rw [heap_other (by omega)]; exact HGB.out), Lib.hid (HBW.out.setCell (p := ⟨w2.heap.size, _, none⟩) HSZ.out _)⟩
                  case measure => simp [intOf]; omega
              · have hM' : (a : Int) + 2 ≤ ((a + j : Nat) : Int) := by omega
                have hte := take_end (t := [68]) (s := s.drop a) (k := j) (by simp; omega) (by simp; omega) HD.out (.inr (.inl (by simp; omega)))
                have HTE := Lib.hid hte
                have HST : Hid (stepR ⟨ry, rm, rdd, rr⟩ [68] = ⟨ry, rm, numD ((s.drop a).take j), (s.drop a).drop j⟩) := Lib.hid (by simp [stepR, show rr = s.drop a from HRR.out, hte.1, hte.2])
                have x4 := ext_tok s a j (by omega)
                have HNR := Lib.hid (numR_all HD.out)
                have hl4 : ((s.drop a).take j).length ≤ 4 := by simp; omega
                clear hte
                go_wp2_with fail
                refine (rnumber_any _ hl4 _).mono ?_
                rintro e w6 ⟨rfl, rfl⟩
                rw [HNR.out]
                go_wp2_with fail
                go_roundw
                case rel => exact ⟨k + 1, a + j, ⟨ry, rm, numD ((s.drop a).take j), (s.drop a).drop j⟩, by omega, by go_num, by go_num, by omega, Lib.hid (HN.out.trans HST.out), Lib.hid (by dsimp only; rw [List.drop_drop]), Lib.hid (by rw [heap_self HBX.out]; rfl), Lib.hid (by rw [heap_other (by omega)]; exact HGB.out), Lib.hid (HBW.out.setCell (p := ⟨w2.heap.size, _, none⟩) HSZ.out _)⟩
                case measure => simp [intOf]; omega
            · have h1' : (s.length : Int) ≤ ((a + j : Nat) : Int) := by omega
              have hte := take_end (t := [68]) (s := s.drop a) (k := j) (by simp; omega) (by simp; omega) HD.out (.inl (by simp; omega))
              have HTE := Lib.hid hte
              have HST : Hid (stepR ⟨ry, rm, rdd, rr⟩ [68] = ⟨ry, rm, numD ((s.drop a).take j), (s.drop a).drop j⟩) := Lib.hid (by simp [stepR, show rr = s.drop a from HRR.out, hte.1, hte.2])
              have x4 := ext_tok s a j (by omega)
              have HNR := Lib.hid (numR_all HD.out)
              have hl4 : ((s.drop a).take j).length ≤ 4 := by simp; omega
              clear hte
              go_wp2_with fail
              refine (rnumber_any _ hl4 _).mono ?_
              rintro e w6 ⟨rfl, rfl⟩
              rw [HNR.out]
              go_wp2_with fail
              go_roundw
              case rel => exact ⟨k + 1, a + j, ⟨ry, rm, numD ((s.drop a).take j), (s.drop a).drop j⟩, by omega, by go_num, by go_num, by omega, Lib.hid (HN.out.trans HST.out), Lib.hid (by dsimp only; rw [List.drop_drop]), Lib.hid (by rw [heap_self HBX.out]; rfl), Lib.hid (by rw [heap_other (by omega)]; exact HGB.out), Lib.hid (HBW.out.setCell (p := ⟨w2.heap.size, _, none⟩) HSZ.out _)⟩
              case measure => simp [intOf]; omega
        have e89 : c ≠ 89 := fun h => HNY.out (by rw [h])
        have HN := Lib.hid (read_next HT.out hlt ht)
        have HST : Hid (stepR ⟨ry, rm, rdd, rr⟩ [c] = ⟨ry, rm, rdd, rr.drop 1⟩) := Lib.hid (by simp [stepR, e89, e77, e68])
        have f77 : (c == 77) = false := by simpa using e77
        have f68 : (c == 68) = false := by simpa using e68
        clear e77 e68 e89 ht HNY
        go_wp2_with fail
        go_roundw
        case rel => exact ⟨k + 1, a + 1, ⟨ry, rm, rdd, rr.drop 1⟩, by omega, by go_num, by go_num, by omega, Lib.hid (HN.out.trans HST.out), Lib.hid (by dsimp only; rw [HRR.out, List.drop_drop]), HBX, HGB, HBW⟩
        case measure => simp [intOf]; omega
    · have hge : ((tokens L).length : Int) ≤ (k : Int) := by omega
      have HE : Hid (readT (tokens L) s = ⟨ry, rm, rdd, rr⟩) := Lib.hid (by have := HT.out; rwa [show k = (tokens L).length by omega, List.take_length] at this)
      go_wp2_with fail
      refine (rNumber_any _ _ _ _).mono ?_
      rintro e w6 ⟨rfl, rfl⟩
      have hvv : validB ry rm rdd = true ∨ validB ry rm rdd = false := by cases validB ry rm rdd <;> simp
      rcases hvv with hv | hv
      case inr =>
        have HF : Hid (readOk L s = false) := Lib.hid (by simp [readOk, HE.out, hv])
        rw [hv]
        clear hv
        go_wp2_with fail
        go_ret2
        refine ⟨?_, HBW.out⟩
        rw [show readN L s = 0 by simp [readN, HF.out], HF.out]; rfl
      have HV := Lib.hid hv
      have HNV : Hid (numV ry rm rdd = num ry rm rdd) := Lib.hid (by simp [numV, hv])
      rw [hv, HNV.out]
      have hnb := num_bd hv
      have hcn := civ_num hv
      have hin : insideB (num ry rm rdd) = true := (inside_iff _).2 hnb
      have HFS : Hid (fmtS L (num ry rm rdd) = Txt.written ry rm rdd L) := Lib.hid (by
        have : fmtOk L (num ry rm rdd) = true := by simp [fmtOk, hin, HR.out]
        rw [fmtS, if_pos this, hcn.1, hcn.2.1, hcn.2.2])
      clear hv hcn hin
      go_wp2_with fail
      refine (rFormat_any L _ _).mono ?_
      rintro e w7 ⟨rfl, hb7⟩
      have HB7 := Lib.hid (HBW.out.trans (hb7.mono HBW.out.size))
      clear hb7
      rw [HFS.out]
      have hEE : (Txt.written ry rm rdd L == s) = true ∨ (Txt.written ry rm rdd L == s) = false := by cases (Txt.written ry rm rdd L == s) <;> simp
      rcases hEE with hE | hE
      case inr =>
        have HF : Hid (readOk L s = false) := Lib.hid (by simp only [readOk, HE.out, hE, Bool.and_false])
        go_wp2_with fail
        go_ret2
        refine ⟨?_, HB7.out⟩
        rw [show readN L s = 0 by simp [readN, HF.out], HF.out]; rfl
      have HF : Hid (readOk L s = true) := Lib.hid (by simp only [readOk, HE.out, hE, HR.out, HV.out, Bool.and_self])
      go_wp2_with fail
      go_ret2
      refine ⟨?_, HB7.out⟩
      rw [show readN L s = num ry rm rdd by simp only [readN, HF.out, HE.out, if_true], HF.out]; rfl
end Go.Proofs.Ytfoifnhakmfefaa
