/- The contract of the reference's Right; each theorem names its conditions. -/
import Derived.Test.YtfoifnhakmfefaaTxtQ
import Derived.Test.YtfoifnhakmfefaaRefD
namespace Go.Proofs.Ytfoifnhakmfefaa
open Go.RowKit Go.Shelf
open Cal Txt
set_option linter.unusedVariables false

theorem good_next {T : List (List UInt8)} {k : Nat} {s0 s s' : St} {t : List UInt8} (h : goodFrom s0 T = goodFrom s (T.drop k)) (hd : T.drop k = t :: T.drop (k + 1)) (hb : badTok s.op t = false) (hs : Txt.stepT s t = s') : goodFrom s0 T = goodFrom s' (T.drop (k + 1)) := by
  rw [h, hd]; simp [goodFrom, hb, hs]
theorem good_stop {T : List (List UInt8)} {k : Nat} {s0 s : St} {t : List UInt8} (h : goodFrom s0 T = goodFrom s (T.drop k)) (hd : T.drop k = t :: T.drop (k + 1)) (hb : badTok s.op t = true) : goodFrom s0 T = false := by
  rw [h, hd]; simp [goodFrom, hb]
theorem bad_single {c : UInt8} (h89 : c ≠ 89) (h : isD c = false ∧ 32 ≤ c.toNat ∧ c.toNat ≤ 126) (hk : kOf c = -1) : ∀ so, badTok so [c] = false := by
  intro so
  simp [badTok, h89, hk, show ¬ c.toNat < 32 by omega, show ¬ 126 < c.toNat by omega]
theorem take_no {L : List UInt8} {k : Nat} (h : ∀ c ∈ L.take k, isD c = false ∧ 32 ≤ c.toNat ∧ c.toNat ≤ 126) (hk : k < L.length) (hd : isD L[k] = false ∧ 32 ≤ L[k].toNat ∧ L[k].toNat ≤ 126) : ∀ c ∈ L.take (k + 1), isD c = false ∧ 32 ≤ c.toNat ∧ c.toNat ≤ 126 := by
  rw [List.take_succ_eq_append_getElem hk]
  intro c hc
  rcases List.mem_append.1 hc with h' | h'
  · exact h c h'
  · rw [List.mem_singleton.1 h']; exact hd
set_option maxHeartbeats 4000000 in
set_option maxRecDepth 100000 in
theorem rRight_any (L : List UInt8) (w : World) : Calls Try.prog 45 #[.string ⟨L.toArray⟩] w (Gives w (.bool (rightB L))) := by
  by_cases hl : (40 : Int) < (L.length : Int)
  · have HR : Hid (rightB L = false) := Lib.hid (by simp [rightB, show ¬ L.length ≤ 40 from by omega])
    go_enter Try.func45, Try.ntmps45
    go_wp2_with fail
    go_ret
    exact ⟨by rw [HR.out]; rfl, Below.refl _ _⟩
  have hl40 : L.length ≤ 40 := by omega
  go_enter Try.func45, Try.ntmps45
  go_wp2_with fail
  go_loopw [3] (fun i wr => w = wr ∧ ∃ k : Nat, k ≤ L.length ∧ i = .int .i64 (k : Int) ∧ Hid (∀ c ∈ L.take k, isD c = false ∧ 32 ≤ c.toNat ∧ c.toNat ≤ 126)) (fun i _ => L.length - (intOf i).toNat)
  case atStart => exact ⟨rfl, 0, by omega, rfl, Lib.hid (by simp)⟩
  case round =>
    obtain ⟨rfl, k, hk, rfl, HD⟩ := hrel
    by_cases hlt : k < L.length
    · have hlt' : (k : Int) < (L.length : Int) := by omega
      have hgd := get_data L k hlt
      have hb8 : L[k].toNat < 256 := L[k].toNat_lt
      have HM := Lib.hid (List.getElem_mem hlt)
      by_cases h32 : (L[k].toNat : Int) < 32
      · have HR := Lib.hid (not_right HM.out (.inl (by omega)))
        go_wp2_with fail
        go_ret
        exact ⟨by rw [HR.out]; rfl, Below.refl _ _⟩
      by_cases h126 : (126 : Int) < (L[k].toNat : Int)
      · have HR := Lib.hid (not_right HM.out (.inr (.inl (by omega))))
        go_wp2_with fail
        go_ret
        exact ⟨by rw [HR.out]; rfl, Below.refl _ _⟩
      by_cases h48 : (48 : Int) ≤ (L[k].toNat : Int)
      · by_cases h57 : (L[k].toNat : Int) ≤ 57
        · have HR := Lib.hid (not_right HM.out (.inr (.inr (isD_mk h48 h57))))
          go_wp2_with fail
          go_ret
          exact ⟨by rw [HR.out]; rfl, Below.refl _ _⟩
        · have HN := Lib.hid (take_no HD.out hlt ⟨isD_gt (by omega), by omega, by omega⟩)
          go_wp2_with fail
          go_roundw
          case rel => exact ⟨trivial, k + 1, by omega, by go_num, HN⟩
          case measure => simp [intOf]; omega
      · have HN := Lib.hid (take_no HD.out hlt ⟨isD_lt (by omega), by omega, by omega⟩)
        go_wp2_with fail
        go_roundw
        case rel => exact ⟨trivial, k + 1, by omega, by go_num, HN⟩
        case measure => simp [intOf]; omega
    · have HALL : Hid (∀ c ∈ L, isD c = false ∧ 32 ≤ c.toNat ∧ c.toNat ≤ 126) := Lib.hid (by have := HD.out; rwa [show k = L.length by omega, List.take_length] at this)
      have HG : Hid (rightB L = goodFrom ⟨0, 0, 0, false⟩ (tokens L)) := Lib.hid (right_of_bytes hl40 (fun c hc => (HALL.out c hc).1))
      have hge : (L.length : Int) ≤ (k : Int) := by omega
      go_wp2_with fail
      refine (rParts_any L (by omega) _).mono ?_
      rintro e W5 ⟨v, rfl, hown, hb5⟩
      have hlT : (strs (tokens L)).length = (tokens L).length := by simp [strs]
      have htl := tokens_len _ L (Nat.le_refl _)
      rcases hown.2 with ⟨rfl, hn0⟩ | ⟨g, cap, cur, rfl, hg, hgh, hnc, hcm, hcs, hct⟩
      · have ht0 : tokens L = [] := List.eq_nil_of_length_eq_zero (by rw [← hlT]; exact hn0)
        have HR := Lib.hid (show rightB L = false by rw [HG.out, ht0]; rfl)
        have HB5 := Lib.hid hb5
        clear hb5 hown hn0 ht0
        go_upto_region 12 with fail
        refine wp_loop_rounds 1 ?_
        rw [rounds_succ]
        go_wp2_with fail
        go_ret
        refine ⟨by rw [HR.out]; rfl, HB5.out.alloc HB5.out.size _⟩
      · have HB5 := Lib.hid hb5
        have hrow : ∀ j (hj : j < (tokens L).length), W5.cell? ⟨g, j, none⟩ = some (.string ⟨((tokens L)[j]).toArray⟩) := by
          intro j hj
          rw [Lib.cell_of_heap hgh]
          have e := congrArg (fun l => l[j]?) hct
          simp only [Nat.mul_one, List.getElem?_take] at e
          rw [hlT, if_pos hj] at e
          simpa [strs, hj] using e
        have HROW := Lib.hid hrow
        have HGH := Lib.hid hgh
        rw [hlT]
        clear hb5 hown hgh hct hrow hcs hnc
        go_wp2_with fail
        have hT := heap_alloc_new W5 (.cells #[.int .i64 0, .int .i64 0, .int .i64 0] 22)
        obtain ⟨W6, hW6⟩ : ∃ W6, W5.alloc (.cells #[.int .i64 0, .int .i64 0, .int .i64 0] 22) = W6 := ⟨_, rfl⟩
        rw [hW6] at hT ⊢
        have HT := Lib.hid hT
        have HB6 := Lib.hid (show Below W5.heap.size W5 W6 by rw [← hW6]; exact (Below.refl _ W5).alloc (Nat.le_refl _) _)
        have hg5 : g < W5.heap.size := (Array.getElem?_eq_some_iff.1 HGH.out).1
        clear hT hW6
        go_loopw [6, 7] (fun o i wr => ∃ (k : Nat) (s : St), k ≤ (tokens L).length ∧ i = .int .i64 (k : Int) ∧ o = .bool s.op ∧ Hid (wr.heap[W5.heap.size]? = some (.cells #[.int .i64 s.a, .int .i64 s.b, .int .i64 s.c] 22 (0, 0))) ∧ s.a ≤ k ∧ s.b ≤ k ∧ s.c ≤ k ∧
            Hid (goodFrom ⟨0, 0, 0, false⟩ (tokens L) = goodFrom s ((tokens L).drop k)) ∧ Hid (Below W5.heap.size W6 wr)) (fun _ i _ => (tokens L).length - (intOf i).toNat)
        case atStart => exact ⟨0, ⟨0, 0, 0, false⟩, by omega, rfl, rfl, HT, by simp, by simp, by simp, Lib.hid (by simp), Lib.hid (Below.refl _ _)⟩
        case round =>
          obtain ⟨k, s, hk', rfl, rfl, HBX, ha, hb, hc, HGO, HBW⟩ := hrel
          obtain ⟨sa, sb, sc, so⟩ := s
          dsimp only at HBX ha hb hc HGO
          have htl40 : (tokens L).length ≤ 40 := by omega
          have HBF := Lib.hid (HB5.out.trans ((HB6.out.trans (HBW.out.mono (Nat.le_refl _))).mono HB5.out.size))
          by_cases hlt : k < (tokens L).length
          · have hlt' : (k : Int) < ((tokens L).length : Int) := by omega
            have hgw : wr.cell? ⟨g, k, none⟩ = some (.string ⟨((tokens L)[k]).toArray⟩) := by
              rw [World.cell?_of_block (w := W5) ((HBW.out.block g hg5).trans (HB6.out.block g hg5))]
              exact HROW.out k hlt
            have c0 : wr.cell? ⟨W5.heap.size, 0, none⟩ = some (.int .i64 sa) := by rw [Lib.cell_of_heap HBX.out]; rfl
            have c1 : wr.cell? ⟨W5.heap.size, 1, none⟩ = some (.int .i64 sb) := by rw [Lib.cell_of_heap HBX.out]; rfl
            have c2 : wr.cell? ⟨W5.heap.size, 2, none⟩ = some (.int .i64 sc) := by rw [Lib.cell_of_heap HBX.out]; rfl
            have hz : ∀ j, wr.frozen? ⟨W5.heap.size, j, none⟩ = false := fun j => Lib.frozen_of_heap HBX.out j
            have hne : g ≠ W5.heap.size := Nat.ne_of_lt hg5
            have hne' : W5.heap.size ≠ g := Ne.symm hne
            have hx : IsTok (tokens L)[k] := tokens_isTok _ L (Nat.le_refl _) _ (List.getElem_mem hlt)
            have HD := Lib.hid (List.drop_eq_getElem_cons hlt)
            obtain ⟨t, ht⟩ : ∃ t, (tokens L)[k] = t := ⟨_, rfl⟩
            rw [ht] at hgw hx HD
            rcases hx with rfl | rfl | rfl | ⟨c, rfl⟩
            · clear ht
              cases so
              · go_wp2_with fail
                go_roundw
                case rel => exact ⟨k + 1, ⟨sa + 1, sb, sc, false⟩, by omega, by go_num, rfl, Lib.hid (by rw [heap_self HBX.out]; rfl), by simp; omega, by simp; omega, by simp; omega, Lib.hid (good_next HGO.out HD.out (show badTok false [89, 89, 89, 89] = false from by decide) (by simp [Txt.stepT, bump, kOf, opTok])), Lib.hid (HBW.out.setCell (p := ⟨W5.heap.size, 0, none⟩) (Nat.le_refl _) _)⟩
                case measure => simp [intOf]; omega
              · have HF := Lib.hid (good_stop HGO.out HD.out (show badTok true [89, 89, 89, 89] = true from by decide))
                go_wp2_with fail
                go_ret
                refine ⟨by rw [HG.out, HF.out]; rfl, ?_⟩
                first
                  | exact HBF.out
                  | exact HBF.out.setCell (p := ⟨W5.heap.size, _, none⟩) HB5.out.size _
            · clear ht
              cases so
              · go_wp2_with fail
                go_roundw
                case rel => exact ⟨k + 1, ⟨sa, sb + 1, sc, false⟩, by omega, by go_num, rfl, Lib.hid (by rw [heap_self HBX.out]; rfl), by simp; omega, by simp; omega, by simp; omega, Lib.hid (good_next HGO.out HD.out (show badTok false [77, 77] = false from by decide) (by simp [Txt.stepT, bump, kOf, opTok])), Lib.hid (HBW.out.setCell (p := ⟨W5.heap.size, 1, none⟩) (Nat.le_refl _) _)⟩
                case measure => simp [intOf]; omega
              · have HF := Lib.hid (good_stop HGO.out HD.out (show badTok true [77, 77] = true from by decide))
                go_wp2_with fail
                go_ret
                refine ⟨by rw [HG.out, HF.out]; rfl, ?_⟩
                first
                  | exact HBF.out
                  | exact HBF.out.setCell (p := ⟨W5.heap.size, _, none⟩) HB5.out.size _
            · clear ht
              cases so
              · go_wp2_with fail
                go_roundw
                case rel => exact ⟨k + 1, ⟨sa, sb, sc + 1, false⟩, by omega, by go_num, rfl, Lib.hid (by rw [heap_self HBX.out]; rfl), by simp; omega, by simp; omega, by simp; omega, Lib.hid (good_next HGO.out HD.out (show badTok false [68, 68] = false from by decide) (by simp [Txt.stepT, bump, kOf, opTok])), Lib.hid (HBW.out.setCell (p := ⟨W5.heap.size, 2, none⟩) (Nat.le_refl _) _)⟩
                case measure => simp [intOf]; omega
              · have HF := Lib.hid (good_stop HGO.out HD.out (show badTok true [68, 68] = true from by decide))
                go_wp2_with fail
                go_ret
                refine ⟨by rw [HG.out, HF.out]; rfl, ?_⟩
                first
                  | exact HBF.out
                  | exact HBF.out.setCell (p := ⟨W5.heap.size, _, none⟩) HB5.out.size _
            · by_cases e89 : c = 89
              · subst e89
                cases so
                · have HF := Lib.hid (good_stop HGO.out HD.out (show badTok false [89] = true from by decide))
                  go_wp2_with fail
                  go_ret
                  refine ⟨by rw [HG.out, HF.out]; rfl, ?_⟩
                  first
                    | exact HBF.out
                    | exact HBF.out.setCell (p := ⟨W5.heap.size, _, none⟩) HB5.out.size _
                · have HF := Lib.hid (good_stop HGO.out HD.out (show badTok true [89] = true from by decide))
                  go_wp2_with fail
                  go_ret
                  refine ⟨by rw [HG.out, HF.out]; rfl, ?_⟩
                  first
                    | exact HBF.out
                    | exact HBF.out.setCell (p := ⟨W5.heap.size, _, none⟩) HB5.out.size _
              by_cases e77 : c = 77
              · subst e77
                cases so
                · go_wp2_with fail
                  go_roundw
                  case rel => exact ⟨k + 1, ⟨sa, sb + 1, sc, true⟩, by omega, by go_num, rfl, Lib.hid (by rw [heap_self HBX.out]; rfl), by simp; omega, by simp; omega, by simp; omega, Lib.hid (good_next HGO.out HD.out (show badTok false [77] = false from by decide) (by simp [Txt.stepT, bump, kOf, opTok])), Lib.hid (HBW.out.setCell (p := ⟨W5.heap.size, 1, none⟩) (Nat.le_refl _) _)⟩
                  case measure => simp [intOf]; omega
                · have HF := Lib.hid (good_stop HGO.out HD.out (show badTok true [77] = true from by decide))
                  go_wp2_with fail
                  go_ret
                  refine ⟨by rw [HG.out, HF.out]; rfl, ?_⟩
                  first
                    | exact HBF.out
                    | exact HBF.out.setCell (p := ⟨W5.heap.size, _, none⟩) HB5.out.size _
              by_cases e68 : c = 68
              · subst e68
                cases so
                · go_wp2_with fail
                  go_roundw
                  case rel => exact ⟨k + 1, ⟨sa, sb, sc + 1, true⟩, by omega, by go_num, rfl, Lib.hid (by rw [heap_self HBX.out]; rfl), by simp; omega, by simp; omega, by simp; omega, Lib.hid (good_next HGO.out HD.out (show badTok false [68] = false from by decide) (by simp [Txt.stepT, bump, kOf, opTok])), Lib.hid (HBW.out.setCell (p := ⟨W5.heap.size, 2, none⟩) (Nat.le_refl _) _)⟩
                  case measure => simp [intOf]; omega
                · have HF := Lib.hid (good_stop HGO.out HD.out (show badTok true [68] = true from by decide))
                  go_wp2_with fail
                  go_ret
                  refine ⟨by rw [HG.out, HF.out]; rfl, ?_⟩
                  first
                    | exact HBF.out
                    | exact HBF.out.setCell (p := ⟨W5.heap.size, _, none⟩) HB5.out.size _
              have hk9 : kOf c = -1 := by simp [kOf, e89, e77, e68]
              have HBAD := Lib.hid (bad_single (c := c) e89 (HALL.out c (by
                have hm : [c] ∈ tokens L := by rw [← ht]; exact List.getElem_mem hlt
                exact toks_mem _ _ [c] hm c (by simp))) hk9)
              have HST := Lib.hid (fun so => (show Txt.stepT ⟨sa, sb, sc, so⟩ [c] = ⟨sa, sb, sc, false⟩ by simp [Txt.stepT, bump, hk9, opTok, e77, e68]))
              have f89 : (c == 89) = false := by simpa using e89
              have f77 : (c == 77) = false := by simpa using e77
              have f68 : (c == 68) = false := by simpa using e68
              clear e89 e77 e68 hk9 ht
              cases so
              · go_wp2_with fail
                go_roundw
                case rel => exact ⟨k + 1, ⟨sa, sb, sc, false⟩, by omega, by go_num, rfl, HBX, by simp; omega, by simp; omega, by simp; omega, Lib.hid (good_next HGO.out HD.out (HBAD.out false) (HST.out false)), HBW⟩
                case measure => simp [intOf]; omega
              · go_wp2_with fail
                go_roundw
                case rel => exact ⟨k + 1, ⟨sa, sb, sc, false⟩, by omega, by go_num, rfl, HBX, by simp; omega, by simp; omega, by simp; omega, Lib.hid (good_next HGO.out HD.out (HBAD.out true) (HST.out true)), HBW⟩
                case measure => simp [intOf]; omega
          · have hge : ((tokens L).length : Int) ≤ (k : Int) := by omega
            have c0 : wr.cell? ⟨W5.heap.size, 0, none⟩ = some (.int .i64 sa) := by rw [Lib.cell_of_heap HBX.out]; rfl
            have c1 : wr.cell? ⟨W5.heap.size, 1, none⟩ = some (.int .i64 sb) := by rw [Lib.cell_of_heap HBX.out]; rfl
            have c2 : wr.cell? ⟨W5.heap.size, 2, none⟩ = some (.int .i64 sc) := by rw [Lib.cell_of_heap HBX.out]; rfl
            have HE := Lib.hid (show rightB L = (sa == 1 && sb == 1 && sc == 1) by rw [HG.out, HGO.out, List.drop_eq_nil_of_le (by omega)]; rfl)
            have e1 : ∀ n : Nat, ((n : Int) == 1) = (n == 1) := fun n => by
              rw [Bool.eq_iff_iff, beq_iff_eq, beq_iff_eq]; omega
            have E1 := Lib.hid e1
            clear e1
            by_cases p1 : sa = 1
            · subst p1
              by_cases p2 : sb = 1
              · subst p2
                go_wp2_with fail
                go_ret
                refine ⟨?_, HBF.out⟩
                rw [HE.out, ← E1.out sc]; rfl
              · have q2 : ((sb : Int) == 1) = false := by rw [E1.out]; simpa using p2
                have q2' : (sb == 1) = false := by simpa using p2
                clear p2
                go_wp2_with fail
                go_ret
                refine ⟨?_, HBF.out⟩
                rw [HE.out, q2']; rfl
            · have q1 : ((sa : Int) == 1) = false := by rw [E1.out]; simpa using p1
              have q1' : (sa == 1) = false := by simpa using p1
              clear p1
              go_wp2_with fail
              go_ret
              refine ⟨?_, HBF.out⟩
              rw [HE.out, q1']; rfl
end Go.Proofs.Ytfoifnhakmfefaa
