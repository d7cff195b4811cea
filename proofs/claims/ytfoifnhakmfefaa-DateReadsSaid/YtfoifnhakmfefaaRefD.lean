/- Contracts of the reference's Parts, Right, Format, Read; each theorem names its conditions. -/
import Derived.Test.YtfoifnhakmfefaaLayW
import Derived.Test.YtfoifnhakmfefaaRefC
namespace Go.Proofs.Ytfoifnhakmfefaa
open Go.RowKit Go.Shelf
open Cal Txt
set_option linter.unusedVariables false

theorem infoStr : (Try.prog.info? 9).map (fun i => (i.zero, i.size, i.bytes)) = some (some (.string ⟨#[]⟩), 1, 16) := by kernel_rfl
def strs (ts : List (List UInt8)) : List Value := ts.map fun t => .string ⟨t.toArray⟩
theorem ext_tok (L : List UInt8) (k n : Nat) (h : k + n ≤ L.length) : (⟨L.toArray⟩ : ByteArray).extract k (k + n) = ⟨((L.drop k).take n).toArray⟩ := by
  rw [ext_mid L k (k + n) h, List.drop_take]
  rw [show k + n - k = n by omega]
theorem cell_fresh1 (w : World) (x : Value) (t : TypeId) : ∀ (j : Nat) (u : Value), [x][j]? = some u → (w.alloc (.cells #[x] t)).cell? ((⟨w.heap.size, 0, none⟩ : Addr).add j) = some u := by
  intro j u hj
  match j, hj with
  | 0, hj => simp at hj; subst hj; simp [Addr.add]
theorem one_str (s : ByteArray) : ∀ u ∈ [Value.string s], u.oneCell' = true := by
  intro u hu; simp at hu; subst hu; rfl
theorem take_one_some {l : List UInt8} {k : Nat} (h : k < l.length) : ∃ c, (l.drop k).take 1 = [c] := by
  rw [List.drop_eq_getElem_cons h]; exact ⟨_, rfl⟩
theorem tok4 {r : List UInt8} (h : r.take 4 = [89, 89, 89, 89]) : r ≠ [] ∧ tokLen r = 4 ∧ r.take 4 = [89, 89, 89, 89] :=
  ⟨fun e => by subst e; simp at h, by simp [tokLen, h], h⟩
theorem tok2 {r t : List UInt8} (h4 : ¬ r.take 4 = [89, 89, 89, 89]) (h : r.take 2 = [77, 77] ∧ t = [77, 77] ∨ r.take 2 = [68, 68] ∧ t = [68, 68]) : r ≠ [] ∧ tokLen r = 2 ∧ r.take 2 = t := by
  rcases h with ⟨h, rfl⟩ | ⟨h, rfl⟩ <;> exact ⟨fun e => by subst e; simp at h, by simp [tokLen, h4, h], h⟩
theorem tok1 {r : List UInt8} {c : UInt8} (h4 : ¬ r.take 4 = [89, 89, 89, 89]) (h2 : ¬ r.take 2 = [77, 77]) (h3 : ¬ r.take 2 = [68, 68]) (h : r.take 1 = [c]) : r ≠ [] ∧ tokLen r = 1 ∧ r.take 1 = [c] :=
  ⟨fun e => by subst e; simp at h, by simp [tokLen, h4, h2, h3], h⟩
theorem tok_next {L t : List UInt8} {P : List (List UInt8)} {k n : Nat} (hT : tokens L = P ++ tokens (L.drop k)) (h : L.drop k ≠ [] ∧ tokLen (L.drop k) = n ∧ (L.drop k).take n = t) : tokens L = (P ++ [t]) ++ tokens (L.drop (k + n)) := by
  obtain ⟨h1, h2, h3⟩ := h
  rw [hT, tokens_cons _ h1, h2, h3, List.drop_drop]
  simp
theorem below_own_grown {B : Nat} {A W W' : World} {e : TypeId} {n : Nat} {v : Value} {xs : List Value} {o : Obj} (hb : Below B A W) (ho : W.ownsRow B e 1 v n xs) (hg : (W.alloc o).grownBy W' v.ownBlock) (hB : B ≤ A.heap.size) : Below B A W' := by
  refine (hb.alloc (Nat.le_trans hB hb.size) o).grown hg (Nat.le_trans hB (Nat.le_trans hb.size (by simp))) ?_
  intro g h
  rcases ho.2 with ⟨rfl, _⟩ | ⟨g', cap, cur, rfl, h1, _⟩
  · cases h
  · cases h; exact h1
set_option maxHeartbeats 4000000 in
set_option maxRecDepth 20000 in
theorem rParts_any (L : List UInt8) (hL : L.length ≤ 1000000) (w : World) :
    Calls Try.prog 46 #[.string ⟨L.toArray⟩] w fun e w' => ∃ v, e = .returned v ∧ w'.ownsRow w.heap.size 9 1 v (strs (tokens L)).length (strs (tokens L)) ∧ Below w.heap.size w w' := by
  obtain ⟨i0, hi, hz0, hz1, hz2⟩ := info_parts infoStr
  go_enter Try.func46, Try.ntmps46
  go_wp2_with fail
  go_loopw [3, 4] (fun v i wr => ∃ (k : Nat) (P : List (List UInt8)), k ≤ L.length ∧ i = .int .i64 (k : Int) ∧ Hid (tokens L = P ++ tokens (L.drop k)) ∧ P.length ≤ k ∧ Hid (wr.ownsRow w.heap.size 9 1 v (strs P).length (strs P)) ∧ Hid (Below w.heap.size w wr)) (fun _ i _ => L.length - (intOf i).toNat)
  case atStart => exact ⟨0, [], by omega, rfl, Lib.hid (by simp), by simp, Lib.hid (World.ownsRow_nil _ _ _ _), Lib.hid (Below.refl _ _)⟩
  case round =>
    obtain ⟨k, P, hk, rfl, HT, hp, HOWN, HB⟩ := hrel
    by_cases hlt : (k : Int) < (L.length : Int)
    · by_cases c4 : (L.drop k).take 4 = [89, 89, 89, 89]
      · have hk4 : k + 4 ≤ L.length := by
          have := congrArg List.length c4
          simp at this; omega
        have x4 := ext_tok L k 4 hk4
        rw [c4] at x4
        have C4 := Lib.hid c4
        clear c4
        go_wp2_with (first | (at_builtin; refine wpList_append_own _ rfl _ _ 43 rfl w.heap.size 9 i0 (.string ⟨#[]⟩) 1 16 Try.underlying43 hi hz0 hz1 hz2 rfl (by decide) _ _ _ rfl (HOWN.out.alloc _) ⟨wr.heap.size, 0, none⟩ 1 1 [.string ⟨#[89, 89, 89, 89]⟩] rfl rfl (cell_fresh1 wr _ _) (one_str _) (by simp [strs]; unfold maxLen; omega) (by simp [strs]; omega) (by have := HB.out.size; simp; omega) ?_; intro v' w1 hown' hgrow hnn; have HO' := Lib.hid hown'; have HG := Lib.hid hgrow; clear hown' hgrow hnn) | fail)
        go_roundw
        case rel => exact ⟨k + 4, P ++ [[89, 89, 89, 89]], by omega, by go_num, Lib.hid (tok_next (n := 4) HT.out (tok4 C4.out)), by simp; omega, Lib.hid (by simpa [strs] using HO'.out), Lib.hid (below_own_grown HB.out HOWN.out HG.out (Nat.le_refl _))⟩
        case measure => simp [intOf]; omega
      · have y4 : ((L.drop k).take 4 == [89, 89, 89, 89]) = false := beq_eq_false_iff_ne.2 c4
        have C4 := Lib.hid c4
        clear c4
        by_cases h4 : (k : Int) + 4 ≤ (L.length : Int)
        · have x4 := ext_tok L k 4 (by omega)
          by_cases c2 : (L.drop k).take 2 = [77, 77]
          · have hk2 : k + 2 ≤ L.length := by
              have := congrArg List.length c2
              simp at this; omega
            have x2 := ext_tok L k 2 hk2
            rw [c2] at x2
            have C2 := Lib.hid c2
            clear c2
            go_wp2_with (first | (at_builtin; refine wpList_append_own _ rfl _ _ 43 rfl w.heap.size 9 i0 (.string ⟨#[]⟩) 1 16 Try.underlying43 hi hz0 hz1 hz2 rfl (by decide) _ _ _ rfl (HOWN.out.alloc _) ⟨wr.heap.size, 0, none⟩ 1 1 [.string ⟨#[77, 77]⟩] rfl rfl (cell_fresh1 wr _ _) (one_str _) (by simp [strs]; unfold maxLen; omega) (by simp [strs]; omega) (by have := HB.out.size; simp; omega) ?_; intro v' w1 hown' hgrow hnn; have HO' := Lib.hid hown'; have HG := Lib.hid hgrow; clear hown' hgrow hnn) | fail)
            go_roundw
            case rel => exact ⟨k + 2, P ++ [[77, 77]], by omega, by go_num, Lib.hid (tok_next (n := 2) HT.out (tok2 C4.out (.inl ⟨C2.out, rfl⟩))), by simp; omega, Lib.hid (by simpa [strs] using HO'.out), Lib.hid (below_own_grown HB.out HOWN.out HG.out (Nat.le_refl _))⟩
            case measure => simp [intOf]; omega
          by_cases c3 : (L.drop k).take 2 = [68, 68]
          · clear c2
            have hk2 : k + 2 ≤ L.length := by
              have := congrArg List.length c3
              simp at this; omega
            have x2 := ext_tok L k 2 hk2
            rw [c3] at x2
            have C2 := Lib.hid c3
            clear c3
            go_wp2_with (first | (at_builtin; refine wpList_append_own _ rfl _ _ 43 rfl w.heap.size 9 i0 (.string ⟨#[]⟩) 1 16 Try.underlying43 hi hz0 hz1 hz2 rfl (by decide) _ _ _ rfl (HOWN.out.alloc _) ⟨wr.heap.size, 0, none⟩ 1 1 [.string ⟨#[68, 68]⟩] rfl rfl (cell_fresh1 wr _ _) (one_str _) (by simp [strs]; unfold maxLen; omega) (by simp [strs]; omega) (by have := HB.out.size; simp; omega) ?_; intro v' w1 hown' hgrow hnn; have HO' := Lib.hid hown'; have HG := Lib.hid hgrow; clear hown' hgrow hnn) | fail)
            go_roundw
            case rel => exact ⟨k + 2, P ++ [[68, 68]], by omega, by go_num, Lib.hid (tok_next (n := 2) HT.out (tok2 C4.out (.inr ⟨C2.out, rfl⟩))), by simp; omega, Lib.hid (by simpa [strs] using HO'.out), Lib.hid (below_own_grown HB.out HOWN.out HG.out (Nat.le_refl _))⟩
            case measure => simp [intOf]; omega
          by_cases h2 : (k : Int) + 2 ≤ (L.length : Int)
          · have x2 := ext_tok L k 2 (by omega)
            have y2 : ((L.drop k).take 2 == [77, 77]) = false := beq_eq_false_iff_ne.2 c2
            have y3 : ((L.drop k).take 2 == [68, 68]) = false := beq_eq_false_iff_ne.2 c3
            obtain ⟨c, hc1⟩ : ∃ c, (L.drop k).take 1 = [c] := take_one_some (by omega)
            have x1 := ext_tok L k 1 (by omega)
            rw [hc1] at x1
            have HC1 := Lib.hid hc1
            have C2 := Lib.hid c2; have C3 := Lib.hid c3
            clear hc1 c2 c3
            go_wp2_with (first | (at_builtin; refine wpList_append_own _ rfl _ _ 43 rfl w.heap.size 9 i0 (.string ⟨#[]⟩) 1 16 Try.underlying43 hi hz0 hz1 hz2 rfl (by decide) _ _ _ rfl (HOWN.out.alloc _) ⟨wr.heap.size, 0, none⟩ 1 1 [.string ⟨#[c]⟩] rfl rfl (cell_fresh1 wr _ _) (one_str _) (by simp [strs]; unfold maxLen; omega) (by simp [strs]; omega) (by have := HB.out.size; simp; omega) ?_; intro v' w1 hown' hgrow hnn; have HO' := Lib.hid hown'; have HG := Lib.hid hgrow; clear hown' hgrow hnn) | fail)
            go_roundw
            case rel => exact ⟨k + 1, P ++ [[c]], by omega, by go_num, Lib.hid (tok_next (n := 1) HT.out (tok1 C4.out C2.out C3.out HC1.out)), by simp; omega, Lib.hid (by simpa [strs] using HO'.out), Lib.hid (below_own_grown HB.out HOWN.out HG.out (Nat.le_refl _))⟩
            case measure => simp [intOf]; omega
          · exfalso; omega
        · by_cases c2 : (L.drop k).take 2 = [77, 77]
          · have hk2 : k + 2 ≤ L.length := by
              have := congrArg List.length c2
              simp at this; omega
            have x2 := ext_tok L k 2 hk2
            rw [c2] at x2
            have C2 := Lib.hid c2
            clear c2
            go_wp2_with (first | (at_builtin; refine wpList_append_own _ rfl _ _ 43 rfl w.heap.size 9 i0 (.string ⟨#[]⟩) 1 16 Try.underlying43 hi hz0 hz1 hz2 rfl (by decide) _ _ _ rfl (HOWN.out.alloc _) ⟨wr.heap.size, 0, none⟩ 1 1 [.string ⟨#[77, 77]⟩] rfl rfl (cell_fresh1 wr _ _) (one_str _) (by simp [strs]; unfold maxLen; omega) (by simp [strs]; omega) (by have := HB.out.size; simp; omega) ?_; intro v' w1 hown' hgrow hnn; have HO' := Lib.hid hown'; have HG := Lib.hid hgrow; clear hown' hgrow hnn) | fail)
            go_roundw
            case rel => exact ⟨k + 2, P ++ [[77, 77]], by omega, by go_num, Lib.hid (tok_next (n := 2) HT.out (tok2 C4.out (.inl ⟨C2.out, rfl⟩))), by simp; omega, Lib.hid (by simpa [strs] using HO'.out), Lib.hid (below_own_grown HB.out HOWN.out HG.out (Nat.le_refl _))⟩
            case measure => simp [intOf]; omega
          by_cases c3 : (L.drop k).take 2 = [68, 68]
          · clear c2
            have hk2 : k + 2 ≤ L.length := by
              have := congrArg List.length c3
              simp at this; omega
            have x2 := ext_tok L k 2 hk2
            rw [c3] at x2
            have C2 := Lib.hid c3
            clear c3
            go_wp2_with (first | (at_builtin; refine wpList_append_own _ rfl _ _ 43 rfl w.heap.size 9 i0 (.string ⟨#[]⟩) 1 16 Try.underlying43 hi hz0 hz1 hz2 rfl (by decide) _ _ _ rfl (HOWN.out.alloc _) ⟨wr.heap.size, 0, none⟩ 1 1 [.string ⟨#[68, 68]⟩] rfl rfl (cell_fresh1 wr _ _) (one_str _) (by simp [strs]; unfold maxLen; omega) (by simp [strs]; omega) (by have := HB.out.size; simp; omega) ?_; intro v' w1 hown' hgrow hnn; have HO' := Lib.hid hown'; have HG := Lib.hid hgrow; clear hown' hgrow hnn) | fail)
            go_roundw
            case rel => exact ⟨k + 2, P ++ [[68, 68]], by omega, by go_num, Lib.hid (tok_next (n := 2) HT.out (tok2 C4.out (.inr ⟨C2.out, rfl⟩))), by simp; omega, Lib.hid (by simpa [strs] using HO'.out), Lib.hid (below_own_grown HB.out HOWN.out HG.out (Nat.le_refl _))⟩
            case measure => simp [intOf]; omega
          by_cases h2 : (k : Int) + 2 ≤ (L.length : Int)
          · have x2 := ext_tok L k 2 (by omega)
            have y2 : ((L.drop k).take 2 == [77, 77]) = false := beq_eq_false_iff_ne.2 c2
            have y3 : ((L.drop k).take 2 == [68, 68]) = false := beq_eq_false_iff_ne.2 c3
            obtain ⟨c, hc1⟩ : ∃ c, (L.drop k).take 1 = [c] := take_one_some (by omega)
            have x1 := ext_tok L k 1 (by omega)
            rw [hc1] at x1
            have HC1 := Lib.hid hc1
            have C2 := Lib.hid c2; have C3 := Lib.hid c3
            clear hc1 c2 c3
            go_wp2_with (first | (at_builtin; refine wpList_append_own _ rfl _ _ 43 rfl w.heap.size 9 i0 (.string ⟨#[]⟩) 1 16 Try.underlying43 hi hz0 hz1 hz2 rfl (by decide) _ _ _ rfl (HOWN.out.alloc _) ⟨wr.heap.size, 0, none⟩ 1 1 [.string ⟨#[c]⟩] rfl rfl (cell_fresh1 wr _ _) (one_str _) (by simp [strs]; unfold maxLen; omega) (by simp [strs]; omega) (by have := HB.out.size; simp; omega) ?_; intro v' w1 hown' hgrow hnn; have HO' := Lib.hid hown'; have HG := Lib.hid hgrow; clear hown' hgrow hnn) | fail)
            go_roundw
            case rel => exact ⟨k + 1, P ++ [[c]], by omega, by go_num, Lib.hid (tok_next (n := 1) HT.out (tok1 C4.out C2.out C3.out HC1.out)), by simp; omega, Lib.hid (by simpa [strs] using HO'.out), Lib.hid (below_own_grown HB.out HOWN.out HG.out (Nat.le_refl _))⟩
            case measure => simp [intOf]; omega
          · obtain ⟨c, hc1⟩ : ∃ c, (L.drop k).take 1 = [c] := take_one_some (by omega)
            have x1 := ext_tok L k 1 (by omega)
            rw [hc1] at x1
            have HC1 := Lib.hid hc1
            have C2 := Lib.hid c2; have C3 := Lib.hid c3
            clear hc1 c2 c3
            go_wp2_with (first | (at_builtin; refine wpList_append_own _ rfl _ _ 43 rfl w.heap.size 9 i0 (.string ⟨#[]⟩) 1 16 Try.underlying43 hi hz0 hz1 hz2 rfl (by decide) _ _ _ rfl (HOWN.out.alloc _) ⟨wr.heap.size, 0, none⟩ 1 1 [.string ⟨#[c]⟩] rfl rfl (cell_fresh1 wr _ _) (one_str _) (by simp [strs]; unfold maxLen; omega) (by simp [strs]; omega) (by have := HB.out.size; simp; omega) ?_; intro v' w1 hown' hgrow hnn; have HO' := Lib.hid hown'; have HG := Lib.hid hgrow; clear hown' hgrow hnn) | fail)
            go_roundw
            case rel => exact ⟨k + 1, P ++ [[c]], by omega, by go_num, Lib.hid (tok_next (n := 1) HT.out (tok1 C4.out C2.out C3.out HC1.out)), by simp; omega, Lib.hid (by simpa [strs] using HO'.out), Lib.hid (below_own_grown HB.out HOWN.out HG.out (Nat.le_refl _))⟩
            case measure => simp [intOf]; omega
    · go_wp2_with fail
      go_ret
      have hkl : k = L.length := by omega
      have ht : tokens L = P := by
        have := HT.out
        rw [hkl, List.drop_length, tokens_nil, List.append_nil] at this
        exact this
      refine ⟨_, rfl, ?_, HB.out⟩
      rw [ht]; exact HOWN.out
end Go.Proofs.Ytfoifnhakmfefaa
