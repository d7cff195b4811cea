/- The contract of right of package date: which layouts are right; each theorem names its conditions. -/
import Derived.Test.YtfoifnhakmfefaaTxtC
namespace Go.Proofs.Ytfoifnhakmfefaa
open Go.RowKit Go.Shelf
open Cal Txt
set_option linter.unusedVariables false
attribute [local go_sem] Oper.semAt_some

theorem idx_is (c : UInt8) (k : Int) (hk : kOf c = k) (w : World) : Calls Try.prog 55 #[.string ⟨#[89, 77, 68]⟩, .int .u8 (c.toNat : Int)] w fun e w' => e = .returned (.int .i64 k) ∧ w = w' := by
  refine (Try.strings_IndexByte _ _ _).mono ?_
  rintro e w' ⟨rfl, rfl⟩
  refine ⟨?_, rfl⟩
  rw [show ((c.toNat : Int).toNat.toUInt8) = c from by simp]
  rw [← hk, ← kOf_index]
theorem heap_self {W : World} {b k : Nat} {cs : Array Value} {t : TypeId} {fr : Nat × Nat} (h : W.heap[b]? = some (.cells cs t fr)) (u : Value) : (W.setCell ⟨b, k, none⟩ u).heap[b]? = some (.cells (cs.setIfInBounds k u) t fr) := by
  simp [World.setCell, Array.getElem?_modify, h]
theorem heap_put_other {W : World} {b b' : Nat} {o : Obj} (hne : b ≠ b') : (W.putObj b' o).heap[b]? = W.heap[b]? := by
  simp [World.putObj, Ne.symm hne]
theorem heap_other {W : World} {b b' k : Nat} (hne : b ≠ b') (u : Value) : (W.setCell ⟨b', k, none⟩ u).heap[b]? = W.heap[b]? := Below.heap_setCell _ _ _ _ hne
theorem good_step {pre : List (List UInt8)} {x : List UInt8} {s : St} (h7 : ∀ rest, goodFrom ⟨0, 0, 0, false⟩ (pre ++ rest) = goodFrom s rest) (hb : badTok s.op x = false) : ∀ rest, goodFrom ⟨0, 0, 0, false⟩ (pre ++ [x] ++ rest) = goodFrom (Txt.stepT s x) rest := by
  intro rest
  rw [List.append_assoc, h7]
  simp [goodFrom, hb]
theorem bad_step {pre rest : List (List UInt8)} {x L : List UInt8} {s : St} (h7 : ∀ rest, goodFrom ⟨0, 0, 0, false⟩ (pre ++ rest) = goodFrom s rest) (hx : tokens L = pre ++ x :: rest) (hb : badTok s.op x = true) : goodFrom ⟨0, 0, 0, false⟩ (tokens L) = false := by
  rw [hx, h7]
  simp [goodFrom, hb]
theorem eq_three (a b c a' b' c' : Int) (w : World) : (Op.equalIn 10000 22 (.agg #[.int .i64 a, .int .i64 b, .int .i64 c]) (.agg #[.int .i64 a', .int .i64 b', .int .i64 c'])).run Try.prog w = .ok (a == a' && b == b' && c == c') w := by
  have u3 := Try.underlying3
  have a3 := Try.isAgg3
  have z3 := Try.sizeOf3
  rw [show (10000 : Nat) = 9999 + 1 from rfl, Op.equalIn]
  simp only [Sem.run_bind, run_underlying Try.underlying22, Result.andThen_ok]
  simp only [Std.Legacy.Range.forIn_eq_forIn_range', Std.Legacy.Range.size, Nat.sub_zero, Nat.add_sub_cancel, Nat.div_one, List.range'_succ, List.range'_zero, List.forIn_cons, List.forIn_nil]
  go_simp
  by_cases h1 : a = a' <;> by_cases h2 : b = b' <;> by_cases h3 : c = c' <;> simp [h1, h2, h3]
def CaOk (L : List UInt8) (b : Bool) : Prop := (b = true → rightB L = false) ∧ (b = false → rightB L = goodFrom ⟨0, 0, 0, false⟩ (tokens L))
def CaFor (L : List UInt8) : Prop := L.length ≤ 40 → ∀ w, Calls Try.prog 54 #[.string ⟨L.toArray⟩, .string ⟨digitsS.toArray⟩] w fun e w' => ∃ b, e = .returned (.bool b) ∧ CaOk L b ∧ Below w.heap.size w w'
theorem right_res {tmps : Array Value} {W : World} {b : Nat} {r : Bool} {t : TypeId} (hp : tmps[2]?.getD undef = .pointer (some ⟨b, 0, none⟩)) (hb : W.heap[b]? = some (.cells #[.bool r] t (0, 0))) :
    (results Try.f42 tmps).run Try.prog W = .ok (.bool r) W := by
  have hc : W.cell? ⟨b, 0, none⟩ = some (.bool r) := by rw [Lib.cell_of_heap hb]; rfl
  have ha := Try.isAgg4
  simp only [results, show Try.f42.results = #[.cell 2 4] from rfl]
  simp [Sem.run_bind, Result.andThen, hp]
  go_simp
def RgI (bs bo br : Nat) (L : List UInt8) (pre : List (List UInt8)) (mm : Nat → Prop) (W : World) : Prop :=
  ∃ s : St, W.heap[bs]? = some (.cells #[.int .i64 s.a, .int .i64 s.b, .int .i64 s.c] 22 (0, 0)) ∧ W.heap[bo]? = some (.cells #[.bool s.op] 4 (0, 0)) ∧ (∃ v, W.heap[br]? = some (.cells #[.bool v] 4 (0, 0))) ∧
    s.a ≤ pre.length ∧ s.b ≤ pre.length ∧ s.c ≤ pre.length ∧ (∀ rest, goodFrom ⟨0, 0, 0, false⟩ (pre ++ rest) = goodFrom s rest) ∧ mm = (fun k => k = bs ∨ k = bo ∨ k = br)
def RgX (br : Nat) (L : List UInt8) (c : Code) (pre : List (List UInt8)) (W : World) : Prop :=
  c = .ret ∧ goodFrom ⟨0, 0, 0, false⟩ (tokens L) = false ∧ W.heap[br]? = some (.cells #[.bool false] 4 (0, 0))

set_option maxHeartbeats 4000000 in
set_option maxRecDepth 100000 in
theorem right_any (L : List UInt8) (hcon : CaFor L) (w : World) :
    Calls Try.prog 42 #[.string ⟨L.toArray⟩] w (Gives w (.bool (rightB L))) := by
  have HC := Lib.hid hcon
  clear hcon
  refine callsIn_wide (n := 0) |>.1 ?_
  refine callsIn_of_wp_marks Try.func42 rfl trivial ?_
  simp only [Try.ntmps42, List.size_toArray, List.length_cons, List.length_nil, Nat.reduceAdd, Nat.reduceSub, Array.replicate_succ, Array.replicate_zero, List.push_toArray, List.append_toArray, List.nil_append, List.cons_append]
  have hW1 := heap_alloc_new w (.cells #[.bool false] 4)
  by_cases hL : (40 : Int) < (L.length : Int)
  · have HR : Hid (rightB L = false) := Lib.hid (by simp [rightB, show ¬ L.length ≤ 40 from by omega])
    gi_wp2_with fail
    refine ⟨trivial, ?_⟩
    gi_wp2_with fail
    refine ⟨_, right_res rfl hW1, by rw [HR.out], ?_⟩
    exact (Below.refl _ w).alloc (Nat.le_refl _) _
  have HL : Hid (L.length ≤ 40) := Lib.hid (by omega)
  gi_wp2_with fail
  refine ⟨trivial, rfl, ?_⟩
  refine (callsIn_wide.2 (HC.out HL.out _)).mono ?_
  rintro e w1 ⟨b, rfl, hcon, hb1⟩
  have HN := Lib.hid hcon
  clear hcon
  have hbb : b = true ∨ b = false := by cases b <;> simp
  rcases hbb with rfl | rfl
  · have hb1s := hb1.size
    rw [World.size_alloc] at hb1s
    have hrc : w1.heap[w.heap.size]? = some (.cells #[.bool false] 4 (0, 0)) := by
      rw [hb1.block _ (by simp)]; exact hW1
    have hHB := Lib.hid hb1
    have hHR := Lib.hid hrc
    have hcc := (box_cell hrc).1
    have hcz := (box_cell hrc).2
    clear hb1 hrc
    gi_wp2_with fail
    refine ⟨_, right_res rfl (heap_self hHR.out _), by rw [HN.out.1 rfl], ?_⟩
    exact (((Below.refl _ w).alloc (Nat.le_refl _) _).trans (hHB.out.mono (by simp))).setCell (Nat.le_refl _) _
  have hrg : Hid (rightB L = goodFrom ⟨0, 0, 0, false⟩ (tokens L)) := Lib.hid (HN.out.2 rfl)
  gi_wp2_with fail
  refine ⟨trivial, rfl, ?_⟩
  refine (callsIn_wide.2 (fields_any _ _)).mono ?_
  rintro e w' ⟨rfl, rfl⟩
  gi_wp2_with fail
  obtain ⟨W0, hW0⟩ : ∃ W0, ((w1.alloc (.cells #[.int .i64 0, .int .i64 0, .int .i64 0] 22)).alloc (.cells #[.bool false] 4)).alloc (.cells #[.string ⟨L.toArray⟩] 9) = W0 := ⟨_, rfl⟩
  rw [hW0]
  have hb1s := hb1.size
  rw [World.size_alloc] at hb1s
  have hs0 : W0.heap.size = w1.heap.size + 3 := by rw [← hW0]; simp
  have hbs : W0.heap[w1.heap.size]? = some (.cells #[.int .i64 0, .int .i64 0, .int .i64 0] 22 (0, 0)) := by
    rw [← hW0, Below.heap_alloc _ _ _ (by simp; omega), Below.heap_alloc _ _ _ (by simp)]
    exact heap_alloc_new w1 _
  have hbo : W0.heap[w1.heap.size + 1]? = some (.cells #[.bool false] 4 (0, 0)) := by
    have := heap_alloc_new (w1.alloc (.cells #[.int .i64 0, .int .i64 0, .int .i64 0] 22)) (.cells #[.bool false] 4)
    rw [← hW0, Below.heap_alloc _ _ _ (by simp)]
    simpa using this
  have hbl : W0.heap[w1.heap.size + 2]? = some (.cells #[.string ⟨L.toArray⟩] 9 (0, 0)) := by
    have := heap_alloc_new ((w1.alloc (.cells #[.int .i64 0, .int .i64 0, .int .i64 0] 22)).alloc (.cells #[.bool false] 4)) (.cells #[.string ⟨L.toArray⟩] 9)
    rw [← hW0]
    simpa using this
  have hbr : W0.heap[w.heap.size]? = some (.cells #[.bool false] 4 (0, 0)) := by
    rw [← hW0, Below.heap_alloc _ _ _ (by simp; omega), Below.heap_alloc _ _ _ (by simp; omega), Below.heap_alloc _ _ _ (by omega), hb1.block _ (by rw [World.size_alloc]; omega)]
    exact heap_alloc_new w _
  have hfr0 : Below w.heap.size w W0 := by
    rw [← hW0]
    exact ((((((Below.refl _ w).alloc (Nat.le_refl _) _).trans (hb1.mono (by rw [World.size_alloc]; omega))).alloc (by omega) _).alloc (by simp; omega) _).alloc (by simp; omega) _)
  have HBS := Lib.hid hbs; have HBO := Lib.hid hbo; have HBL := Lib.hid hbl; have HBR := Lib.hid hbr; have HS := Lib.hid hs0; have HF := Lib.hid hfr0; have HB1 := Lib.hid hb1s
  clear hbs hbo hbl hbr hs0 hfr0 hb1 hW0 hb1s
  refine wp_range (xs := tokens L) (encs := fun t : List UInt8 => #[Value.string ⟨t.toArray⟩]) (Bx := fun b => b = w1.heap.size + 2) rfl (enters_of Try.func60 (by kernel_rfl) rfl) (fields_iter L (Nat.le_trans HL.out (by decide)) _ _ HBL.out) (fun _ => rfl)
    (RgI w1.heap.size (w1.heap.size + 1) w.heap.size L) (RgX w.heap.size L) ?hI ?hIlt ?hIx (fun b h => by rw [HS.out]; omega)
    (fun k => k = w1.heap.size ∨ k = w1.heap.size + 1 ∨ k = w.heap.size) ⟨⟨0, 0, 0, false⟩, HBS.out, HBO.out, ⟨_, HBR.out⟩, by simp, by simp, by simp, fun _ => rfl, rfl⟩ ?round ?done ?stop
  case hI =>
    rintro pre mm A B ⟨s, h1, h2, ⟨v, h3⟩, h4, h5, h6, h7, rfl⟩ hf
    exact ⟨s, hf.heap h1 (fun h => h (.inl rfl)), hf.heap h2 (fun h => h (.inr (.inl rfl))), ⟨v, hf.heap h3 (fun h => h (.inr (.inr rfl)))⟩, h4, h5, h6, h7, rfl⟩
  case hIlt =>
    rintro pre mm A b ⟨s, h1, h2, ⟨v, h3⟩, h4, h5, h6, h7, rfl⟩ hb
    have hs := HS.out
    have hb1 := HB1.out
    rcases hb with rfl | rfl | rfl
    · exact ⟨(Array.getElem?_eq_some_iff.1 h1).1, by omega, by omega, by omega⟩
    · exact ⟨(Array.getElem?_eq_some_iff.1 h2).1, by omega, by omega, by omega⟩
    · exact ⟨(Array.getElem?_eq_some_iff.1 h3).1, by omega, by omega, by omega⟩
  case hIx =>
    rintro c pre A B ⟨h1, h2, h3⟩ hf
    exact ⟨h1, h2, hf.heap h3 (by have := HS.out; have := HB1.out; omega)⟩
  case round =>
    rintro l pre x rest mm W hxs -
    gi_wp2_with fail
    refine ⟨trivial, ?_⟩
    rintro W' hW' ⟨s, h1, h2, ⟨v, h3⟩, h4, h5, h6, h7, rfl⟩
    have hx : IsTok x := tokens_isTok _ L (Nat.le_refl _) x (by rw [hxs]; simp)
    obtain ⟨sa, sb, sc, op⟩ := s
    dsimp only at h1 h2 h4 h5 h6
    have hl : pre.length ≤ 1000 := by
      have a3 := tokens_len _ L (Nat.le_refl _)
      rw [hxs] at a3
      simp at a3
      have := HL.out
      omega
    have hc2 := (box_cell h2).1
    have hc3 := (box_cell h3).1
    have hz2 := (box_cell h2).2
    have hz3 := (box_cell h3).2
    have hca : W'.cell? ⟨w1.heap.size, 0, none⟩ = some (.int .i64 sa) := by rw [Lib.cell_of_heap h1]; rfl
    have hcb : W'.cell? ⟨w1.heap.size, 1, none⟩ = some (.int .i64 sb) := by rw [Lib.cell_of_heap h1]; rfl
    have hcc : W'.cell? ⟨w1.heap.size, 2, none⟩ = some (.int .i64 sc) := by rw [Lib.cell_of_heap h1]; rfl
    have hzs : ∀ k, W'.frozen? ⟨w1.heap.size, k, none⟩ = false := fun k => Lib.frozen_of_heap h1 k
    have H1 := Lib.hid h1; have H2 := Lib.hid h2; have H3 := Lib.hid h3; have HX := Lib.hid hxs; have H7 := Lib.hid h7
    have hb1 := HB1.out
    have hgrow : ∀ b, (b = w1.heap.size ∨ b = w1.heap.size + 1 ∨ b = w.heap.size) → (b = w1.heap.size ∨ b = w1.heap.size + 1 ∨ b = w.heap.size) ∨ W'.heap.size ≤ b := fun _ h => .inl h
    have HG := Lib.hid hgrow
    clear h1 h2 h3 hxs h7 hgrow
    rcases hx with rfl | rfl | rfl | ⟨c, rfl⟩
    · cases op
      · gi_wp2_with fail
        refine ⟨trivial, rfl, ?_⟩
        refine (CallsIn.inRound l (callsIn_wide.2 (idx_is 89 0 (by decide) _))).mono ?_
        rintro e W1 ⟨rfl, rfl⟩
        gi_wp2_with fail
        refine ⟨_, ⟨Txt.stepT ⟨sa, sb, sc, false⟩ _, ?_, ?_, ⟨v, ?_⟩, ?_, ?_, ?_, good_step H7.out (show badTok false [89, 89, 89, 89] = false from by decide), rfl⟩, ((Fr.refl _ _).setCell (p := ⟨w1.heap.size, 0, none⟩) (.inl (.inl rfl)) _).setCell (p := ⟨w1.heap.size + 1, 0, none⟩) (.inl (.inr (.inl rfl))) _, HG.out⟩
        · rw [heap_other (by omega), heap_self H1.out]; rfl
        · rw [box_set ((heap_other (by omega) _).trans H2.out)]; rfl
        · rw [heap_other (by omega), heap_other (by omega)]; exact H3.out
        · simp [Txt.stepT, bump, kOf]; omega
        · simp [Txt.stepT, bump, kOf]; omega
        · simp [Txt.stepT, bump, kOf]; omega
      · gi_wp2_with fail
        refine ⟨trivial, rfl, ?_⟩
        refine (CallsIn.inRound l (callsIn_wide.2 (idx_is 89 0 (by decide) _))).mono ?_
        rintro e W1 ⟨rfl, rfl⟩
        gi_wp2_with fail
        exact ⟨⟨rfl, bad_step H7.out HX.out (show badTok true [89, 89, 89, 89] = true from by decide), box_set H3.out _⟩, (Fr.refl _ _).setCell (p := ⟨w.heap.size, 0, none⟩) (.inl (.inr (.inr rfl))) _⟩
    · cases op
      · gi_wp2_with fail
        refine ⟨trivial, rfl, ?_⟩
        refine (CallsIn.inRound l (callsIn_wide.2 (idx_is 77 1 (by decide) _))).mono ?_
        rintro e W1 ⟨rfl, rfl⟩
        gi_wp2_with fail
        refine ⟨_, ⟨Txt.stepT ⟨sa, sb, sc, false⟩ _, ?_, ?_, ⟨v, ?_⟩, ?_, ?_, ?_, good_step H7.out (show badTok false [77, 77] = false from by decide), rfl⟩, ((Fr.refl _ _).setCell (p := ⟨w1.heap.size, 1, none⟩) (.inl (.inl rfl)) _).setCell (p := ⟨w1.heap.size + 1, 0, none⟩) (.inl (.inr (.inl rfl))) _, HG.out⟩
        · rw [heap_other (by omega), heap_self H1.out]; rfl
        · rw [box_set ((heap_other (by omega) _).trans H2.out)]; rfl
        · rw [heap_other (by omega), heap_other (by omega)]; exact H3.out
        · simp [Txt.stepT, bump, kOf]; omega
        · simp [Txt.stepT, bump, kOf]; omega
        · simp [Txt.stepT, bump, kOf]; omega
      · gi_wp2_with fail
        refine ⟨trivial, rfl, ?_⟩
        refine (CallsIn.inRound l (callsIn_wide.2 (idx_is 77 1 (by decide) _))).mono ?_
        rintro e W1 ⟨rfl, rfl⟩
        gi_wp2_with fail
        exact ⟨⟨rfl, bad_step H7.out HX.out (show badTok true [77, 77] = true from by decide), box_set H3.out _⟩, (Fr.refl _ _).setCell (p := ⟨w.heap.size, 0, none⟩) (.inl (.inr (.inr rfl))) _⟩
    · cases op
      · gi_wp2_with fail
        refine ⟨trivial, rfl, ?_⟩
        refine (CallsIn.inRound l (callsIn_wide.2 (idx_is 68 2 (by decide) _))).mono ?_
        rintro e W1 ⟨rfl, rfl⟩
        gi_wp2_with fail
        refine ⟨_, ⟨Txt.stepT ⟨sa, sb, sc, false⟩ _, ?_, ?_, ⟨v, ?_⟩, ?_, ?_, ?_, good_step H7.out (show badTok false [68, 68] = false from by decide), rfl⟩, ((Fr.refl _ _).setCell (p := ⟨w1.heap.size, 2, none⟩) (.inl (.inl rfl)) _).setCell (p := ⟨w1.heap.size + 1, 0, none⟩) (.inl (.inr (.inl rfl))) _, HG.out⟩
        · rw [heap_other (by omega), heap_self H1.out]; rfl
        · rw [box_set ((heap_other (by omega) _).trans H2.out)]; rfl
        · rw [heap_other (by omega), heap_other (by omega)]; exact H3.out
        · simp [Txt.stepT, bump, kOf]; omega
        · simp [Txt.stepT, bump, kOf]; omega
        · simp [Txt.stepT, bump, kOf]; omega
      · gi_wp2_with fail
        refine ⟨trivial, rfl, ?_⟩
        refine (CallsIn.inRound l (callsIn_wide.2 (idx_is 68 2 (by decide) _))).mono ?_
        rintro e W1 ⟨rfl, rfl⟩
        gi_wp2_with fail
        exact ⟨⟨rfl, bad_step H7.out HX.out (show badTok true [68, 68] = true from by decide), box_set H3.out _⟩, (Fr.refl _ _).setCell (p := ⟨w.heap.size, 0, none⟩) (.inl (.inr (.inr rfl))) _⟩
    · by_cases e89 : c = 89
      · subst e89
        gi_wp2_with fail
        refine ⟨trivial, rfl, ?_⟩
        refine (CallsIn.inRound l (callsIn_wide.2 (idx_is 89 0 (by decide) _))).mono ?_
        rintro e W1 ⟨rfl, rfl⟩
        gi_wp2_with fail
        exact ⟨⟨rfl, bad_step H7.out HX.out (show badTok op [89] = true from by cases op <;> decide), box_set H3.out _⟩, (Fr.refl _ _).setCell (p := ⟨w.heap.size, 0, none⟩) (.inl (.inr (.inr rfl))) _⟩
      · by_cases e77 : c = 77
        · subst e77
          cases op
          · gi_wp2_with fail
            refine ⟨trivial, rfl, ?_⟩
            refine (CallsIn.inRound l (callsIn_wide.2 (idx_is 77 1 (by decide) _))).mono ?_
            rintro e W1 ⟨rfl, rfl⟩
            gi_wp2_with fail
            refine ⟨_, ⟨Txt.stepT ⟨sa, sb, sc, false⟩ _, ?_, ?_, ⟨v, ?_⟩, ?_, ?_, ?_, good_step H7.out (show badTok false [77] = false from by decide), rfl⟩, ((Fr.refl _ _).setCell (p := ⟨w1.heap.size, 1, none⟩) (.inl (.inl rfl)) _).setCell (p := ⟨w1.heap.size + 1, 0, none⟩) (.inl (.inr (.inl rfl))) _, HG.out⟩
            · rw [heap_other (by omega), heap_self H1.out]; rfl
            · rw [box_set ((heap_other (by omega) _).trans H2.out)]; rfl
            · rw [heap_other (by omega), heap_other (by omega)]; exact H3.out
            · simp [Txt.stepT, bump, kOf]; omega
            · simp [Txt.stepT, bump, kOf]; omega
            · simp [Txt.stepT, bump, kOf]; omega
          · gi_wp2_with fail
            refine ⟨trivial, rfl, ?_⟩
            refine (CallsIn.inRound l (callsIn_wide.2 (idx_is 77 1 (by decide) _))).mono ?_
            rintro e W1 ⟨rfl, rfl⟩
            gi_wp2_with fail
            exact ⟨⟨rfl, bad_step H7.out HX.out (show badTok true [77] = true from by decide), box_set H3.out _⟩, (Fr.refl _ _).setCell (p := ⟨w.heap.size, 0, none⟩) (.inl (.inr (.inr rfl))) _⟩
        · by_cases e68 : c = 68
          · subst e68
            cases op
            · gi_wp2_with fail
              refine ⟨trivial, rfl, ?_⟩
              refine (CallsIn.inRound l (callsIn_wide.2 (idx_is 68 2 (by decide) _))).mono ?_
              rintro e W1 ⟨rfl, rfl⟩
              gi_wp2_with fail
              refine ⟨_, ⟨Txt.stepT ⟨sa, sb, sc, false⟩ _, ?_, ?_, ⟨v, ?_⟩, ?_, ?_, ?_, good_step H7.out (show badTok false [68] = false from by decide), rfl⟩, ((Fr.refl _ _).setCell (p := ⟨w1.heap.size, 2, none⟩) (.inl (.inl rfl)) _).setCell (p := ⟨w1.heap.size + 1, 0, none⟩) (.inl (.inr (.inl rfl))) _, HG.out⟩
              · rw [heap_other (by omega), heap_self H1.out]; rfl
              · rw [box_set ((heap_other (by omega) _).trans H2.out)]; rfl
              · rw [heap_other (by omega), heap_other (by omega)]; exact H3.out
              · simp [Txt.stepT, bump, kOf]; omega
              · simp [Txt.stepT, bump, kOf]; omega
              · simp [Txt.stepT, bump, kOf]; omega
            · gi_wp2_with fail
              refine ⟨trivial, rfl, ?_⟩
              refine (CallsIn.inRound l (callsIn_wide.2 (idx_is 68 2 (by decide) _))).mono ?_
              rintro e W1 ⟨rfl, rfl⟩
              gi_wp2_with fail
              exact ⟨⟨rfl, bad_step H7.out HX.out (show badTok true [68] = true from by decide), box_set H3.out _⟩, (Fr.refl _ _).setCell (p := ⟨w.heap.size, 0, none⟩) (.inl (.inr (.inr rfl))) _⟩
          · have hk : kOf c = -1 := by simp [kOf, e89, e77, e68]
            have f89 : (c == 89) = false := by simpa using e89
            have f77 : (c == 77) = false := by simpa using e77
            have f68 : (c == 68) = false := by simpa using e68
            have HST : ∀ op, Hid (Txt.stepT ⟨sa, sb, sc, op⟩ [c] = ⟨sa, sb, sc, false⟩) := fun op => Lib.hid (by simp [Txt.stepT, bump, hk, opTok, e77, e68])
            have hcb8 : c.toNat < 256 := c.toNat_lt
            have hgc : (ByteArray.mk #[c])[0]'(by exact Nat.one_pos) = c := rfl
            have HK := Lib.hid hk
            clear hk e89 e77 e68
            by_cases hlo : (c.toNat : Int) < 32
            · gi_wp2_with fail
              refine ⟨trivial, rfl, ?_⟩
              refine (CallsIn.inRound l (callsIn_wide.2 (idx_is c (-1) HK.out _))).mono ?_
              rintro e W1 ⟨rfl, rfl⟩
              gi_wp2_with fail
              exact ⟨⟨rfl, bad_step H7.out HX.out (by simp [badTok, show c.toNat < 32 from by omega]), box_set H3.out _⟩, (Fr.refl _ _).setCell (p := ⟨w.heap.size, 0, none⟩) (.inl (.inr (.inr rfl))) _⟩
            · by_cases hhi : (126 : Int) < (c.toNat : Int)
              · gi_wp2_with fail
                refine ⟨trivial, rfl, ?_⟩
                refine (CallsIn.inRound l (callsIn_wide.2 (idx_is c (-1) HK.out _))).mono ?_
                rintro e W1 ⟨rfl, rfl⟩
                gi_wp2_with fail
                exact ⟨⟨rfl, bad_step H7.out HX.out (by simp [badTok, show 126 < c.toNat from by omega]), box_set H3.out _⟩, (Fr.refl _ _).setCell (p := ⟨w.heap.size, 0, none⟩) (.inl (.inr (.inr rfl))) _⟩
              · cases op
                · gi_wp2_with fail
                  refine ⟨trivial, rfl, ?_⟩
                  refine (CallsIn.inRound l (callsIn_wide.2 (idx_is c (-1) HK.out _))).mono ?_
                  rintro e W1 ⟨rfl, rfl⟩
                  gi_wp2_with fail
                  refine ⟨_, ⟨Txt.stepT ⟨sa, sb, sc, false⟩ _, ?_, ?_, ⟨v, ?_⟩, ?_, ?_, ?_, good_step H7.out (by simp [badTok, show ¬ c.toNat < 32 from by omega, show ¬ 126 < c.toNat from by omega, HK.out, f89]), rfl⟩, (Fr.refl _ _).setCell (p := ⟨w1.heap.size + 1, 0, none⟩) (.inl (.inr (.inl rfl))) _, HG.out⟩
                  · rw [heap_other (by omega)]; rw [(HST false).out]; exact H1.out
                  · rw [box_set H2.out]; rw [(HST false).out]
                  · rw [heap_other (by omega)]; exact H3.out
                  · rw [(HST false).out]; simp; omega
                  · rw [(HST false).out]; simp; omega
                  · rw [(HST false).out]; simp; omega
                · gi_wp2_with fail
                  refine ⟨trivial, rfl, ?_⟩
                  refine (CallsIn.inRound l (callsIn_wide.2 (idx_is c (-1) HK.out _))).mono ?_
                  rintro e W1 ⟨rfl, rfl⟩
                  gi_wp2_with fail
                  refine ⟨_, ⟨Txt.stepT ⟨sa, sb, sc, true⟩ _, ?_, ?_, ⟨v, ?_⟩, ?_, ?_, ?_, good_step H7.out (by simp [badTok, show ¬ c.toNat < 32 from by omega, show ¬ 126 < c.toNat from by omega, HK.out, f89]), rfl⟩, (Fr.refl _ _).setCell (p := ⟨w1.heap.size + 1, 0, none⟩) (.inl (.inr (.inl rfl))) _, HG.out⟩
                  · rw [heap_other (by omega)]; rw [(HST true).out]; exact H1.out
                  · rw [box_set H2.out]; rw [(HST true).out]
                  · rw [heap_other (by omega)]; exact H3.out
                  · rw [(HST true).out]; simp; omega
                  · rw [(HST true).out]; simp; omega
                  · rw [(HST true).out]; simp; omega
  case done =>
    rintro mm W ⟨s, h1, h2, ⟨v, h3⟩, h4, h5, h6, h7, rfl⟩ hf hD
    obtain ⟨sa, sb, sc, op⟩ := s
    dsimp only at h1 h2 h4 h5 h6
    have hl : (tokens L).length ≤ 1000 := by
      have a3 := tokens_len _ L (Nat.le_refl _)
      have := HL.out
      omega
    have hgood : goodFrom ⟨0, 0, 0, false⟩ (tokens L) = (sa == 1 && sb == 1 && sc == 1) := by
      have := h7 []
      rw [List.append_nil] at this
      rw [this]; rfl
    have hlt : W0.heap.size < W.heap.size := (Array.getElem?_eq_some_iff.1 hD).1
    have hc3 := (box_cell h3).1
    have hz3 := (box_cell h3).2
    have hca : W.cell? ⟨w1.heap.size, 0, none⟩ = some (.int .i64 sa) := by rw [Lib.cell_of_heap h1]; rfl
    have hcb : W.cell? ⟨w1.heap.size, 1, none⟩ = some (.int .i64 sb) := by rw [Lib.cell_of_heap h1]; rfl
    have hcc : W.cell? ⟨w1.heap.size, 2, none⟩ = some (.int .i64 sc) := by rw [Lib.cell_of_heap h1]; rfl
    have hzs : ∀ k, W.frozen? ⟨w1.heap.size, k, none⟩ = false := fun k => Lib.frozen_of_heap h1 k
    have H1 := Lib.hid h1; have H2 := Lib.hid h2; have H3 := Lib.hid h3; have H7 := Lib.hid h7; have HG := Lib.hid hgood
    have hD' := Lib.hid hD
    clear h1 h2 h3 h7 hgood hD
    have heq3 := eq_three sa sb sc 1 1 1
    gi_wp2_with fail
    have hK : (W.setCell ⟨w.heap.size, 0, none⟩ (.bool ((sa : Int) == 1 && (sb : Int) == 1 && (sc : Int) == 1))).heap[W0.heap.size]? = some (.deferred (some [])) := by
      rw [heap_other (by have := HS.out; have := HB1.out; omega)]; exact hD'.out
    have hbw : Below w.heap.size w (W.setCell ⟨w.heap.size, 0, none⟩ (.bool ((sa : Int) == 1 && (sb : Int) == 1 && (sc : Int) == 1))) :=
      (HF.out.trans (hf.below (by have := HS.out; have := HB1.out; omega) (by have := HB1.out; rintro b hb ((h | h | h) | h) <;> omega))).setCell (Nat.le_refl _) _
    refine ⟨by simp, .inl ⟨_, _, rfl, run_takeDeferred hK, ?_⟩⟩
    refine ⟨_, right_res rfl ((heap_put_other (by have := HS.out; have := HB1.out; omega)).trans (heap_self H3.out _)), ?_, hbw.trans (belowK_b (w := w) (Nat.le_refl _) _ W0.heap.size _ _ (by have := HS.out; have := HB1.out; omega) hK rfl rfl)⟩
    rw [hrg.out, HG.out]
    have e1 : ∀ n : Nat, ((n : Int) == 1) = (n == 1) := fun n => by
      rw [Bool.eq_iff_iff, beq_iff_eq, beq_iff_eq]; omega
    rw [e1, e1, e1]
  case stop =>
    rintro c pre W ⟨rfl, h2, h3⟩ hf hD
    have h2' := Lib.hid h2; have h3' := Lib.hid h3; have hD' := Lib.hid hD
    have hlt : W0.heap.size < W.heap.size := (Array.getElem?_eq_some_iff.1 hD).1
    have hc3 := (box_cell h3).1
    clear h2 h3 hD
    gi_wp2_with fail
    have hbw : Below w.heap.size w W :=
      HF.out.trans (hf.below (by have := HS.out; have := HB1.out; omega) (by have := HB1.out; rintro b hb ((h | h | h) | h) <;> omega))
    refine ⟨by simp, .inl ⟨_, _, rfl, run_takeDeferred hD'.out, ?_⟩⟩
    refine ⟨_, right_res rfl ((heap_put_other (by have := HS.out; have := HB1.out; omega)).trans h3'.out), ?_, hbw.trans (belowK_b (w := w) (Nat.le_refl _) _ W0.heap.size _ _ (by have := HS.out; have := HB1.out; omega) hD'.out rfl rfl)⟩
    rw [hrg.out, h2'.out]
end Go.Proofs.Ytfoifnhakmfefaa
