/- Contracts of Format, Text, Read, Parse of package date, for every layout, text and number; each theorem names its conditions. -/
import Derived.Test.YtfoifnhakmfefaaTxtD
import Derived.Test.YtfoifnhakmfefaaDayB
namespace Go.Proofs.Ytfoifnhakmfefaa
open Go.RowKit Go.Shelf
open Cal Txt
set_option linter.unusedVariables false
attribute [local go_sem] Oper.semAt_some

theorem rightB_len {L : List UInt8} (h : rightB L = true) : L.length ≤ 40 := by
  simp only [rightB, Bool.and_eq_true, decide_eq_true_eq] at h
  exact h.1.1
theorem set3 {B b : Nat} {A W : World} (h : Below B A W) (hb : B ≤ b) (i j k : Nat) (x y z : Value) : Below B A (((W.setCell ⟨b, i, none⟩ x).setCell ⟨b, j, none⟩ y).setCell ⟨b, k, none⟩ z) :=
  ((h.setCell (p := ⟨b, i, none⟩) hb x).setCell (p := ⟨b, j, none⟩) hb y).setCell (p := ⟨b, k, none⟩) hb z
theorem inside_bd {n : Int} (h : insideB n = true) : 0 ≤ n ∧ n ≤ 3652058 := by
  simpa only [insideB, decide_eq_true_eq] using h
theorem ret_sb {s t : List UInt8} {a b : Bool} (h : s = t) (h' : a = b) : Ending.returned (.tuple #[.string ⟨s.toArray⟩, .bool a]) = .returned (.tuple #[.string ⟨t.toArray⟩, .bool b]) := by rw [h, h']

set_option maxHeartbeats 1000000 in
theorem Format_any (L : List UInt8) (n : Int) (hcon : CaFor L) (w : World) :
    Calls Try.prog 22 #[.string ⟨L.toArray⟩, .int .i64 n] w (Gives w (.tuple #[.string ⟨(fmtS L n).toArray⟩, .bool (fmtOk L n)])) := by
  have HC := Lib.hid hcon
  clear hcon
  go_enter Try.func22, Try.ntmps22
  go_wp2_with fail
  refine (Civil_any n _).mono ?_
  rintro e w1 ⟨rfl, hb⟩
  have hbl : Hid (Below w.heap.size w w1) := Lib.hid (((Below.refl _ w).alloc (Nat.le_refl _) _).trans (hb.mono (by simp)))
  have hblk : w1.heap[w.heap.size]? = some (.cells #[.int .i64 0, .int .i64 0, .int .i64 0] 63 (0, 0)) := by
    rw [hb.block _ (by simp)]; exact heap_alloc_new w _
  have c0 : w1.cell? ⟨w.heap.size, 0, none⟩ = some (.int .i64 0) := by rw [Lib.cell_of_heap hblk]; rfl
  have c1 : w1.cell? ⟨w.heap.size, 1, none⟩ = some (.int .i64 0) := by rw [Lib.cell_of_heap hblk]; rfl
  have c2 : w1.cell? ⟨w.heap.size, 2, none⟩ = some (.int .i64 0) := by rw [Lib.cell_of_heap hblk]; rfl
  have hz : ∀ k, w1.frozen? ⟨w.heap.size, k, none⟩ = false := fun k => Lib.frozen_of_heap hblk k
  have HK := Lib.hid hblk
  clear hb hblk
  have hii : insideB n = true ∨ insideB n = false := by cases insideB n <;> simp
  rcases hii with hi | hi
  · have cv : CivV n = .tuple #[.int .i64 (civY n), .int .i64 (civM n), .int .i64 (civD n), .bool true] := by simp [CivV, cyV, cmV, cdV, hi]
    have HI := Lib.hid hi
    clear hi
    rw [cv]
    clear cv
    go_wp2_with fail
    refine (right_any L HC.out _).mono ?_
    rintro e w2 ⟨rfl, hb2⟩
    have hk2 : w2.heap[w.heap.size]? = some (.cells #[.int .i64 (civY n), .int .i64 (civM n), .int .i64 (civD n)] 63 (0, 0)) := by
      rw [hb2.block _ (by have := (Array.getElem?_eq_some_iff.1 HK.out).1; simpa [World.setCell] using this)]
      rw [heap_self (heap_self (heap_self HK.out _) _) _]; rfl
    have hbl2 : Hid (Below w.heap.size w w2) := Lib.hid ((set3 hbl.out (Nat.le_refl _) _ _ _ _ _ _).trans (hb2.mono (set3 hbl.out (Nat.le_refl _) _ _ _ _ _ _).size))
    have d0 : w2.cell? ⟨w.heap.size, 0, none⟩ = some (.int .i64 (civY n)) := by rw [Lib.cell_of_heap hk2]; rfl
    have d1 : w2.cell? ⟨w.heap.size, 1, none⟩ = some (.int .i64 (civM n)) := by rw [Lib.cell_of_heap hk2]; rfl
    have d2 : w2.cell? ⟨w.heap.size, 2, none⟩ = some (.int .i64 (civD n)) := by rw [Lib.cell_of_heap hk2]; rfl
    have hz2 : ∀ k, w2.frozen? ⟨w.heap.size, k, none⟩ = false := fun k => Lib.frozen_of_heap hk2 k
    clear hb2 hk2
    have hrr : rightB L = true ∨ rightB L = false := by cases rightB L <;> simp
    rcases hrr with hr | hr
    · have HR := Lib.hid hr
      have HL := Lib.hid (rightB_len hr)
      have hv := Lib.hid (civ_bd n (inside_bd HI.out).1 (inside_bd HI.out).2)
      rw [hr]
      clear hr
      go_wp2_with fail
      refine (written_any (civY n) (civM n) (civD n) L HL.out (by have := hv.out; omega) (by have := hv.out; omega) (by have := hv.out; omega) (by have := hv.out; omega) (by have := hv.out; omega) (by have := hv.out; omega) _).mono ?_
      rintro e w3 ⟨rfl, hb3⟩
      have hbl3 : Hid (Below w.heap.size w w3) := Lib.hid (hbl2.out.trans (hb3.mono hbl2.out.size))
      clear hb3
      go_wp2_with fail
      go_ret2
      refine ⟨?_, hbl3.out⟩
      have hf : fmtOk L n = true := by simp [fmtOk, HR.out, HI.out]
      rw [show fmtS L n = Txt.written (civY n) (civM n) (civD n) L by simp [fmtS, hf], hf]; rfl
    · have HR := Lib.hid hr
      rw [hr]
      clear hr
      go_wp2_with fail
      go_ret2
      refine ⟨?_, hbl2.out⟩
      have hf : fmtOk L n = false := by simp [fmtOk, HR.out]
      rw [show fmtS L n = [] by simp [fmtS, hf], hf]; rfl
  · have cv : CivV n = .tuple #[.int .i64 0, .int .i64 0, .int .i64 0, .bool false] := by simp [CivV, cyV, cmV, cdV, hi]
    have HI := Lib.hid hi
    clear hi
    rw [cv]
    clear cv
    go_wp2_with fail
    go_ret2
    refine ⟨?_, set3 hbl.out (Nat.le_refl _) _ _ _ _ _ _⟩
    have hf : fmtOk L n = false := by simp [fmtOk, HI.out]
    rw [show fmtS L n = [] by simp [fmtS, hf], hf]; rfl
theorem ca_iso : CaFor iso := by
  intro _ w
  refine (Try.strings_ContainsAny_laid ⟨iso.toArray⟩ ⟨digitsS.toArray⟩ w (by decide) (by decide) ?_ ?_).mono ?_
  · exact fun j b h => (show ∀ b ∈ iso, b.toNat < 128 by decide) b (List.mem_of_getElem? h)
  · exact fun j b h => (show ∀ b ∈ digitsS, b.toNat < 128 by decide) b (List.mem_of_getElem? h)
  · rintro e w' ⟨rfl, hb⟩
    exact ⟨_, rfl, ⟨fun h => absurd h (by decide), fun _ => by decide⟩, hb⟩
set_option maxHeartbeats 400000 in
theorem Text_any (n : Int) (w : World) : Calls Try.prog 27 #[.int .i64 n] w (Gives w (.string ⟨(textS n).toArray⟩)) := by
  go_enter Try.func27, Try.ntmps27
  go_wp2_with fail
  refine (Format_any iso n ca_iso _).mono ?_
  rintro e w1 ⟨rfl, hb⟩
  go_wp2_with fail
  go_ret
  exact ⟨rfl, hb⟩

theorem ext_min (s : List UInt8) : (⟨s.toArray⟩ : ByteArray).extract (min 1 (s.length : Int)).toNat s.length = ⟨(s.drop 1).toArray⟩ := by
  rw [ext_drop s _ _ rfl]
  cases s
  · rfl
  · rename_i a l
    have : (min 1 ((a :: l).length : Int)).toNat = 1 := by simp only [List.length_cons]; omega
    rw [this]
theorem byte_ne {c k : UInt8} (h : c ≠ k) : ((c.toNat : Int) == (k.toNat : Int)) = false := by
  have : c.toNat ≠ k.toNat := fun e => h (UInt8.toNat_inj.1 e)
  rw [beq_eq_false_iff_ne]; omega
theorem takeR_len (t s : List UInt8) : (takeR t s).length ≤ s.length := by unfold takeR; simp
theorem block_new {A B : World} (h : Below A.heap.size A B) {b : Nat} {o : Obj} (hb : A.heap[b]? = some o) : B.heap[b]? = some o := (Fr.of_new h (fun _ => False)).heap hb (fun h => h)
def RdI (L s : List UInt8) (bp bs : Nat) (pre : List (List UInt8)) (mm : Nat → Prop) (W : World) : Prop :=
  ∃ a : Rd, readT pre s = a ∧ W.heap[bp]? = some (.cells #[.int .i64 a.y, .int .i64 a.m, .int .i64 a.d] 63 (0, 0)) ∧ W.heap[bs]? = some (.cells #[.string ⟨a.r.toArray⟩] 9 (0, 0)) ∧
    a.r.length ≤ s.length ∧ mm = (fun k => k = bp ∨ k = bs)

set_option maxHeartbeats 4000000 in
set_option maxRecDepth 100000 in
theorem Read_any (L s : List UInt8) (hcon : CaFor L) (hs : s.length ≤ maxLen) (w : World) :
    Calls Try.prog 25 #[.string ⟨L.toArray⟩, .string ⟨s.toArray⟩] w (Gives w (.tuple #[.int .i64 (readN L s), .bool (readOk L s)])) := by
  have HC := Lib.hid hcon
  have HM := Lib.hid hs
  clear hcon hs
  refine callsIn_wide (n := 0) |>.1 ?_
  refine callsIn_of_wp_marks Try.func25 rfl trivial ?_
  simp only [Try.ntmps25, List.size_toArray, List.length_cons, List.length_nil, Nat.reduceAdd, Nat.reduceSub, Array.replicate_succ, Array.replicate_zero, List.push_toArray, List.append_toArray, List.nil_append, List.cons_append]
  gi_wp2_with fail
  refine ⟨trivial, rfl, ?_⟩
  refine (callsIn_wide.2 (right_any L HC.out _)).mono ?_
  rintro e w1 ⟨rfl, hb1⟩
  have hrr : rightB L = true ∨ rightB L = false := by cases rightB L <;> simp
  rcases hrr with hr | hr
  case inr =>
    have HR := Lib.hid hr
    have HB := Lib.hid hb1
    rw [hr]
    clear hr hb1
    gi_wp2_with fail
    refine ⟨_, results_tmp2 rfl _ _ _, ?_, HB.out⟩
    have hf : readOk L s = false := by simp [readOk, HR.out]
    rw [show readN L s = 0 by simp [readN, hf], hf]; rfl
  have HR := Lib.hid hr
  have HL : Hid (L.length ≤ 40) := Lib.hid (rightB_len hr)
  have HB := Lib.hid hb1
  rw [hr]
  clear hr hb1
  gi_wp2_with fail
  refine ⟨trivial, rfl, ?_⟩
  refine (callsIn_wide.2 (fields_any _ _)).mono ?_
  rintro e w' ⟨rfl, rfl⟩
  gi_wp2_with fail
  obtain ⟨W0, hW0⟩ : ∃ W0, ((w1.alloc (.cells #[.int .i64 0, .int .i64 0, .int .i64 0] 63)).alloc (.cells #[.string ⟨s.toArray⟩] 9)).alloc (.cells #[.string ⟨L.toArray⟩] 9) = W0 := ⟨_, rfl⟩
  rw [hW0]
  have hs0 : W0.heap.size = w1.heap.size + 3 := by rw [← hW0]; simp
  have hbp : W0.heap[w1.heap.size]? = some (.cells #[.int .i64 0, .int .i64 0, .int .i64 0] 63 (0, 0)) := by
    rw [← hW0, Below.heap_alloc _ _ _ (by simp; omega), Below.heap_alloc _ _ _ (by simp)]
    exact heap_alloc_new w1 _
  have hbs : W0.heap[w1.heap.size + 1]? = some (.cells #[.string ⟨s.toArray⟩] 9 (0, 0)) := by
    have := heap_alloc_new (w1.alloc (.cells #[.int .i64 0, .int .i64 0, .int .i64 0] 63)) (.cells #[.string ⟨s.toArray⟩] 9)
    rw [← hW0, Below.heap_alloc _ _ _ (by simp)]
    simpa using this
  have hbl : W0.heap[w1.heap.size + 2]? = some (.cells #[.string ⟨L.toArray⟩] 9 (0, 0)) := by
    have := heap_alloc_new ((w1.alloc (.cells #[.int .i64 0, .int .i64 0, .int .i64 0] 63)).alloc (.cells #[.string ⟨s.toArray⟩] 9)) (.cells #[.string ⟨L.toArray⟩] 9)
    rw [← hW0]
    simpa using this
  have hfr0 : Below w.heap.size w W0 := by
    have hb1 := HB.out
    have hz := hb1.size
    rw [← hW0]
    exact ((hb1.alloc hz _).alloc (by simp; omega) _).alloc (by simp; omega) _
  have hz1 : Hid (w.heap.size ≤ w1.heap.size) := Lib.hid HB.out.size
  have HBS := Lib.hid hbs; have HBP := Lib.hid hbp; have HBL := Lib.hid hbl; have HS := Lib.hid hs0; have HF := Lib.hid hfr0
  clear hbs hbp hbl hs0 hfr0 hW0
  refine wp_range (xs := tokens L) (encs := fun t : List UInt8 => #[Value.string ⟨t.toArray⟩]) (Bx := fun b => b = w1.heap.size + 2) rfl (enters_of Try.func60 (by kernel_rfl) rfl) (fields_iter L (Nat.le_trans HL.out (by decide)) _ _ HBL.out) (fun _ => rfl)
    (RdI L s w1.heap.size (w1.heap.size + 1)) (fun _ _ _ => False) ?hI ?hIlt (fun _ _ _ _ h _ => h) (fun b h => by rw [HS.out]; omega)
    (fun k => k = w1.heap.size ∨ k = w1.heap.size + 1) ⟨_, rfl, HBP.out, HBS.out, Nat.le_refl _, rfl⟩ ?round ?done (fun _ _ _ h => h.elim)
  case hI =>
    rintro pre mm A B ⟨a, h1, h2, h3, h4, rfl⟩ hf
    exact ⟨a, h1, hf.heap h2 (fun h => h (.inl rfl)), hf.heap h3 (fun h => h (.inr rfl)), h4, rfl⟩
  case hIlt =>
    rintro pre mm A b ⟨a, h1, h2, h3, h4, rfl⟩ hb
    have hs := HS.out
    rcases hb with rfl | rfl
    · exact ⟨(Array.getElem?_eq_some_iff.1 h2).1, by omega, by omega, by omega⟩
    · exact ⟨(Array.getElem?_eq_some_iff.1 h3).1, by omega, by omega, by omega⟩
  case round =>
    rintro l pre x rest mm W hxs -
    gi_wp2_with fail
    refine ⟨trivial, ?_⟩
    rintro W' hW' ⟨a, h1, h2, h3, h4, rfl⟩
    obtain ⟨ay, am, ad, ar⟩ := a
    dsimp only at h2 h3 h4
    have hx : IsTok x := tokens_isTok _ L (Nat.le_refl _) x (by rw [hxs]; simp)
    have hc3 := (box_cell h3).1
    have hz3 := (box_cell h3).2
    have hpre : ∀ t, readT (pre ++ [t]) s = stepR ⟨ay, am, ad, ar⟩ t := fun t => by rw [readT_snoc, h1]
    have H2 := Lib.hid h2; have H3 := Lib.hid h3; have HX := Lib.hid hxs; have HP := Lib.hid hpre; have H4 := Lib.hid h4
    have HA : Hid (ar.length ≤ maxLen) := Lib.hid (Nat.le_trans h4 HM.out)
    have hgrow : ∀ b, (b = w1.heap.size ∨ b = w1.heap.size + 1) → (b = w1.heap.size ∨ b = w1.heap.size + 1) ∨ W'.heap.size ≤ b := fun _ h => .inl h
    have HG := Lib.hid hgrow
    clear h1 h2 h3 hxs hpre h4 hgrow hW'
    rcases hx with rfl | rfl | rfl | ⟨c, rfl⟩
    · gi_wp2_with fail
      refine ⟨trivial, rfl, ?_⟩
      refine (CallsIn.inRound l (callsIn_wide.2 (take_any [89, 89, 89, 89] ar (by decide) HA.out _))).mono ?_
      rintro e W1 ⟨rfl, hb⟩
      have hB := Lib.hid hb
      have k2 := block_new hb H2.out
      have k3 := block_new hb H3.out
      have hc5 := (box_cell k3).1
      have hz5 := (box_cell k3).2
      have hc6 : W1.cell? ⟨w1.heap.size, 0, none⟩ = some (.int .i64 ay) := by rw [Lib.cell_of_heap k2]; rfl
      have hz6 : ∀ k, W1.frozen? ⟨w1.heap.size, k, none⟩ = false := fun k => Lib.frozen_of_heap k2 k
      have K2 := Lib.hid k2; have K3 := Lib.hid k3
      clear hb k2 k3
      gi_wp2_with fail
      refine ⟨_, ⟨stepR ⟨ay, am, ad, ar⟩ [89, 89, 89, 89], HP.out _, ?_, ?_, ?_, rfl⟩, ((Fr.of_new hB.out _).setCell (p := ⟨w1.heap.size, 0, none⟩) (.inl (.inl rfl)) _).setCell (p := ⟨w1.heap.size + 1, 0, none⟩) (.inl (.inr rfl)) _, HG.out⟩
      · rw [heap_other (by omega), heap_self K2.out]; rfl
      · rw [box_set ((heap_other (by omega) _).trans K3.out)]; rfl
      · exact Nat.le_trans (takeR_len [89, 89, 89, 89] ar) H4.out
    · gi_wp2_with fail
      refine ⟨trivial, rfl, ?_⟩
      refine (CallsIn.inRound l (callsIn_wide.2 (take_any [77, 77] ar (by decide) HA.out _))).mono ?_
      rintro e W1 ⟨rfl, hb⟩
      have hB := Lib.hid hb
      have k2 := block_new hb H2.out
      have k3 := block_new hb H3.out
      have hc5 := (box_cell k3).1
      have hz5 := (box_cell k3).2
      have hc6 : W1.cell? ⟨w1.heap.size, 1, none⟩ = some (.int .i64 am) := by rw [Lib.cell_of_heap k2]; rfl
      have hz6 : ∀ k, W1.frozen? ⟨w1.heap.size, k, none⟩ = false := fun k => Lib.frozen_of_heap k2 k
      have K2 := Lib.hid k2; have K3 := Lib.hid k3
      clear hb k2 k3
      gi_wp2_with fail
      refine ⟨_, ⟨stepR ⟨ay, am, ad, ar⟩ [77, 77], HP.out _, ?_, ?_, ?_, rfl⟩, ((Fr.of_new hB.out _).setCell (p := ⟨w1.heap.size, 1, none⟩) (.inl (.inl rfl)) _).setCell (p := ⟨w1.heap.size + 1, 0, none⟩) (.inl (.inr rfl)) _, HG.out⟩
      · rw [heap_other (by omega), heap_self K2.out]; rfl
      · rw [box_set ((heap_other (by omega) _).trans K3.out)]; rfl
      · exact Nat.le_trans (takeR_len [77, 77] ar) H4.out
    · gi_wp2_with fail
      refine ⟨trivial, rfl, ?_⟩
      refine (CallsIn.inRound l (callsIn_wide.2 (take_any [68, 68] ar (by decide) HA.out _))).mono ?_
      rintro e W1 ⟨rfl, hb⟩
      have hB := Lib.hid hb
      have k2 := block_new hb H2.out
      have k3 := block_new hb H3.out
      have hc5 := (box_cell k3).1
      have hz5 := (box_cell k3).2
      have hc6 : W1.cell? ⟨w1.heap.size, 2, none⟩ = some (.int .i64 ad) := by rw [Lib.cell_of_heap k2]; rfl
      have hz6 : ∀ k, W1.frozen? ⟨w1.heap.size, k, none⟩ = false := fun k => Lib.frozen_of_heap k2 k
      have K2 := Lib.hid k2; have K3 := Lib.hid k3
      clear hb k2 k3
      gi_wp2_with fail
      refine ⟨_, ⟨stepR ⟨ay, am, ad, ar⟩ [68, 68], HP.out _, ?_, ?_, ?_, rfl⟩, ((Fr.of_new hB.out _).setCell (p := ⟨w1.heap.size, 2, none⟩) (.inl (.inl rfl)) _).setCell (p := ⟨w1.heap.size + 1, 0, none⟩) (.inl (.inr rfl)) _, HG.out⟩
      · rw [heap_other (by omega), heap_self K2.out]; rfl
      · rw [box_set ((heap_other (by omega) _).trans K3.out)]; rfl
      · exact Nat.le_trans (takeR_len [68, 68] ar) H4.out
    · by_cases e89 : c = 89
      · subst e89
        gi_wp2_with fail
        refine ⟨trivial, rfl, ?_⟩
        refine (CallsIn.inRound l (callsIn_wide.2 (take_any [89] ar (by decide) HA.out _))).mono ?_
        rintro e W1 ⟨rfl, hb⟩
        have hB := Lib.hid hb
        have k2 := block_new hb H2.out
        have k3 := block_new hb H3.out
        have hc5 := (box_cell k3).1
        have hz5 := (box_cell k3).2
        have hc6 : W1.cell? ⟨w1.heap.size, 0, none⟩ = some (.int .i64 ay) := by rw [Lib.cell_of_heap k2]; rfl
        have hz6 : ∀ k, W1.frozen? ⟨w1.heap.size, k, none⟩ = false := fun k => Lib.frozen_of_heap k2 k
        have K2 := Lib.hid k2; have K3 := Lib.hid k3
        clear hb k2 k3
        gi_wp2_with fail
        refine ⟨_, ⟨stepR ⟨ay, am, ad, ar⟩ [89], HP.out _, ?_, ?_, ?_, rfl⟩, ((Fr.of_new hB.out _).setCell (p := ⟨w1.heap.size, 0, none⟩) (.inl (.inl rfl)) _).setCell (p := ⟨w1.heap.size + 1, 0, none⟩) (.inl (.inr rfl)) _, HG.out⟩
        · rw [heap_other (by omega), heap_self K2.out]; rfl
        · rw [box_set ((heap_other (by omega) _).trans K3.out)]; rfl
        · exact Nat.le_trans (takeR_len [89] ar) H4.out
      · by_cases e77 : c = 77
        · subst e77
          gi_wp2_with fail
          refine ⟨trivial, rfl, ?_⟩
          refine (CallsIn.inRound l (callsIn_wide.2 (take_any [77] ar (by decide) HA.out _))).mono ?_
          rintro e W1 ⟨rfl, hb⟩
          have hB := Lib.hid hb
          have k2 := block_new hb H2.out
          have k3 := block_new hb H3.out
          have hc5 := (box_cell k3).1
          have hz5 := (box_cell k3).2
          have hc6 : W1.cell? ⟨w1.heap.size, 1, none⟩ = some (.int .i64 am) := by rw [Lib.cell_of_heap k2]; rfl
          have hz6 : ∀ k, W1.frozen? ⟨w1.heap.size, k, none⟩ = false := fun k => Lib.frozen_of_heap k2 k
          have K2 := Lib.hid k2; have K3 := Lib.hid k3
          clear hb k2 k3
          gi_wp2_with fail
          refine ⟨_, ⟨stepR ⟨ay, am, ad, ar⟩ [77], HP.out _, ?_, ?_, ?_, rfl⟩, ((Fr.of_new hB.out _).setCell (p := ⟨w1.heap.size, 1, none⟩) (.inl (.inl rfl)) _).setCell (p := ⟨w1.heap.size + 1, 0, none⟩) (.inl (.inr rfl)) _, HG.out⟩
          · rw [heap_other (by omega), heap_self K2.out]; rfl
          · rw [box_set ((heap_other (by omega) _).trans K3.out)]; rfl
          · exact Nat.le_trans (takeR_len [77] ar) H4.out
        · by_cases e68 : c = 68
          · subst e68
            gi_wp2_with fail
            refine ⟨trivial, rfl, ?_⟩
            refine (CallsIn.inRound l (callsIn_wide.2 (take_any [68] ar (by decide) HA.out _))).mono ?_
            rintro e W1 ⟨rfl, hb⟩
            have hB := Lib.hid hb
            have k2 := block_new hb H2.out
            have k3 := block_new hb H3.out
            have hc5 := (box_cell k3).1
            have hz5 := (box_cell k3).2
            have hc6 : W1.cell? ⟨w1.heap.size, 2, none⟩ = some (.int .i64 ad) := by rw [Lib.cell_of_heap k2]; rfl
            have hz6 : ∀ k, W1.frozen? ⟨w1.heap.size, k, none⟩ = false := fun k => Lib.frozen_of_heap k2 k
            have K2 := Lib.hid k2; have K3 := Lib.hid k3
            clear hb k2 k3
            gi_wp2_with fail
            refine ⟨_, ⟨stepR ⟨ay, am, ad, ar⟩ [68], HP.out _, ?_, ?_, ?_, rfl⟩, ((Fr.of_new hB.out _).setCell (p := ⟨w1.heap.size, 2, none⟩) (.inl (.inl rfl)) _).setCell (p := ⟨w1.heap.size + 1, 0, none⟩) (.inl (.inr rfl)) _, HG.out⟩
            · rw [heap_other (by omega), heap_self K2.out]; rfl
            · rw [box_set ((heap_other (by omega) _).trans K3.out)]; rfl
            · exact Nat.le_trans (takeR_len [68] ar) H4.out
          · have f89 : ((c.toNat : Int) == 89) = false := byte_ne e89
            have f77 : ((c.toNat : Int) == 77) = false := byte_ne e77
            have f68 : ((c.toNat : Int) == 68) = false := byte_ne e68
            have HST : Hid (stepR ⟨ay, am, ad, ar⟩ [c] = ⟨ay, am, ad, ar.drop 1⟩) := Lib.hid (by simp [stepR, e89, e77, e68])
            have hgc : (ByteArray.mk #[c])[0]'(by exact Nat.one_pos) = c := rfl
            clear e89 e77 e68
            gi_wp2_with fail
            rw [ext_min ar]
            refine ⟨_, ⟨⟨ay, am, ad, ar.drop 1⟩, (HP.out _).trans HST.out, ?_, ?_, ?_, rfl⟩, (Fr.refl _ _).setCell (p := ⟨w1.heap.size + 1, 0, none⟩) (.inl (.inr rfl)) _, HG.out⟩
            · rw [heap_other (by omega)]; exact H2.out
            · exact box_set H3.out _
            · exact Nat.le_trans (by simp) H4.out
  case done =>
    rintro mm W ⟨a, h1, h2, h3, h4, rfl⟩ hf hD
    obtain ⟨ay, am, ad, ar⟩ := a
    dsimp only at h2 h3 h4
    have hlt : W0.heap.size < W.heap.size := (Array.getElem?_eq_some_iff.1 hD).1
    have hca : W.cell? ⟨w1.heap.size, 0, none⟩ = some (.int .i64 ay) := by rw [Lib.cell_of_heap h2]; rfl
    have hcb : W.cell? ⟨w1.heap.size, 1, none⟩ = some (.int .i64 am) := by rw [Lib.cell_of_heap h2]; rfl
    have hcc : W.cell? ⟨w1.heap.size, 2, none⟩ = some (.int .i64 ad) := by rw [Lib.cell_of_heap h2]; rfl
    have hzs : ∀ k, W.frozen? ⟨w1.heap.size, k, none⟩ = false := fun k => Lib.frozen_of_heap h2 k
    have hbw : Hid (Below w.heap.size w W) := Lib.hid (HF.out.trans (hf.below (by have := HS.out; have := hz1.out; omega) (by have := hz1.out; rintro b hb ((h | h) | h) <;> omega)))
    have H1 := Lib.hid h1; have H2 := Lib.hid h2; have H3 := Lib.hid h3
    have hD' := Lib.hid hD
    clear h1 h2 h3 hD hf
    gi_wp2_with fail
    refine ⟨trivial, rfl, ?_⟩
    refine (callsIn_wide.2 (valid_any ay am ad _)).mono ?_
    rintro e W2 ⟨rfl, hb2⟩
    have hvv : validB ay am ad = true ∨ validB ay am ad = false := by cases validB ay am ad <;> simp
    rcases hvv with hv | hv
    case inr =>
      have hf : Hid (readOk L s = false) := Lib.hid (by simp [readOk, H1.out, hv])
      have hK2 : Hid (W2.heap[W0.heap.size]? = some (.deferred (some []))) := Lib.hid (block_new hb2 hD'.out)
      have hB2 : Hid (Below w.heap.size w W2) := Lib.hid (hbw.out.trans (hb2.mono hbw.out.size))
      rw [hv]
      clear hv hb2
      gi_wp2_with fail
      refine ⟨trivial, ?_⟩
      gi_wp2_with fail
      refine ⟨by simp, .inl ⟨_, _, rfl, run_takeDeferred hK2.out, ?_⟩⟩
      refine ⟨_, results_tmp2 rfl _ _ _, ?_, hB2.out.trans (belowK_b (w := w) (Nat.le_refl _) _ W0.heap.size _ _ (by have := HS.out; have := hz1.out; omega) hK2.out rfl rfl)⟩
      rw [show readN L s = 0 by simp [readN, hf.out], hf.out]; rfl
    have HV := Lib.hid hv
    rw [hv]
    clear hv
    have k2 := block_new hb2 H2.out
    have hca2 : W2.cell? ⟨w1.heap.size, 0, none⟩ = some (.int .i64 ay) := by rw [Lib.cell_of_heap k2]; rfl
    have hcb2 : W2.cell? ⟨w1.heap.size, 1, none⟩ = some (.int .i64 am) := by rw [Lib.cell_of_heap k2]; rfl
    have hcc2 : W2.cell? ⟨w1.heap.size, 2, none⟩ = some (.int .i64 ad) := by rw [Lib.cell_of_heap k2]; rfl
    have hB2 := Lib.hid hb2
    have hK2 : Hid (W2.heap[W0.heap.size]? = some (.deferred (some []))) := Lib.hid (block_new hb2 hD'.out)
    have hv' := Lib.hid ((valid_iff ay am ad).1 HV.out)
    have hdm := Lib.hid (dim_lo ay am)
    have K2 := Lib.hid k2
    clear hb2 k2
    gi_wp2_with fail
    refine ⟨trivial, rfl, ?_⟩
    refine (callsIn_wide.2 (written_any ay am ad L HL.out (by have := hv'.out; omega) (by have := hv'.out; omega) (by have := hv'.out; omega) (by have := hv'.out; omega) (by have := hv'.out; omega) (by have := hv'.out; have := hdm.out; omega) _)).mono ?_
    rintro e W3 ⟨rfl, hb3⟩
    have hK3 : Hid (W3.heap[W0.heap.size]? = some (.deferred (some []))) := Lib.hid (block_new hb3 hK2.out)
    have hB3 : Hid (Below w.heap.size w W3) := Lib.hid ((hbw.out.trans (hB2.out.mono hbw.out.size)).trans (hb3.mono (hbw.out.trans (hB2.out.mono hbw.out.size)).size))
    have k3 := block_new hb3 K2.out
    have hca3 : W3.cell? ⟨w1.heap.size, 0, none⟩ = some (.int .i64 ay) := by rw [Lib.cell_of_heap k3]; rfl
    have hcb3 : W3.cell? ⟨w1.heap.size, 1, none⟩ = some (.int .i64 am) := by rw [Lib.cell_of_heap k3]; rfl
    have hcc3 : W3.cell? ⟨w1.heap.size, 2, none⟩ = some (.int .i64 ad) := by rw [Lib.cell_of_heap k3]; rfl
    clear hb3 k3
    have hEE : (Txt.written ay am ad L == s) = true ∨ (Txt.written ay am ad L == s) = false := by cases (Txt.written ay am ad L == s) <;> simp
    rcases hEE with hE | hE
    case inr =>
      have hf : Hid (readOk L s = false) := Lib.hid (by simp only [readOk, H1.out, hE, Bool.and_false])
      gi_wp2_with fail
      refine ⟨by simp, .inl ⟨_, _, rfl, run_takeDeferred hK3.out, ?_⟩⟩
      refine ⟨_, results_tmp2 rfl _ _ _, ?_, hB3.out.trans (belowK_b (w := w) (Nat.le_refl _) _ W0.heap.size _ _ (by have := HS.out; have := hz1.out; omega) hK3.out rfl rfl)⟩
      rw [show readN L s = 0 by simp [readN, hf.out], hf.out]; rfl
    have hf : Hid (readOk L s = true) := Lib.hid (by simp only [readOk, H1.out, hE, HR.out, HV.out, Bool.and_self])
    gi_wp2_with fail
    refine ⟨trivial, rfl, ?_⟩
    refine (callsIn_wide.2 (number_any ay am ad (by have := hv'.out; omega) (by have := hv'.out; omega) (by have := hv'.out; omega) (by have := hv'.out; omega) (by have := hv'.out; omega) (by have := hv'.out; have := hdm.out; omega) _)).mono ?_
    rintro e W4 ⟨rfl, hb4⟩
    have hK4 : Hid (W4.heap[W0.heap.size]? = some (.deferred (some []))) := Lib.hid (block_new hb4 hK3.out)
    have hB4 : Hid (Below w.heap.size w W4) := Lib.hid (hB3.out.trans (hb4.mono hB3.out.size))
    clear hb4
    gi_wp2_with fail
    refine ⟨by simp, .inl ⟨_, _, rfl, run_takeDeferred hK4.out, ?_⟩⟩
    refine ⟨_, results_tmp2 rfl _ _ _, ?_, hB4.out.trans (belowK_b (w := w) (Nat.le_refl _) _ W0.heap.size _ _ (by have := HS.out; have := hz1.out; omega) hK4.out rfl rfl)⟩
    rw [show readN L s = num ay am ad by simp only [readN, hf.out, H1.out, if_true], hf.out]; rfl
set_option maxHeartbeats 400000 in
theorem Parse_any (s : List UInt8) (hs : s.length ≤ maxLen) (w : World) : Calls Try.prog 29 #[.string ⟨s.toArray⟩] w (Gives w (.tuple #[.int .i64 (readN iso s), .bool (readOk iso s)])) := by
  go_enter Try.func29, Try.ntmps29
  go_wp2_with fail
  refine (Read_any iso s ca_iso hs _).mono ?_
  rintro e w1 ⟨rfl, hb⟩
  go_wp2_with fail
  go_ret2
  exact ⟨rfl, hb⟩
end Go.Proofs.Ytfoifnhakmfefaa
