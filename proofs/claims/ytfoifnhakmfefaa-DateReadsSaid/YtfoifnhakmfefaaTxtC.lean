/- Contracts of fields, written, Format, Text of package date; each theorem names its conditions. -/
import Derived.Test.YtfoifnhakmfefaaTxtB
namespace Go.Proofs.Ytfoifnhakmfefaa
open Go.RowKit Go.Shelf
open Cal Txt
set_option linter.unusedVariables false
attribute [local go_sem] Oper.semAt_some

set_option maxHeartbeats 400000 in
theorem fields_any (s : ByteArray) (w : World) :
    Calls Try.prog 48 #[.string s] w fun e w' => e = .returned (.func (.func 60) #[] #[.pointer (some ⟨w.heap.size, 0, none⟩)]) ∧ w.alloc (.cells #[.string s] 9) = w' := by
  go_enter Try.func48, Try.ntmps48
  go_wp2_with fail
  go_ret
  exact ⟨rfl, rfl⟩

def WrI (y m d : Int) (n0 bx bB : Nat) (fv : Value) (pre : List (List UInt8)) (mm : Nat → Prop) (W : World) : Prop :=
  ∃ v, Bld bB v (wrAll y m d pre) W ∧ W.heap[bx]? = some (.cells #[fv] 66 (0, 0)) ∧ (∀ k, v.ownBlock = some k → n0 ≤ k) ∧ mm = (fun k => Bm bB v k ∨ k = bx)
theorem Bld.isBuilder {b : Nat} {v : Value} {bs : List UInt8} {W : World} (h : Bld b v bs W) {B : Nat} (hB : B ≤ b) (hv : ∀ k, v.ownBlock = some k → B ≤ k) : Lib.IsBuilderF 79 5 B b (Lib.byteCells bs) W := by
  obtain ⟨⟨p, hp, hb⟩, ho, hn⟩ := h
  refine Lib.IsBuilderF.of ?_
  have ho' : W.ownsRow B 5 1 v (Lib.byteCells bs).length (Lib.byteCells bs) := by
    rw [Lib.byteCells_length]
    refine ⟨ho.1, ?_⟩
    rcases ho.2 with h | ⟨g, cap, cur, rfl, h1, h2⟩
    · exact .inl h
    · exact .inr ⟨g, cap, cur, rfl, hv g rfl, h2⟩
  rcases hp with rfl | rfl
  · exact .inl ⟨hB, v, hb, ho', hn⟩
  · exact .inr ⟨hB, v, hb, ho', hn⟩

set_option maxHeartbeats 4000000 in
set_option maxRecDepth 100000 in
theorem written_any (y m d : Int) (L : List UInt8) (hL : L.length ≤ 40) (hy0 : 0 ≤ y) (hy : y ≤ 9999) (hm0 : 0 ≤ m) (hm : m ≤ 99) (hd0 : 0 ≤ d) (hd : d ≤ 99) (w : World) :
    Calls Try.prog 43 #[.string ⟨L.toArray⟩, .func (.func 44) #[.agg #[.int .i64 y, .int .i64 m, .int .i64 d]] #[]] w (Gives w (.string ⟨(Txt.written y m d L).toArray⟩)) := by
  refine callsIn_wide (n := 0) |>.1 ?_
  refine callsIn_of_wp_marks Try.func43 rfl trivial ?_
  simp only [Try.ntmps43, List.size_toArray, List.length_cons, List.length_nil, Nat.reduceAdd, Nat.reduceSub, Array.replicate_succ, Array.replicate_zero, List.push_toArray, List.append_toArray, List.nil_append, List.cons_append]
  gi_wp2_with fail
  refine ⟨trivial, rfl, ?_⟩
  refine (callsIn_wide.2 (fields_any _ _)).mono ?_
  rintro e w' ⟨rfl, rfl⟩
  gi_wp2_with fail
  have hsz := World.size_alloc w (.cells #[.func (.func 44) #[.agg #[.int .i64 y, .int .i64 m, .int .i64 d]] #[]] 66)
  obtain ⟨W0, hW0⟩ : ∃ W0, ((w.alloc (.cells #[.func (.func 44) #[.agg #[.int .i64 y, .int .i64 m, .int .i64 d]] #[]] 66)).alloc (.cells #[.pointer none, .slice none 0 0] 79)).alloc (.cells #[.string ⟨L.toArray⟩] 9) = W0 := ⟨_, rfl⟩
  rw [hW0]
  have hs0 : W0.heap.size = w.heap.size + 3 := by rw [← hW0]; simp
  have hbx : W0.heap[w.heap.size]? = some (.cells #[.func (.func 44) #[.agg #[.int .i64 y, .int .i64 m, .int .i64 d]] #[]] 66 (0, 0)) := by
    rw [← hW0, Below.heap_alloc _ _ _ (by simp; omega), Below.heap_alloc _ _ _ (by simp)]
    exact heap_alloc_new w _
  have hbld : Bld (w.heap.size + 1) (.slice none 0 0) (wrAll y m d []) W0 := by
    have := Bld.new (w.alloc (.cells #[.func (.func 44) #[.agg #[.int .i64 y, .int .i64 m, .int .i64 d]] #[]] 66))
    rw [hsz] at this
    rw [← hW0]
    exact this.hangs (m := fun _ => False) ((Fr.refl _ _).alloc _) (fun _ _ h => h)
  have hbl : W0.heap[w.heap.size + 2]? = some (.cells #[.string ⟨L.toArray⟩] 9 (0, 0)) := by
    rw [← hW0]
    have := heap_alloc_new ((w.alloc (.cells #[.func (.func 44) #[.agg #[.int .i64 y, .int .i64 m, .int .i64 d]] #[]] 66)).alloc (.cells #[.pointer none, .slice none 0 0] 79)) (.cells #[.string ⟨L.toArray⟩] 9)
    simp at this ⊢
    exact this
  have hfr0 : Fr (fun _ => False) w W0 := by rw [← hW0]; exact (((Fr.refl _ w).alloc _).alloc _).alloc _
  have HB := Lib.hid hbx; have HL := Lib.hid hbl; have HS := Lib.hid hs0; have HD := Lib.hid hbld
  clear hbx hbl hs0 hbld hW0 hsz
  refine wp_range (xs := tokens L) (encs := fun t : List UInt8 => #[Value.string ⟨t.toArray⟩]) (Bx := fun b => b = w.heap.size + 2) rfl (enters_of Try.func60 (by kernel_rfl) rfl) (fields_iter L (by omega) _ _ HL.out) (fun _ => rfl)
    (WrI y m d (w.heap.size + 5) w.heap.size (w.heap.size + 1) (.func (.func 44) #[.agg #[.int .i64 y, .int .i64 m, .int .i64 d]] #[])) (fun _ _ _ => False) ?hI ?hIlt (fun _ _ _ _ h _ => h) (fun b h => by rw [HS.out]; omega)
    (fun k => Bm (w.heap.size + 1) (.slice none 0 0) k ∨ k = w.heap.size) ⟨_, HD.out, HB.out, by simp [Value.ownBlock], rfl⟩ ?round ?done (fun _ _ _ h => h.elim)
  case hI =>
    rintro pre mm A B ⟨v, h1, h2, h3, rfl⟩ hf
    exact ⟨v, h1.hangs hf (fun k hk h => h (.inl hk)), hf.heap h2 (fun h => h (.inr rfl)), h3, rfl⟩
  case hIlt =>
    rintro pre mm A b ⟨v, h1, h2, h3, rfl⟩ hb
    have hs := HS.out
    rcases hb with hb | rfl
    · refine ⟨h1.lt b hb, ?_⟩
      rcases hb with rfl | hb
      · exact ⟨by omega, by omega, by omega⟩
      · have := h3 b hb
        exact ⟨by omega, by omega, by omega⟩
    · exact ⟨(Array.getElem?_eq_some_iff.1 h2).1, by omega, by omega, by omega⟩
  case round =>
    rintro l pre x rest mm W hxs -
    gi_wp2_with fail
    refine ⟨trivial, ?_⟩
    rintro W' hW' ⟨v, h1, h2, h3, rfl⟩
    have hc := (box_cell h2).1
    have hx : IsTok x := tokens_isTok _ L (Nat.le_refl _) x (by rw [hxs]; simp)
    have hlen : (wrAll y m d pre).length + (wr y m d x).length ≤ 1000000 := by
      have a1 := wrAll_len y m d pre (fun t ht => tokens_isTok _ L (Nat.le_refl _) t (by rw [hxs]; simp [ht]))
      have a2 := wr_len y m d x hx
      have a3 := tokens_len _ L (Nat.le_refl _)
      rw [hxs] at a3
      simp at a3
      omega
    have H1 := Lib.hid h1; have H2 := Lib.hid h2; have HX := Lib.hid hxs; have H3 := Lib.hid h3
    have HW := Lib.hid hW'
    clear h1 h2 hxs h3 hW'
    gi_wp2_with fail
    refine ⟨trivial, rfl, ?_⟩
    refine (CallsIn.inRound l (callsIn_wide.2 (write_any y m d x hx hy0 hy hm0 hm hd0 hd _))).mono ?_
    rintro e W1 ⟨rfl, hb1⟩
    have hB1 : Bld (w.heap.size + 1) v (wrAll y m d pre) W1 := H1.out.hangs (m := fun _ => False) (Fr.of_new hb1 _) (fun _ _ h => h)
    have hc1 := (box_cell ((Fr.of_new hb1 (fun _ => False)).heap H2.out (fun h => h))).1
    gi_wp2_with fail
    refine ⟨trivial, rfl, ?_⟩
    refine (CallsIn.inRound l (callsIn_wide.2 (WriteString_any _ v _ _ _ hB1 hlen))).mono ?_
    rintro e W2 ⟨rfl, v', hB2, hf2, hg2⟩
    gi_wp2_with fail
    have hF : Fr (fun k => Bm (w.heap.size + 1) v k ∨ k = w.heap.size) W' W2 := (Fr.of_new hb1 _).trans' hf2 (fun b hb => .inl (.inl hb))
    refine ⟨_, ⟨v', by rw [wrAll_snoc]; exact hB2, hf2.heap ((Fr.of_new hb1 (fun _ => False)).heap H2.out (fun h => h)) ?_, ?_, rfl⟩, hF, ?_⟩
    · rintro (h | h)
      · omega
      · have := H3.out _ h; omega
    · intro k hk
      rcases hg2 k (.inr hk) with (h | h) | h
      · exact absurd (h ▸ hk) hB2.2.2
      · exact H3.out k h
      · have := hb1.size; have := HW.out; have := HS.out; omega
    · rintro k (h | h)
      · rcases hg2 k h with h | h
        · exact .inl (.inl h)
        · exact .inr (Nat.le_trans hb1.size h)
      · exact .inl (.inr h)
  case done =>
    rintro mm W ⟨v, h1, h2, h3, rfl⟩ hf hD
    have hD' := Lib.hid hD
    have hlt : W0.heap.size < W.heap.size := (Array.getElem?_eq_some_iff.1 hD).1
    clear hD
    gi_wp2_with fail
    refine ⟨trivial, rfl, ?_⟩
    refine (callsIn_wide.2 (Try.Builder_String_any_k w.heap.size (w.heap.size + 1) _ W (h1.isBuilder (by omega) (fun k hk => by have := h3 k hk; omega)) (by have := HS.out; omega))).mono ?_
    rintro e W1 ⟨rfl, -, hb1, hk1⟩
    have hK := hk1 _ _ hD'.out (by have := HS.out; simp; omega) (by intro c fz h; cases h)
    have hbw : Below w.heap.size w W1 := ((hfr0.below (Nat.le_refl _) (fun _ _ h => h)).trans (hf.below (by have := HS.out; omega) (by rintro b hb (((h | h) | h) | h) <;> first | omega | (simp [Value.ownBlock] at h)))).trans hb1
    gi_wp2_with fail
    refine ⟨by simp, .inl ⟨_, _, rfl, run_takeDeferred hK, ?_⟩⟩
    exact ⟨_, results_tmp rfl _ _ _, rfl, hbw.trans (belowK_b (w := w) (Nat.le_refl _) W1 W0.heap.size _ _ (by have := HS.out; omega) hK rfl rfl)⟩
end Go.Proofs.Ytfoifnhakmfefaa
