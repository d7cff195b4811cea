/- NatTexts: the walk. Each theorem names its conditions. -/
import Derived.Test.YtakbkbmjeanboaaGreatDoorSanA
import Derived.Test.YtakbkbmjeanboaaGreatDoorArgB
import Derived.Test.YtakbkbmjeanboaaGreatDoorApiE
import Derived.Test.YtakbkbmjeanboaaGreatDoorParR
import Derived.Deep.RegionHeld3
import Derived.Lib.ConvBytes
namespace Go.Proofs.YtakbkbmjeanboaaGreatDoor.natTexts
open Go.RowKit Go.Shelf
open Dgt
set_option linter.unusedVariables false

theorem made_size (l : List UInt8) : (⟨(l.take 40).toArray⟩ : ByteArray).size ≤ 40 := by
  show (l.take 40).toArray.size ≤ 40
  rw [List.size_toArray, List.length_take]; omega
theorem bytes_thawed (w : World) (e : TypeId) (s : ByteArray) {j : Nat} (h : j < s.size) : (Lib.bytesWorld w e s).frozen? ⟨w.heap.size, j, none⟩ = false := by
  have : s.size ≤ (Lib.bytesCells w e s).size := by simp [Lib.bytesCells]
  simp only [World.frozen?, Lib.bytesWorld_at_new]
  simp; omega
theorem conv_bytes (W : World) (b : Nat) (l : List UInt8) (len cap : Nat) (hl : l.length = len) (hc : ∀ j (hj : j < l.length), W.cell? ⟨b, j, none⟩ = some (.int .u8 (l[j].toNat : Int))) :
    (convert 22 9 (.slice (some ⟨b, 0, none⟩) len cap)).run Tryz.prog W = .ok (.string ⟨l.toArray⟩) W := by
  subst hl
  refine run_convert_bytes_back W _ _ 5 ⟨b, 0, none⟩ cap l Tryz.underlying22 Tryz.underlying5 Tryz.underlying9 fun j hj => ?_
  rw [← hc j hj]
  cases j <;> simp [Addr.add]
theorem set_bytes {S L : List UInt8} {C : Array Value} {q1 : Int} {p j n : Nat} (hL : L = S.set p (UInt8.ofNat q1.toNat)) (hC : ∀ j, j < n → C[j]? = some (.int .u8 ((S.getD j 0).toNat : Int))) (hj : j < n) (h0 : 0 ≤ q1) (h1 : q1 ≤ 255) (hl : j < L.length) :
    (C.setIfInBounds p (.int .u8 q1))[j]? = some (.int .u8 (L[j].toNat : Int)) := by
  subst hL
  have hjS : j < S.length := by simpa using hl
  have hjC : j < C.size := by
    have := hC j hj
    exact (Array.getElem?_eq_some_iff.1 this).1
  by_cases e : p = j
  · subst e
    rw [List.getElem_set_self]
    have : (UInt8.ofNat q1.toNat).toNat = q1.toNat := by rw [UInt8.toNat_ofNat']; omega
    rw [this]
    simp [hjC]; omega
  · rw [List.getElem_set_ne e, Array.getElem?_setIfInBounds_ne e, hC j hj]
    simp [hjS]
def Strs (a b c d e f : ByteArray) : Array Value := #[.string a, .string b, .string c, .string d, .string e, .string f]
theorem strs_at {a b c d e f : ByteArray} {j : Nat} (ha : a.size ≤ 1000) (hb : b.size ≤ 1000) (hc : c.size ≤ 1000) (hd : d.size ≤ 1000) (he : e.size ≤ 1000) (hf : f.size ≤ 1000) (h : j < 6) : ∃ t : ByteArray, (Strs a b c d e f)[j]? = some (.string t) ∧ t.size ≤ 1000 := by
  have : j = 0 ∨ j = 1 ∨ j = 2 ∨ j = 3 ∨ j = 4 ∨ j = 5 := by omega
  rcases this with rfl | rfl | rfl | rfl | rfl | rfl
  · exact ⟨a, rfl, ha⟩
  · exact ⟨b, rfl, hb⟩
  · exact ⟨c, rfl, hc⟩
  · exact ⟨d, rfl, hd⟩
  · exact ⟨e, rfl, he⟩
  · exact ⟨f, rfl, hf⟩
def ETX (raw S : ByteArray) (m gb G : Nat) (T0 T1 T2 T3 T4 T5 : ByteArray) : Nat → Value
  | 0 => .string raw
  | 1 => .string raw
  | 2 => .int .i64 (raw.size : Int)
  | 3 => .int .i64 (m : Int)
  | 4 => .string T0
  | 5 => .slice (some ⟨gb, 0, none⟩) S.size G
  | 6 => .string T1
  | 7 => .string S
  | 8 => .string T2
  | 9 => .string S
  | 10 => .string T3
  | 11 => .string S
  | 12 => .string T4
  | 13 => .string S
  | 14 => .string T5
  | 16 => .int .i64 6
  | 17 => .int .i64 0
  | _ => undef
def STX (raw S : ByteArray) (m gb G : Nat) (T0 T1 T2 T3 T4 T5 : ByteArray) (ix : Nat) (v : Value) (w : World) : Prop :=
  match ix with
  | 15 => ∃ g, v = .slice (some ⟨g, 0, none⟩) 6 6 ∧ w.heap[g]? = some (.cells (Strs T0 T1 T2 T3 T4 T5) 9 (0, 0))
  | ix => v = ETX raw S m gb G T0 T1 T2 T3 T4 T5 ix
theorem STX_up (raw S : ByteArray) (m gb G : Nat) (T0 T1 T2 T3 T4 T5 : ByteArray) (ix : Nat) (v : Value) (w w' : World) (hb : Below w.heap.size w w') (h : STX raw S m gb G T0 T1 T2 T3 T4 T5 ix v w) : STX raw S m gb G T0 T1 T2 T3 T4 T5 ix v w' := by
  unfold STX at h ⊢
  split at h
  · exact by obtain ⟨g, e1, e2⟩ := h; exact ⟨g, e1, heap_up hb e2⟩
  · exact h
set_option maxHeartbeats 4000000 in
set_option maxRecDepth 100000 in
theorem walk (v0 : Value) (x : List UInt8) (raw : ByteArray) (q0 q1 : Int) (hr : raw.size ≤ maxLen) (z0 : (Lit.int .u8 q0).wf = true) (z1 : (Lit.int .u8 q1).wf = true) (w : World) (h0 : ByR w v0 x) (htab : Lib.TabIs Tryz.prog w "internal/strconv.uint64pow10" .u64 Lib.pow10Tab) :
    Calls Tryz.prog 6 #[v0, .string raw, .agg #[.int .u8 q0, .int .u8 q1]] w fun e w' => e = .returned (.bool true) ∧ Below w.heap.size w w' := by
  obtain ⟨l0, l1⟩ := bounds_u8 z0
  obtain ⟨l2, l3⟩ := bounds_u8 z1
  have HR := Lib.hid hr
  have H0 := Lib.hid h0
  have HTB := Lib.hid (Lib.tabBelow_of_tabIs htab)
  obtain ⟨a, ha⟩ : ∃ a, (⟨(x.take 40).toArray⟩ : ByteArray) = a := ⟨_, rfl⟩
  have HA0 := Lib.hid ha
  have HAS : Hid (a.size ≤ 40) := Lib.hid (by rw [← ha]; exact made_size x)
  have SA : Hid (a.size ≤ 100000000) := Lib.hid (Nat.le_trans HAS.out (by decide))
  have RA : Hid (a.size ≤ 1000000) := Lib.hid (Nat.le_trans HAS.out (by decide))
  have HL := Lib.hid (dec_size a)
  obtain ⟨A, hA⟩ : ∃ A, numS a = A := ⟨_, rfl⟩
  rw [hA] at HL
  have NA := Lib.hid hA
  have HBX0 := Lib.hid ((Below.refl w.heap.size w).alloc (Nat.le_refl _) (.cells #[.int .u8 q0, .int .u8 q1] 38))
  have HQX0 := Lib.hid (heap_alloc_new w (.cells #[.int .u8 q0, .int .u8 q1] 38))
  have H0 := Lib.hid (H0.out.up HBX0.out)
  obtain ⟨dl, hdl⟩ : ∃ dl, Lib.decDigits A = dl := ⟨_, rfl⟩
  have HPB : Hid (parB ⟨dl.toArray⟩ = true) := Lib.hid (by rw [← hdl]; exact parB_dec A)
  have HPV : Hid (parV ⟨dl.toArray⟩ = A) := Lib.hid (by rw [← hdl]; exact parV_dec A)
  have HDL := Lib.hid hdl
  have HLN : Hid (0 < dl.length ∧ dl.length ≤ 121) := Lib.hid (by
    have h1 := HL.out
    rw [hdl] at h1
    have h2 := (dec_spec A).2.2.2
    rw [hdl] at h2
    have := List.length_pos_iff.2 h2; have := HAS.out; omega)
  clear ha hA hdl h0 hr htab z0 z1
  go_enter Tryz.func6, Tryz.ntmps6
  go_wp2_with fail
  refine (sanity_any _ (HTB.out.on HBX0.out).here).mono ?_
  rintro e w1 ⟨rfl, hb1⟩
  have HQ1 := Lib.hid (block_new hb1 HQX0.out)
  have HB1 := Lib.hid (HBX0.out.trans (hb1.mono HBX0.out.size))
  have H0 := Lib.hid (H0.out.up hb1)
  clear hb1
  go_wp2_with fail
  refine (Made_any _ _ _ H0.out).mono ?_
  rintro e w2 ⟨rfl, rfl⟩
  rw [HA0.out]
  go_wp2_with fail
  refine (Text_any a _ SA.out (HTB.out.on HB1.out).here).mono ?_
  rintro e w3 ⟨rfl, hb⟩
  rw [NA.out, HDL.out]
  have HQ3 := Lib.hid (block_new hb HQ1.out)
  have HB3 := Lib.hid (HB1.out.trans (hb.mono HB1.out.size))
  clear hb
  go_wp2_with fail
  refine (Parse_any _ _ (by show dl.length ≤ _; have := HLN.out; omega)).mono ?_
  rintro e w4 ⟨rfl, hb⟩
  rw [HPB.out, HPV.out]
  have HQ4 := Lib.hid (block_new hb HQ3.out)
  have HB4 := Lib.hid (HB3.out.trans (hb.mono HB3.out.size))
  clear hb
  go_wp2_with fail
  refine (rText_any a _ RA.out).mono ?_
  rintro e w5 ⟨rfl, hb⟩
  rw [NA.out, HDL.out]
  have HQ5 := Lib.hid (block_new hb HQ4.out)
  have HB5 := Lib.hid (HB4.out.trans (hb.mono HB4.out.size))
  clear hb
  go_wp2_with fail
  refine (Canon_any a _ SA.out).mono ?_
  rintro e w6 ⟨rfl, rfl⟩
  rw [NA.out]
  obtain ⟨S, hS⟩ : ∃ S : ByteArray, (⟨dl.toArray⟩ : ByteArray) = S := ⟨_, rfl⟩
  rw [hS]
  obtain ⟨L, hL⟩ : ∃ L, S.size = L := ⟨_, rfl⟩
  have hL1 : 0 < L ∧ L ≤ 121 := by rw [← hL, ← hS]; exact HLN.out
  have HLL := Lib.hid hL
  have HL1 := Lib.hid hL1
  have HS := Lib.hid hS
  have hnb : ((S.size : Int) == 0) = false := by rw [beq_eq_false_iff_ne]; omega
  clear hS hL hL1
  go_wp2_with fail
  rw [Lib.run_convert_string_bytes _ _ _ 5 _ Tryz.underlying9 Tryz.underlying22 Tryz.underlying5]
  obtain ⟨G, hG⟩ : ∃ G, grownCap w5 S.size 0 5 = G := ⟨_, rfl⟩
  obtain ⟨W7, hW7⟩ : ∃ W7, Lib.bytesWorld w5 5 S = W7 := ⟨_, rfl⟩
  rw [hG, hW7]
  obtain ⟨r, hr⟩ : ∃ r : Nat, q0 % (L : Int) = (r : Int) := ⟨(q0 % (L : Int)).toNat, by
    have := HL1.out.1
    have := Int.emod_nonneg q0 (b := (L : Int)) (by omega); omega⟩
  have hrL : r < L := by
    have := HL1.out.1
    have := Int.emod_lt_of_pos q0 (b := (L : Int)) (by omega); omega
  have hSs : ∀ j, j < L → (Lib.bytesCells w5 5 S)[j]? = some (.int .u8 ((dl.getD j 0).toNat : Int)) := fun j hj => by
    have h := Lib.bytesWorld_cell w5 5 S j (by rw [HLL.out]; exact hj)
    rw [Lib.cell_of_heap (Lib.bytesWorld_at_new _ _ _)] at h
    rw [h, ← HS.out]
  have hC := Lib.bytesWorld_at_new w5 5 S
  rw [hW7] at hC
  have hfz : W7.frozen? ⟨w5.heap.size, r, none⟩ = false := by rw [← hW7]; exact bytes_thawed _ _ _ (by rw [HLL.out]; exact hrL)
  have hB7 : Below w.heap.size w W7 := by rw [← hW7]; exact HB5.out.trans ((below_bytes _ _ _).mono HB5.out.size)
  have hQ7 : W7.heap[w.heap.size]? = some (.cells #[.int .u8 q0, .int .u8 q1] 38 (0, 0)) := by
    rw [← hW7, Lib.bytesWorld_at_old _ _ _ _ (Array.getElem?_eq_some_iff.1 HQ5.out).1]; exact HQ5.out
  have c0 : W7.cell? ⟨w.heap.size, 0, none⟩ = some (.int .u8 q0) := by rw [Lib.cell_of_heap hQ7]; rfl
  have c1 : W7.cell? ⟨w.heap.size, 1, none⟩ = some (.int .u8 q1) := by rw [Lib.cell_of_heap hQ7]; rfl
  have hne : w5.heap.size ≠ w.heap.size := Nat.ne_of_gt (Array.getElem?_eq_some_iff.1 HQ5.out).1
  have hne' : w.heap.size ≠ w5.heap.size := hne.symm
  have e0 : IntKind.i64.wrap q0 = q0 := by rw [IntKind.wrap_i64]; omega
  have e1 : q0.tmod (S.size : Int) = (r : Int) := by rw [HLL.out, Int.tmod_eq_emod_of_nonneg l0, hr]
  have jc : W7.cell? ⟨w5.heap.size, r, none⟩ = some (.int .u8 ((dl.getD r 0).toNat : Int)) := by rw [Lib.cell_of_heap hC]; exact hSs r hrL
  have b2 : (r : Int) < (S.size : Int) := by rw [HLL.out]; omega
  obtain ⟨C, hCC⟩ : ∃ C, Lib.bytesCells w5 5 S = C := ⟨_, rfl⟩
  rw [hCC] at hC hSs
  have HC := Lib.hid hC; have HCJ := Lib.hid hSs
  have HB7 := Lib.hid hB7; have HRL := Lib.hid hrL
  have hnz : ¬ (S.size : Int) = 0 := by rw [HLL.out]; omega
  have hnz2 : ¬ S.size = 0 := by rw [HLL.out]; omega
  have hnz3 : ¬ S = ByteArray.empty := by intro h; rw [h] at hnz2; exact hnz2 rfl
  clear hC hSs hCC hB7 hQ7 hW7 hG hrL hr
  go_wp2_with fail
  go_region_held3 (fun w' => w'.cell? ⟨w.heap.size, 0, none⟩ = some (.int .u8 q0) ∧ w'.cell? ⟨w.heap.size, 1, none⟩ = some (.int .u8 q1)) (first | go_keep) (first | fail)
  obtain ⟨W8, hW8⟩ : ∃ W8, (W7.setCell ⟨w5.heap.size, r, none⟩ (.int .u8 q1)).drew = W8 := ⟨_, rfl⟩
  obtain ⟨Lb, hLb⟩ : ∃ Lb, Lb = dl.set r (UInt8.ofNat q1.toNat) := ⟨_, rfl⟩
  have hdlL : dl.length = L := by rw [← HLL.out, ← HS.out]; rfl
  have hLl : Lb.length = S.size := by rw [hLb, List.length_set, hdlL, HLL.out]
  have hB8 : Below w.heap.size w W8 := by rw [← hW8]; exact (HB7.out.setCell (p := ⟨w5.heap.size, r, none⟩) HB5.out.size _).drew
  have hC8 : W8.heap[w5.heap.size]? = some (.cells (C.setIfInBounds r (.int .u8 q1)) 5 (C.size, C.size + 1)) := by
    rw [← hW8]; exact heap_self HC.out _
  have hcv : ∀ W, Below W8.heap.size W8 W → (convert 22 9 (.slice (some ⟨w5.heap.size, 0, none⟩) S.size G)).run Tryz.prog W = .ok (.string ⟨Lb.toArray⟩) W := fun W hW =>
    conv_bytes W w5.heap.size Lb S.size G hLl (fun j hj => by
      rw [Lib.cell_of_heap (block_new hW hC8)]
      exact set_bytes hLb HCJ.out (by rw [hLl, HLL.out] at hj; exact hj) l2 l3 hj)
  rw [hW8]
  have HB8 := Lib.hid hB8
  obtain ⟨m, hm⟩ : ∃ m : Nat, min raw.size 100 = m := ⟨_, rfl⟩
  have hm1 : min (raw.size : Int) 100 = (m : Int) := by omega
  have hm2 : (m : Int) ≤ (raw.size : Int) := by omega
  obtain ⟨T0, hT0⟩ : ∃ T0, raw.extract 0 m = T0 := ⟨_, rfl⟩
  obtain ⟨T1, hT1⟩ : ∃ T1 : ByteArray, (⟨Lb.toArray⟩ : ByteArray) = T1 := ⟨_, rfl⟩
  obtain ⟨T2, hT2⟩ : ∃ T2, (⟨#[48]⟩ : ByteArray) ++ S = T2 := ⟨_, rfl⟩
  obtain ⟨T3, hT3⟩ : ∃ T3, S ++ (⟨#[48]⟩ : ByteArray) = T3 := ⟨_, rfl⟩
  obtain ⟨T4, hT4⟩ : ∃ T4, S.extract 1 S.size = T4 := ⟨_, rfl⟩
  obtain ⟨T5, hT5⟩ : ∃ T5, S ++ (⟨#[32]⟩ : ByteArray) = T5 := ⟨_, rfl⟩
  have HSTR := Lib.hid (show ∀ j, j < 6 → ∃ t : ByteArray, (Strs T0 T1 T2 T3 T4 T5)[j]? = some (.string t) ∧ t.size ≤ 1000 from fun j h => strs_at
    (by rw [← hT0, ByteArray.size_extract]; omega) (by rw [← hT1]; show Lb.length ≤ 1000; rw [hLl, HLL.out]; have := HL1.out; omega)
    (by rw [← hT2, ByteArray.size_append, HLL.out]; show 1 + L ≤ 1000; have := HL1.out; omega) (by rw [← hT3, ByteArray.size_append, HLL.out]; show L + 1 ≤ 1000; have := HL1.out; omega)
    (by rw [← hT4, ByteArray.size_extract, HLL.out]; have := HL1.out; omega) (by rw [← hT5, ByteArray.size_append, HLL.out]; show L + 1 ≤ 1000; have := HL1.out; omega) h)
  rw [hT1] at hcv
  have hS9 : S.size ≤ 121 := by rw [HLL.out]; exact HL1.out.2
  have hS1 : (1 : Int) ≤ (S.size : Int) := by have := HL1.out; rw [HLL.out]; omega
  obtain ⟨gb, hgb⟩ : ∃ gb, w5.heap.size = gb := ⟨_, rfl⟩
  rw [hgb] at hcv ⊢
  clear hB8 hC8 hW8 hLb hLl hdlL c0 c1 jc hfz e0 e1 b2 hne hne' hm hT1 hgb hnz hnz2 hnz3
  go_wp2_with fail
  refine wp_region_vals (w := W8) (by kernel_rfl) (STX raw S m gb G T0 T1 T2 T3 T4 T5) (fun t => (decide (60 ≤ t) && decide (t < 78))) (by kernel_rfl) (by kernel_rfl) (by kernel_rfl) (STX_up raw S m gb G T0 T1 T2 T3 T4 T5) ?_ ?_
  · intro i hi o listed a w hR K hK
    have ho := hR.at_
    have hi : i < 18 := hi
    have hii : i = 0 ∨ i = 1 ∨ i = 2 ∨ i = 3 ∨ i = 4 ∨ i = 5 ∨ i = 6 ∨ i = 7 ∨ i = 8 ∨ i = 9 ∨ i = 10 ∨ i = 11 ∨ i = 12 ∨ i = 13 ∨ i = 14 ∨ i = 15 ∨ i = 16 ∨ i = 17 := by omega
    rcases hii with rfl | rfl | rfl | rfl | rfl | rfl | rfl | rfl | rfl | rfl | rfl | rfl | rfl | rfl | rfl | rfl | rfl | rfl
    · simp at ho
      subst ho
      have b1 : a.tmps.getD 1 undef = .string raw := hR.base 1 (by kernel_rfl)
      refine plain_step rfl rfl ?_
      go_simp
      exact hK _ _ (rfl) (Below.refl _ _)
    · simp at ho
      subst ho
      have b1 : a.tmps.getD 1 undef = .string raw := hR.base 1 (by kernel_rfl)
      refine plain_step rfl rfl ?_
      go_simp
      exact hK _ _ (rfl) (Below.refl _ _)
    · simp at ho
      subst ho
      have e1 : a.tmps.getD 61 undef = .string raw := hR.dep ⟨1, .data⟩ (by simp) rfl
      refine plain_step rfl rfl ?_
      go_simp
      exact hK _ _ (rfl) (Below.refl _ _)
    · simp at ho
      subst ho
      have e2 : a.tmps.getD 62 undef = .int .i64 (raw.size : Int) := hR.dep ⟨2, .data⟩ (by simp) rfl
      refine plain_step rfl rfl ?_
      go_simp
      exact hK _ _ (rfl) (Below.refl _ _)
    · simp at ho
      subst ho
      have e0 : a.tmps.getD 60 undef = .string raw := hR.dep ⟨0, .data⟩ (by simp) rfl
      have e3 : a.tmps.getD 63 undef = .int .i64 (m : Int) := hR.dep ⟨3, .data⟩ (by simp) rfl
      refine plain_step rfl rfl ?_
      go_simp
      exact hK _ _ (rfl) (Below.refl _ _)
    · simp at ho
      subst ho
      have b12 : a.tmps.getD 12 undef = .slice (some ⟨gb, 0, none⟩) S.size G := hR.base 12 (by kernel_rfl)
      refine plain_step rfl rfl ?_
      go_simp
      exact hK _ _ (rfl) (Below.refl _ _)
    · simp at ho
      subst ho
      have e5 : a.tmps.getD 65 undef = .slice (some ⟨gb, 0, none⟩) S.size G := hR.dep ⟨5, .data⟩ (by simp) rfl
      refine plain_step rfl rfl ?_
      go_simp
      rw [hcv w hR.below]
      go_simp
      exact hK _ _ (rfl) (Below.refl _ _)
    · simp at ho
      subst ho
      have b9 : a.tmps.getD 9 undef = .string S := hR.base 9 (by kernel_rfl)
      refine plain_step rfl rfl ?_
      go_simp
      exact hK _ _ (rfl) (Below.refl _ _)
    · simp at ho
      subst ho
      have e7 : a.tmps.getD 67 undef = .string S := hR.dep ⟨7, .data⟩ (by simp) rfl
      refine plain_step rfl rfl ?_
      go_simp
      rw [if_neg (by omega)]
      go_simp
      exact hK _ _ (rfl) (Below.refl _ _)
    · simp at ho
      subst ho
      have b9 : a.tmps.getD 9 undef = .string S := hR.base 9 (by kernel_rfl)
      refine plain_step rfl rfl ?_
      go_simp
      exact hK _ _ (rfl) (Below.refl _ _)
    · simp at ho
      subst ho
      have e9 : a.tmps.getD 69 undef = .string S := hR.dep ⟨9, .data⟩ (by simp) rfl
      refine plain_step rfl rfl ?_
      go_simp
      rw [if_neg (by omega)]
      go_simp
      exact hK _ _ (rfl) (Below.refl _ _)
    · simp at ho
      subst ho
      have b9 : a.tmps.getD 9 undef = .string S := hR.base 9 (by kernel_rfl)
      refine plain_step rfl rfl ?_
      go_simp
      exact hK _ _ (rfl) (Below.refl _ _)
    · simp at ho
      subst ho
      have e11 : a.tmps.getD 71 undef = .string S := hR.dep ⟨11, .data⟩ (by simp) rfl
      refine plain_step rfl rfl ?_
      go_simp
      exact hK _ _ (rfl) (Below.refl _ _)
    · simp at ho
      subst ho
      have b9 : a.tmps.getD 9 undef = .string S := hR.base 9 (by kernel_rfl)
      refine plain_step rfl rfl ?_
      go_simp
      exact hK _ _ (rfl) (Below.refl _ _)
    · simp at ho
      subst ho
      have e13 : a.tmps.getD 73 undef = .string S := hR.dep ⟨13, .data⟩ (by simp) rfl
      refine plain_step rfl rfl ?_
      go_simp
      rw [if_neg (by omega)]
      go_simp
      exact hK _ _ (rfl) (Below.refl _ _)
    · simp at ho
      subst ho
      have e4 : a.tmps.getD 64 undef = .string T0 := hR.dep ⟨4, .data⟩ (by simp) rfl
      have e6 : a.tmps.getD 66 undef = .string T1 := hR.dep ⟨6, .data⟩ (by simp) rfl
      have e8 : a.tmps.getD 68 undef = .string T2 := hR.dep ⟨8, .data⟩ (by simp) rfl
      have e10 : a.tmps.getD 70 undef = .string T3 := hR.dep ⟨10, .data⟩ (by simp) rfl
      have e12 : a.tmps.getD 72 undef = .string T4 := hR.dep ⟨12, .data⟩ (by simp) rfl
      have e14 : a.tmps.getD 74 undef = .string T5 := hR.dep ⟨14, .data⟩ (by simp) rfl
      have f4 : (a.tmps[64]?).getD undef = .string T0 := by rw [← Array.getD_eq_getD_getElem?]; exact e4
      have f6 : (a.tmps[66]?).getD undef = .string T1 := by rw [← Array.getD_eq_getD_getElem?]; exact e6
      have f8 : (a.tmps[68]?).getD undef = .string T2 := by rw [← Array.getD_eq_getD_getElem?]; exact e8
      have f10 : (a.tmps[70]?).getD undef = .string T3 := by rw [← Array.getD_eq_getD_getElem?]; exact e10
      have f12 : (a.tmps[72]?).getD undef = .string T4 := by rw [← Array.getD_eq_getD_getElem?]; exact e12
      have f14 : (a.tmps[74]?).getD undef = .string T5 := by rw [← Array.getD_eq_getD_getElem?]; exact e14
      refine plain_step rfl rfl ?_
      go_simp
      exact hK _ _ (⟨_, rfl, heap_alloc_new _ _⟩) ((Below.refl _ _).alloc (Nat.le_refl _) _)
    · simp at ho
      subst ho
      obtain ⟨g, e, -⟩ : ∃ g, a.tmps.getD 75 undef = .slice (some ⟨g, 0, none⟩) 6 6 ∧ w.heap[g]? = some (.cells (Strs T0 T1 T2 T3 T4 T5) 9 (0, 0)) := hR.dep ⟨15, .data⟩ (by simp) rfl
      refine plain_step rfl rfl ?_
      go_simp
      exact hK _ _ (rfl) (Below.refl _ _)
    · simp at ho
      subst ho
      refine plain_step rfl rfl ?_
      go_simp
      exact hK _ _ (rfl) (Below.refl _ _)
  · intro s w9 hS hb
    have e16 : s 76 = .int .i64 6 := hS 16 (by decide)
    have e17 : s 77 = .int .i64 0 := hS 17 (by decide)
    simp only [over, Nat.zero_add, Nat.reduceAdd, Nat.reduceLeDiff, Nat.reduceLT, decide_true, decide_false, Bool.and_true, Bool.and_false, cond_true, cond_false]
    obtain ⟨g, e75, hg⟩ : ∃ g, s 75 = .slice (some ⟨g, 0, none⟩) 6 6 ∧ w9.heap[g]? = some (.cells (Strs T0 T1 T2 T3 T4 T5) 9 (0, 0)) := hS 15 (by decide)
    have HB9 := Lib.hid (HB8.out.trans (hb.mono HB8.out.size))
    have HG := Lib.hid hg
    have HGL := Lib.hid (Array.getElem?_eq_some_iff.1 hg).1
    clear hb hS hg hS9 hT0 hT2 hT3 hT4 hT5 hcv hm1 hm2 hS1
    rw [e75, e16, e17]
    clear e75 e16 e17
    go_wp2_with fail
    go_loopw [77] (fun i wr => ∃ j : Nat, j ≤ 6 ∧ i = .int .i64 (j : Int) ∧ Hid (Below w9.heap.size w9 wr)) (fun i _ => 6 - (intOf i).toNat)
    case atStart => exact ⟨0, by omega, rfl, Lib.hid (Below.refl _ _)⟩
    case round =>
      obtain ⟨j, hj, rfl, HBW⟩ := hrel
      by_cases hlt : j < 6
      · obtain ⟨t, hx, hlt2⟩ := HSTR.out j hlt
        have cx : wr.cell? ⟨g, j, none⟩ = some (.string t) := by rw [Lib.cell_of_heap (block_new HBW.out HG.out)]; exact hx
        have HLT := Lib.hid hlt2
        have hlt' : (j : Int) < 6 := by omega
        clear hx hlt2 hlt
        go_wp2_with fail
        refine (Parse_any t _ (by have := HLT.out; omega)).mono ?_
        rintro e v2 ⟨rfl, hb2⟩
        have HB2 := Lib.hid (HBW.out.trans (hb2.mono HBW.out.size))
        clear hb2 cx
        go_wp2_with fail
        refine (rParse_any t _ (by have := HLT.out; omega)).mono ?_
        rintro e v3 ⟨rfl, hb3⟩
        have HB3 := Lib.hid (HB2.out.trans (hb3.mono HB2.out.size))
        clear hb3
        go_wp2_with fail
        go_roundw
        case rel => exact ⟨j + 1, by omega, by go_num, HB3⟩
        case measure => simp [intOf]; omega
      · have hj5 : ¬ (j : Int) < 6 := by omega
        clear hlt
        go_wp2_with fail
        go_ret
        exact ⟨rfl, HB9.out.trans (HBW.out.mono HB9.out.size)⟩
end Go.Proofs.YtakbkbmjeanboaaGreatDoor.natTexts
