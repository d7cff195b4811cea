/- NatSums: the walk. Each theorem names its conditions. -/
import Derived.Test.YtakbkbmjeanboaaGreatDoorSanA
import Derived.Test.YtakbkbmjeanboaaGreatDoorArgB
import Derived.Test.YtakbkbmjeanboaaGreatDoorApiE
import Derived.Test.YtakbkbmjeanboaaGreatDoorRefY
namespace Go.Proofs.YtakbkbmjeanboaaGreatDoor.natSums
open Go.RowKit Go.Shelf
open Dgt
set_option linter.unusedVariables false

theorem made_size (l : List UInt8) : (⟨(l.take 40).toArray⟩ : ByteArray).size ≤ 40 := by
  show (l.take 40).toArray.size ≤ 40
  rw [List.size_toArray, List.length_take]; omega
def ESU (g : Nat) (c d : ByteArray) (C D : Nat) : Nat → Value
  | 0 => .pointer (some ⟨g, 0, none⟩)
  | 1 => .string c
  | 2 => .pointer (some ⟨g, 1, none⟩)
  | 3 => .string d
  | 4 => .string (encS (C + D))
  | 5 => .pointer (some ⟨g, 0, none⟩)
  | 6 => .string c
  | 7 => .pointer (some ⟨g, 1, none⟩)
  | 8 => .string d
  | 9 => .string (encS (C + D))
  | 10 => .bool false
  | 11 => .bool false
  | 12 => .string (encS (C - D))
  | 13 => .string (encS (C - D))
  | 14 => .bool false
  | 15 => .bool false
  | 16 => .bool false
  | 17 => .bool (decide (D ≤ C))
  | 18 => .bool (decide (D ≤ C))
  | 19 => .bool false
  | 20 => .bool false
  | 21 => .bool false
  | 22 => .pointer (some ⟨g, 0, none⟩)
  | 23 => .string c
  | 24 => .pointer (some ⟨g, 1, none⟩)
  | 25 => .string d
  | 26 => .int .i64 (cmpI C D)
  | 27 => .pointer (some ⟨g, 0, none⟩)
  | 28 => .string c
  | 29 => .pointer (some ⟨g, 1, none⟩)
  | 30 => .string d
  | 31 => .int .i64 (cmpI C D)
  | 32 => .bool false
  | 33 => .bool false
  | _ => undef
def SSU (g : Nat) (c d : ByteArray) (C D : Nat) (ix : Nat) (v : Value) (w : World) : Prop :=
  match ix with
  | ix => v = ESU g c d C D ix
theorem SSU_up (g : Nat) (c d : ByteArray) (C D : Nat) (ix : Nat) (v : Value) (w w' : World) (hb : Below w.heap.size w w') (h : SSU g c d C D ix v w) : SSU g c d C D ix v w' := by
  exact h
def Prs (a b : ByteArray) (e : ByteArray) : Array Value := #[.string a, .string b, .string b, .string a, .string a, .string a, .string e, .string b]
theorem prs_at {a b e : ByteArray} {j : Nat} (ha : a.size ≤ 41) (hb : b.size ≤ 41) (he : e.size ≤ 41) (h : j < 4) : ∃ c d : ByteArray, (Prs a b e)[j * 2]? = some (.string c) ∧ (Prs a b e)[j * 2 + 1]? = some (.string d) ∧ c.size ≤ 41 ∧ d.size ≤ 41 := by
  have : j = 0 ∨ j = 1 ∨ j = 2 ∨ j = 3 := by omega
  rcases this with rfl | rfl | rfl | rfl
  · exact ⟨_, _, rfl, rfl, ha, hb⟩
  · exact ⟨_, _, rfl, rfl, hb, ha⟩
  · exact ⟨_, _, rfl, rfl, ha, ha⟩
  · exact ⟨_, _, rfl, rfl, he, hb⟩
set_option maxHeartbeats 4000000 in
set_option maxRecDepth 100000 in
theorem walk (v0 v1 : Value) (x y : List UInt8) (w : World) (h0 : ByR w v0 x) (h1 : ByR w v1 y) (htab : Lib.TabIs Tryz.prog w "internal/strconv.uint64pow10" .u64 Lib.pow10Tab) :
    Calls Tryz.prog 11 #[v0, v1] w fun e w' => e = .returned (.bool true) ∧ Below w.heap.size w w' := by
  have HB := Lib.hid (Below.refl w.heap.size w)
  have H0 := Lib.hid h0
  have H1 := Lib.hid h1
  have HSAN := Lib.hid (sanity_any w htab)
  have HTB := Lib.hid (Lib.tabBelow_of_tabIs htab)
  obtain ⟨a, ha⟩ : ∃ a, (⟨(x.take 40).toArray⟩ : ByteArray) = a := ⟨_, rfl⟩
  obtain ⟨b, hb⟩ : ∃ b, (⟨(y.take 40).toArray⟩ : ByteArray) = b := ⟨_, rfl⟩
  have HA0 := Lib.hid ha
  have HAS : Hid (a.size ≤ 40) := Lib.hid (by rw [← ha]; exact made_size x)
  have SA : Hid (a.size ≤ 100000000) := Lib.hid (Nat.le_trans HAS.out (by decide))
  obtain ⟨A, hA⟩ : ∃ A, numS a = A := ⟨_, rfl⟩
  have NA := Lib.hid hA
  have ZA : Hid (Sz A 40) := Lib.hid (by rw [← hA]; exact (Sz.num a).mono HAS.out)
  have HB0 := Lib.hid hb
  have HBS : Hid (b.size ≤ 40) := Lib.hid (by rw [← hb]; exact made_size y)
  have SB : Hid (b.size ≤ 100000000) := Lib.hid (Nat.le_trans HBS.out (by decide))
  obtain ⟨B, hB⟩ : ∃ B, numS b = B := ⟨_, rfl⟩
  have NB := Lib.hid hB
  have ZB : Hid (Sz B 40) := Lib.hid (by rw [← hB]; exact (Sz.num b).mono HBS.out)
  clear ha hb hA hB h0 h1 htab
  go_enter Tryz.func11, Tryz.ntmps11
  go_wp2_with fail
  refine (HSAN.out).mono ?_
  rintro e w1 ⟨rfl, hb⟩
  have HB := Lib.hid (HB.out.trans (hb.mono HB.out.size))
  clear hb
  go_wp2_with fail
  have H0 := Lib.hid (H0.out.up (HB.out.mono (Nat.le_refl _)))
  have H1 := Lib.hid (H1.out.up (HB.out.mono (Nat.le_refl _)))
  refine (Made_any _ _ _ H0.out).mono ?_
  rintro e w2 ⟨rfl, rfl⟩
  rw [HA0.out]
  go_wp2_with fail
  refine (Made_any _ _ _ H1.out).mono ?_
  rintro e w3 ⟨rfl, rfl⟩
  rw [HB0.out]
  have has : (a.size : Int) ≤ 40 := by have := HAS.out; omega
  go_wp2_with fail
  obtain ⟨e0, he0⟩ : ∃ e0, a ++ (⟨#[0]⟩ : ByteArray) = e0 := ⟨_, rfl⟩
  have hes : e0.size ≤ 41 := by rw [← he0, ByteArray.size_append]; show a.size + 1 ≤ 41; omega
  rw [he0]
  have HPR := Lib.hid (show ∀ j, j < 4 → ∃ c d : ByteArray, (Prs a b e0)[j * 2]? = some (.string c) ∧ (Prs a b e0)[j * 2 + 1]? = some (.string d) ∧ c.size ≤ 41 ∧ d.size ≤ 41 from fun j h => prs_at (Nat.le_trans HAS.out (by decide)) (Nat.le_trans HBS.out (by decide)) hes h)
  obtain ⟨V, hV⟩ : ∃ V, w1.alloc (.cells (Prs a b e0) 30) = V := ⟨_, rfl⟩
  have hV' : w1.alloc (Obj.cells #[Value.string a, Value.string b, Value.string b, Value.string a, Value.string a, Value.string a, Value.string e0, Value.string b] 30) = V := hV
  rw [hV']
  have HT := Lib.hid (show V.heap[w1.heap.size]? = some (.cells (Prs a b e0) 30 (0, 0)) by rw [← hV]; exact heap_alloc_new w1 _)
  have HBV := Lib.hid (show Below w.heap.size w V by rw [← hV]; exact HB.out.alloc HB.out.size _)
  have HSV := Lib.hid (show V.heap.size = w1.heap.size + 1 by rw [← hV]; simp)
  clear hV hV' he0 hes has
  go_loopw [34] (fun i wr => ∃ j : Nat, j ≤ 4 ∧ i = .int .i64 (j : Int) ∧ Hid (Below (w1.heap.size + 1) V wr)) (fun i _ => 4 - (intOf i).toNat)
  case atStart => exact ⟨0, by omega, rfl, Lib.hid (Below.refl _ _)⟩
  case round =>
    obtain ⟨j, hj, rfl, HBW⟩ := hrel
    have hs : wr.heap[w1.heap.size]? = some (.cells (Prs a b e0) 30 (0, 0)) := by rw [HBW.out.block _ (by omega)]; exact HT.out
    by_cases hlt : j < 4
    · obtain ⟨c, d, hx, hy, hc, hd⟩ := HPR.out j hlt
      have cx : wr.cell? ⟨w1.heap.size, j * 2, none⟩ = some (.string c) := by rw [Lib.cell_of_heap hs]; exact hx
      have cy : wr.cell? ⟨w1.heap.size, j * 2 + 1, none⟩ = some (.string d) := by rw [Lib.cell_of_heap hs]; exact hy
      have HSZ := Lib.hid (show w1.heap.size + 1 ≤ wr.heap.size by have := HBW.out.size; have := HSV.out; omega)
      obtain ⟨C, hC⟩ : ∃ C, numS c = C := ⟨_, rfl⟩
      obtain ⟨D, hD⟩ : ∃ D, numS d = D := ⟨_, rfl⟩
      have NC := Lib.hid hC; have ND := Lib.hid hD
      have SC : Hid (c.size ≤ 100000000) := Lib.hid (Nat.le_trans hc (by decide)); have SD : Hid (d.size ≤ 100000000) := Lib.hid (Nat.le_trans hd (by decide))
      have RC : Hid (c.size ≤ 1000000) := Lib.hid (Nat.le_trans hc (by decide)); have RD : Hid (d.size ≤ 1000000) := Lib.hid (Nat.le_trans hd (by decide))
      have HBOX := Lib.hid (heap_alloc_new wr (.cells #[.string c, .string d] 30))
      have HBA := Lib.hid (HBW.out.alloc HSZ.out (.cells #[.string c, .string d] 30))
      have hlt' : (j : Int) < 4 := by omega
      clear hs hx hy hc hd hC hD hlt
      go_wp2_with fail
      obtain ⟨wb, hwb⟩ : ∃ wb, wr.alloc (.cells #[.string c, .string d] 30) = wb := ⟨_, rfl⟩
      have hwbs : w1.heap.size + 1 ≤ wb.heap.size := by rw [← hwb, World.size_alloc]; have := HSZ.out; omega
      obtain ⟨g, hg⟩ : ∃ g, wr.heap.size = g := ⟨_, rfl⟩
      rw [hwb] at HBOX HBA ⊢
      rw [hg] at HBOX ⊢
      clear hwb cx cy
      refine (Sub_n NC.out ND.out SC.out SD.out _).mono ?_
      rintro e w4 ⟨rfl, hb⟩
      have HBA := Lib.hid (HBA.out.trans (hb.mono hwbs))
      have HBOX := Lib.hid (block_new hb HBOX.out)
      have hw4 : w1.heap.size + 1 ≤ w4.heap.size := Nat.le_trans hwbs hb.size
      have k0 : w4.cell? ⟨g, 0, none⟩ = some (.string c) := by rw [Lib.cell_of_heap HBOX.out]; rfl
      have k1 : w4.cell? ⟨g, 1, none⟩ = some (.string d) := by rw [Lib.cell_of_heap HBOX.out]; rfl
      clear hb
      go_wp2_with fail
      refine (rSub_any c d _ RC.out RD.out).mono ?_
      rintro e wo ⟨rfl, hb⟩
      rw [NC.out, ND.out]
      have HBA := Lib.hid (HBA.out.trans (hb.mono hw4))
      have HBOX := Lib.hid (block_new hb HBOX.out)
      have HW5 := Lib.hid (Nat.le_trans hw4 hb.size)
      have hcell0 : ∀ W, Below wo.heap.size wo W → W.cell? ⟨g, 0, none⟩ = some (.string c) := fun W h => by rw [Lib.cell_of_heap (block_new h HBOX.out)]; rfl
      have hcell1 : ∀ W, Below wo.heap.size wo W → W.cell? ⟨g, 1, none⟩ = some (.string d) := fun W h => by rw [Lib.cell_of_heap (block_new h HBOX.out)]; rfl
      clear hb k0 k1
      go_wp2_with fail
      refine wp_region_vals (w := wo) (by kernel_rfl) (SSU g c d C D) (fun t => (decide (54 ≤ t) && decide (t < 88))) (by kernel_rfl) (by kernel_rfl) (by kernel_rfl) (SSU_up g c d C D) ?_ ?_
      · intro i hi o listed a w hR K hK
        have ho := hR.at_
        have hi : i < 34 := hi
        have hii : i = 0 ∨ i = 1 ∨ i = 2 ∨ i = 3 ∨ i = 4 ∨ i = 5 ∨ i = 6 ∨ i = 7 ∨ i = 8 ∨ i = 9 ∨ i = 10 ∨ i = 11 ∨ i = 12 ∨ i = 13 ∨ i = 14 ∨ i = 15 ∨ i = 16 ∨ i = 17 ∨ i = 18 ∨ i = 19 ∨ i = 20 ∨ i = 21 ∨ i = 22 ∨ i = 23 ∨ i = 24 ∨ i = 25 ∨ i = 26 ∨ i = 27 ∨ i = 28 ∨ i = 29 ∨ i = 30 ∨ i = 31 ∨ i = 32 ∨ i = 33 := by omega
        rcases hii with rfl | rfl | rfl | rfl | rfl | rfl | rfl | rfl | rfl | rfl | rfl | rfl | rfl | rfl | rfl | rfl | rfl | rfl | rfl | rfl | rfl | rfl | rfl | rfl | rfl | rfl | rfl | rfl | rfl | rfl | rfl | rfl | rfl | rfl
        · simp at ho
          subst ho
          have b9 : a.tmps.getD 9 undef = .pointer (some ⟨g, 0, none⟩) := hR.base 9 (by kernel_rfl)
          refine plain_step rfl rfl ?_
          go_simp
          exact hK _ _ (rfl) (Below.refl _ _)
        · simp at ho
          subst ho
          have e0 : a.tmps.getD 54 undef = .pointer (some ⟨g, 0, none⟩) := hR.dep ⟨0, .data⟩ (by simp) rfl
          have c1 := hcell0 w hR.below
          refine plain_step rfl rfl ?_
          go_simp
          exact hK _ _ (rfl) (Below.refl _ _)
        · simp at ho
          subst ho
          have b9 : a.tmps.getD 9 undef = .pointer (some ⟨g, 0, none⟩) := hR.base 9 (by kernel_rfl)
          refine plain_step rfl rfl ?_
          go_simp
          exact hK _ _ (rfl) (Below.refl _ _)
        · simp at ho
          subst ho
          have e2 : a.tmps.getD 56 undef = .pointer (some ⟨g, 1, none⟩) := hR.dep ⟨2, .data⟩ (by simp) rfl
          have c1 := hcell1 w hR.below
          refine plain_step rfl rfl ?_
          go_simp
          exact hK _ _ (rfl) (Below.refl _ _)
        · simp at ho
          subst ho
          have e1 : a.tmps.getD 55 undef = .string c := hR.dep ⟨1, .data⟩ (by simp) rfl
          have e3 : a.tmps.getD 57 undef = .string d := hR.dep ⟨3, .data⟩ (by simp) rfl
          refine plain_step rfl rfl ?_
          go_simp
          refine (Add_n NC.out ND.out SC.out SD.out _).mono ?_
          rintro e w' ⟨rfl, hb⟩
          exact hK _ _ (rfl) hb
        · simp at ho
          subst ho
          have b9 : a.tmps.getD 9 undef = .pointer (some ⟨g, 0, none⟩) := hR.base 9 (by kernel_rfl)
          refine plain_step rfl rfl ?_
          go_simp
          exact hK _ _ (rfl) (Below.refl _ _)
        · simp at ho
          subst ho
          have e5 : a.tmps.getD 59 undef = .pointer (some ⟨g, 0, none⟩) := hR.dep ⟨5, .data⟩ (by simp) rfl
          have c1 := hcell0 w hR.below
          refine plain_step rfl rfl ?_
          go_simp
          exact hK _ _ (rfl) (Below.refl _ _)
        · simp at ho
          subst ho
          have b9 : a.tmps.getD 9 undef = .pointer (some ⟨g, 0, none⟩) := hR.base 9 (by kernel_rfl)
          refine plain_step rfl rfl ?_
          go_simp
          exact hK _ _ (rfl) (Below.refl _ _)
        · simp at ho
          subst ho
          have e7 : a.tmps.getD 61 undef = .pointer (some ⟨g, 1, none⟩) := hR.dep ⟨7, .data⟩ (by simp) rfl
          have c1 := hcell1 w hR.below
          refine plain_step rfl rfl ?_
          go_simp
          exact hK _ _ (rfl) (Below.refl _ _)
        · simp at ho
          subst ho
          have e6 : a.tmps.getD 60 undef = .string c := hR.dep ⟨6, .data⟩ (by simp) rfl
          have e8 : a.tmps.getD 62 undef = .string d := hR.dep ⟨8, .data⟩ (by simp) rfl
          refine plain_step rfl rfl ?_
          go_simp
          refine (rAdd_any c d _ RC.out RD.out).mono ?_
          rintro e w' ⟨rfl, hb⟩
          rw [NC.out, ND.out]
          exact hK _ _ (rfl) hb
        · simp at ho
          subst ho
          have e4 : a.tmps.getD 58 undef = .string (encS (C + D)) := hR.dep ⟨4, .data⟩ (by simp) rfl
          have e9 : a.tmps.getD 63 undef = .string (encS (C + D)) := hR.dep ⟨9, .data⟩ (by simp) rfl
          refine plain_step rfl rfl ?_
          go_simp
          exact hK _ _ (rfl) (Below.refl _ _)
        · simp at ho
          subst ho
          have e10 : a.tmps.getD 64 undef = .bool false := hR.dep ⟨10, .data⟩ (by simp) rfl
          refine plain_step rfl rfl ?_
          go_simp
          exact hK _ _ (rfl) (Below.refl _ _)
        · simp at ho
          subst ho
          have e11 : a.tmps.getD 65 undef = .bool false := hR.dep ⟨11, .guard⟩ (by simp) rfl
          have b10 : a.tmps.getD 10 undef = .string (encS (C - D)) := hR.base 10 (by kernel_rfl)
          refine guard_step rfl rfl rfl (b := false) e11 ?_
          go_simp
          exact hK _ _ (rfl) (Below.refl _ _)
        · simp at ho
          subst ho
          have e11 : a.tmps.getD 65 undef = .bool false := hR.dep ⟨11, .guard⟩ (by simp) rfl
          have b12 : a.tmps.getD 12 undef = .string (encS (C - D)) := hR.base 12 (by kernel_rfl)
          refine guard_step rfl rfl rfl (b := false) e11 ?_
          go_simp
          exact hK _ _ (rfl) (Below.refl _ _)
        · simp at ho
          subst ho
          have e12 : a.tmps.getD 66 undef = .string (encS (C - D)) := hR.dep ⟨12, .data⟩ (by simp) rfl
          have e13 : a.tmps.getD 67 undef = .string (encS (C - D)) := hR.dep ⟨13, .data⟩ (by simp) rfl
          have e11 : a.tmps.getD 65 undef = .bool false := hR.dep ⟨11, .guard⟩ (by simp) rfl
          refine guard_step rfl rfl rfl (b := false) e11 ?_
          go_simp
          exact hK _ _ (rfl) (Below.refl _ _)
        · simp at ho
          subst ho
          have e11 : a.tmps.getD 65 undef = .bool false := hR.dep ⟨11, .data⟩ (by simp) rfl
          have e14 : a.tmps.getD 68 undef = .bool false := hR.dep ⟨14, .data⟩ (by simp) rfl
          refine plain_step rfl rfl ?_
          go_simp
          exact hK _ _ (rfl) (Below.refl _ _)
        · simp at ho
          subst ho
          have e15 : a.tmps.getD 69 undef = .bool false := hR.dep ⟨15, .data⟩ (by simp) rfl
          refine plain_step rfl rfl ?_
          go_simp
          exact hK _ _ (rfl) (Below.refl _ _)
        · simp at ho
          subst ho
          have e16 : a.tmps.getD 70 undef = .bool false := hR.dep ⟨16, .guard⟩ (by simp) rfl
          have b11 : a.tmps.getD 11 undef = .bool (decide (D ≤ C)) := hR.base 11 (by kernel_rfl)
          refine guard_step rfl rfl rfl (b := false) e16 ?_
          go_simp
          exact hK _ _ (rfl) (Below.refl _ _)
        · simp at ho
          subst ho
          have e16 : a.tmps.getD 70 undef = .bool false := hR.dep ⟨16, .guard⟩ (by simp) rfl
          have b13 : a.tmps.getD 13 undef = .bool (decide (D ≤ C)) := hR.base 13 (by kernel_rfl)
          refine guard_step rfl rfl rfl (b := false) e16 ?_
          go_simp
          exact hK _ _ (rfl) (Below.refl _ _)
        · simp at ho
          subst ho
          have e17 : a.tmps.getD 71 undef = .bool (decide (D ≤ C)) := hR.dep ⟨17, .data⟩ (by simp) rfl
          have e18 : a.tmps.getD 72 undef = .bool (decide (D ≤ C)) := hR.dep ⟨18, .data⟩ (by simp) rfl
          have e16 : a.tmps.getD 70 undef = .bool false := hR.dep ⟨16, .guard⟩ (by simp) rfl
          refine guard_step rfl rfl rfl (b := false) e16 ?_
          go_simp
          exact hK _ _ (rfl) (Below.refl _ _)
        · simp at ho
          subst ho
          have e16 : a.tmps.getD 70 undef = .bool false := hR.dep ⟨16, .data⟩ (by simp) rfl
          have e19 : a.tmps.getD 73 undef = .bool false := hR.dep ⟨19, .data⟩ (by simp) rfl
          refine plain_step rfl rfl ?_
          go_simp
          exact hK _ _ (rfl) (Below.refl _ _)
        · simp at ho
          subst ho
          have e20 : a.tmps.getD 74 undef = .bool false := hR.dep ⟨20, .data⟩ (by simp) rfl
          refine plain_step rfl rfl ?_
          go_simp
          exact hK _ _ (rfl) (Below.refl _ _)
        · simp at ho
          subst ho
          have e21 : a.tmps.getD 75 undef = .bool false := hR.dep ⟨21, .guard⟩ (by simp) rfl
          have b9 : a.tmps.getD 9 undef = .pointer (some ⟨g, 0, none⟩) := hR.base 9 (by kernel_rfl)
          refine guard_step rfl rfl rfl (b := false) e21 ?_
          go_simp
          exact hK _ _ (rfl) (Below.refl _ _)
        · simp at ho
          subst ho
          have e22 : a.tmps.getD 76 undef = .pointer (some ⟨g, 0, none⟩) := hR.dep ⟨22, .data⟩ (by simp) rfl
          have e21 : a.tmps.getD 75 undef = .bool false := hR.dep ⟨21, .guard⟩ (by simp) rfl
          have c1 := hcell0 w hR.below
          refine guard_step rfl rfl rfl (b := false) e21 ?_
          go_simp
          exact hK _ _ (rfl) (Below.refl _ _)
        · simp at ho
          subst ho
          have e21 : a.tmps.getD 75 undef = .bool false := hR.dep ⟨21, .guard⟩ (by simp) rfl
          have b9 : a.tmps.getD 9 undef = .pointer (some ⟨g, 0, none⟩) := hR.base 9 (by kernel_rfl)
          refine guard_step rfl rfl rfl (b := false) e21 ?_
          go_simp
          exact hK _ _ (rfl) (Below.refl _ _)
        · simp at ho
          subst ho
          have e24 : a.tmps.getD 78 undef = .pointer (some ⟨g, 1, none⟩) := hR.dep ⟨24, .data⟩ (by simp) rfl
          have e21 : a.tmps.getD 75 undef = .bool false := hR.dep ⟨21, .guard⟩ (by simp) rfl
          have c1 := hcell1 w hR.below
          refine guard_step rfl rfl rfl (b := false) e21 ?_
          go_simp
          exact hK _ _ (rfl) (Below.refl _ _)
        · simp at ho
          subst ho
          have e23 : a.tmps.getD 77 undef = .string c := hR.dep ⟨23, .data⟩ (by simp) rfl
          have e25 : a.tmps.getD 79 undef = .string d := hR.dep ⟨25, .data⟩ (by simp) rfl
          have e21 : a.tmps.getD 75 undef = .bool false := hR.dep ⟨21, .guard⟩ (by simp) rfl
          refine guard_step rfl rfl rfl (b := false) e21 ?_
          go_simp
          refine (Cmp_n NC.out ND.out SC.out SD.out _).mono ?_
          rintro e w' ⟨rfl, hb⟩
          exact hK _ _ (rfl) hb
        · simp at ho
          subst ho
          have e21 : a.tmps.getD 75 undef = .bool false := hR.dep ⟨21, .guard⟩ (by simp) rfl
          have b9 : a.tmps.getD 9 undef = .pointer (some ⟨g, 0, none⟩) := hR.base 9 (by kernel_rfl)
          refine guard_step rfl rfl rfl (b := false) e21 ?_
          go_simp
          exact hK _ _ (rfl) (Below.refl _ _)
        · simp at ho
          subst ho
          have e27 : a.tmps.getD 81 undef = .pointer (some ⟨g, 0, none⟩) := hR.dep ⟨27, .data⟩ (by simp) rfl
          have e21 : a.tmps.getD 75 undef = .bool false := hR.dep ⟨21, .guard⟩ (by simp) rfl
          have c1 := hcell0 w hR.below
          refine guard_step rfl rfl rfl (b := false) e21 ?_
          go_simp
          exact hK _ _ (rfl) (Below.refl _ _)
        · simp at ho
          subst ho
          have e21 : a.tmps.getD 75 undef = .bool false := hR.dep ⟨21, .guard⟩ (by simp) rfl
          have b9 : a.tmps.getD 9 undef = .pointer (some ⟨g, 0, none⟩) := hR.base 9 (by kernel_rfl)
          refine guard_step rfl rfl rfl (b := false) e21 ?_
          go_simp
          exact hK _ _ (rfl) (Below.refl _ _)
        · simp at ho
          subst ho
          have e29 : a.tmps.getD 83 undef = .pointer (some ⟨g, 1, none⟩) := hR.dep ⟨29, .data⟩ (by simp) rfl
          have e21 : a.tmps.getD 75 undef = .bool false := hR.dep ⟨21, .guard⟩ (by simp) rfl
          have c1 := hcell1 w hR.below
          refine guard_step rfl rfl rfl (b := false) e21 ?_
          go_simp
          exact hK _ _ (rfl) (Below.refl _ _)
        · simp at ho
          subst ho
          have e28 : a.tmps.getD 82 undef = .string c := hR.dep ⟨28, .data⟩ (by simp) rfl
          have e30 : a.tmps.getD 84 undef = .string d := hR.dep ⟨30, .data⟩ (by simp) rfl
          have e21 : a.tmps.getD 75 undef = .bool false := hR.dep ⟨21, .guard⟩ (by simp) rfl
          refine guard_step rfl rfl rfl (b := false) e21 ?_
          go_simp
          refine (rCmp_any c d _ SC.out SD.out).mono ?_
          rintro e w' ⟨rfl, rfl⟩
          rw [NC.out, ND.out]
          exact hK _ _ (rfl) (Below.refl _ _)
        · simp at ho
          subst ho
          have e26 : a.tmps.getD 80 undef = .int .i64 (cmpI C D) := hR.dep ⟨26, .data⟩ (by simp) rfl
          have e31 : a.tmps.getD 85 undef = .int .i64 (cmpI C D) := hR.dep ⟨31, .data⟩ (by simp) rfl
          have e21 : a.tmps.getD 75 undef = .bool false := hR.dep ⟨21, .guard⟩ (by simp) rfl
          refine guard_step rfl rfl rfl (b := false) e21 ?_
          go_simp
          exact hK _ _ (rfl) (Below.refl _ _)
        · simp at ho
          subst ho
          have e21 : a.tmps.getD 75 undef = .bool false := hR.dep ⟨21, .data⟩ (by simp) rfl
          have e32 : a.tmps.getD 86 undef = .bool false := hR.dep ⟨32, .data⟩ (by simp) rfl
          refine plain_step rfl rfl ?_
          go_simp
          exact hK _ _ (rfl) (Below.refl _ _)
      · intro s w hS hb
        have e33 : s 87 = .bool false := hS 33 (by decide)
        simp only [over, Nat.zero_add, Nat.reduceAdd, Nat.reduceLeDiff, Nat.reduceLT, decide_true, decide_false, Bool.and_true, Bool.and_false, cond_true, cond_false]
        have HBA := Lib.hid (HBA.out.trans (hb.mono HW5.out))
        rw [e33]
        clear hS hb e33
        go_wp2_with fail
        go_roundw
        case rel => exact ⟨j + 1, by omega, rfl, HBA⟩
        case measure => simp [intOf]; omega
    · have hj5 : ¬ (j : Int) < 4 := by omega
      have HBX := Lib.hid (HBV.out.trans (HBW.out.mono (by have := HB.out.size; omega)))
      clear hs hlt
      go_wp2_with fail
      refine (Right_any a _ SA.out).mono ?_
      rintro e w4 ⟨rfl, rfl⟩
      go_wp2_with fail
      refine (rRight_any a _ SA.out).mono ?_
      rintro e w5 ⟨rfl, rfl⟩
      go_wp2_with fail
      refine (Add_n NA.out NB.out SA.out SB.out _).mono ?_
      rintro e w6 ⟨rfl, hb⟩
      have HBX := Lib.hid (HBX.out.trans (hb.mono HBX.out.size))
      clear hb
      go_wp2_with fail
      refine (Right_e (A + B) _ ((ZA.out.add ZB.out).enc (by decide))).mono ?_
      rintro e w7 ⟨rfl, rfl⟩
      go_wp2_with fail
      go_ret
      exact ⟨by simp, HBX.out⟩
end Go.Proofs.YtakbkbmjeanboaaGreatDoor.natSums
