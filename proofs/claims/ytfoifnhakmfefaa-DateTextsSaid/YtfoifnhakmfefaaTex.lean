/- 'tithinglaw03.DateTexts' returns true at every input: the walk, the row. -/
import Derived.Test.YtfoifnhakmfefaaLaw
import Derived.Test.YtfoifnhakmfefaaSan
import Derived.Test.YtfoifnhakmfefaaRefC
import Derived.Test.YtfoifnhakmfefaaArr
import Derived.Deep.RegionHeld3
import Derived.Lib.ConvBytes
import Derived.ChangeMaps5
namespace Go.Proofs.Ytfoifnhakmfefaa.dateTexts
open Go.ChangeShapes Go.Shelf Cal Txt Go.WideShapes Go.ChangeAt Go.RowKit
open Go.ChangeMaps (open_string shut_string)
set_option linter.unusedVariables false

theorem text_back {k : Int} (h : insideB k = true) : readOk iso (textS k) = true ∧ readN iso (textS k) = k := by
  obtain ⟨h0, h1⟩ := inside_bd h
  obtain ⟨hv, hn⟩ := civ_spec k h0 h1
  have hb := civ_bd k h0 h1
  rw [text_in h]
  have hm := readOk_mk (isD_dg (civY k / 10 / 10 / 10)) (isD_dg (civY k / 10 / 10)) (isD_dg (civY k / 10)) (isD_dg (civY k)) (isD_dg (civM k / 10)) (isD_dg (civM k)) (isD_dg (civD k / 10)) (isD_dg (civD k))
  have e4 := numD_dig4 (y := civY k) (by omega) (by omega)
  have e2 := numD_dig2 (y := civM k) (by omega) (by omega)
  have e3 := numD_dig2 (y := civD k) (by omega) (by omega)
  unfold dig4 at e4
  unfold dig2 at e2 e3
  rw [e4, e2, e3, hv] at hm
  refine ⟨hm.1, ?_⟩
  rw [show numV (civY k) (civM k) (civD k) = k by simp [numV, hv, hn]] at hm
  exact hm.2
theorem below_bytes (w : World) (e : TypeId) (s : ByteArray) : Below w.heap.size w (Lib.bytesWorld w e s) :=
  ⟨rfl, rfl, rfl, by rw [Lib.bytesWorld_size]; omega, fun b hb => Lib.bytesWorld_at_old w e s b hb⟩
theorem bytes_thawed (w : World) (e : TypeId) (s : ByteArray) {j : Nat} (h : j < s.size) : (Lib.bytesWorld w e s).frozen? ⟨w.heap.size, j, none⟩ = false := by
  have : s.size ≤ (Lib.bytesCells w e s).size := by simp [Lib.bytesCells]
  simp only [World.frozen?, Lib.bytesWorld_at_new]
  simp; omega
theorem set_bytes {S L : List UInt8} {C : Array Value} {q1 : Int} {p j : Nat} (hL : L = S.set p (UInt8.ofNat q1.toNat)) (hC : ∀ j, j < 10 → C[j]? = some (.int .u8 ((S.getD j 0).toNat : Int))) (hj : j < 10) (h0 : 0 ≤ q1) (h1 : q1 ≤ 255) (hl : j < L.length) :
    (C.setIfInBounds p (.int .u8 q1))[j]? = some (.int .u8 (L[j].toNat : Int)) := by
  subst hL
  have hjS : j < S.length := by simpa using hl
  have hjC : j < C.size := by
    have := hC j hj
    exact (Array.getElem?_eq_some_iff.1 this).1
  by_cases e : p = j
  · subst e
    rw [List.getElem_set_self]
    have : (UInt8.ofNat q1.toNat).toNat = q1.toNat := by rw [UInt8.toNat_ofNat']; omega
    rw [this]
    simp [hjC]; omega
  · rw [List.getElem_set_ne e, Array.getElem?_setIfInBounds_ne e, hC j hj]
    simp [hjS]
def Strs (a b c d : List UInt8) : Array Value := #[.string ⟨a.toArray⟩, .string ⟨b.toArray⟩, .string ⟨c.toArray⟩, .string ⟨d.toArray⟩]
theorem strs_at {a b c d : List UInt8} {j : Nat} (ha : a.length ≤ maxLen) (hb : b.length ≤ maxLen) (hc : c.length ≤ maxLen) (hd : d.length ≤ maxLen) (h : j < 4) : ∃ t : List UInt8, (Strs a b c d)[j]? = some (.string ⟨t.toArray⟩) ∧ t.length ≤ maxLen := by
  have : j = 0 ∨ j = 1 ∨ j = 2 ∨ j = 3 := by omega
  rcases this with rfl | rfl | rfl | rfl
  · exact ⟨a, rfl, ha⟩
  · exact ⟨b, rfl, hb⟩
  · exact ⟨c, rfl, hc⟩
  · exact ⟨d, rfl, hd⟩
set_option maxHeartbeats 4000000 in
set_option maxRecDepth 100000 in
theorem walk (n : Int) (raw : ByteArray) (q0 q1 : Int) (hr : raw.size ≤ maxLen) (w0 : (Lit.int .u8 q0).wf = true) (w1 : (Lit.int .u8 q1).wf = true) (w : World) :
    Calls Try.prog 11 #[.int .i64 n, .string raw, .agg #[.int .u8 q0, .int .u8 q1]] w (Gives w (.bool true)) := by
  obtain ⟨rl, rfl⟩ : ∃ rl : List UInt8, raw = ⟨rl.toArray⟩ := ⟨raw.data.toList, by simp⟩
  have hrl : rl.length ≤ maxLen := hr
  obtain ⟨l0, l1⟩ := bounds_u8 w0
  obtain ⟨l2, l3⟩ := bounds_u8 w1
  obtain ⟨k, hk⟩ : ∃ k, k = bits .and .i64 n 4194303 := ⟨_, rfl⟩
  have HK := Lib.hid hk
  clear hk
  go_enter Try.func11, Try.ntmps11
  go_wp2_with fail
  refine (sanity_any _).mono ?_
  rintro e w1' ⟨rfl, hb1⟩
  have hq1 : w1'.heap[w.heap.size]? = some (.cells #[.int .u8 q0, .int .u8 q1] 54 (0, 0)) := by
    rw [hb1.block _ (by simp)]; exact heap_alloc_new w _
  have HB1 := Lib.hid (((Below.refl w.heap.size w).alloc (Nat.le_refl _) _).trans (hb1.mono (by simp)))
  have HQ1 := Lib.hid hq1
  clear hb1 hq1
  go_wp2_with fail
  rw [← HK.out]
  refine (Text_any _ _).mono ?_
  rintro e w2' ⟨rfl, hb2⟩
  have HB2 := Lib.hid (HB1.out.trans (hb2.mono HB1.out.size))
  have HQ2 := Lib.hid (block_new hb2 HQ1.out)
  clear hb2
  go_wp2_with fail
  refine (rText_any _ _).mono ?_
  rintro e w3' ⟨rfl, hb3⟩
  have HB3 := Lib.hid (HB2.out.trans (hb3.mono HB2.out.size))
  have HQ3 := Lib.hid (block_new hb3 HQ2.out)
  clear hb3
  go_wp2_with fail
  refine (Text_any _ _).mono ?_
  rintro e w4' ⟨rfl, hb4⟩
  have HB4 := Lib.hid (HB3.out.trans (hb4.mono HB3.out.size))
  have HQ4 := Lib.hid (block_new hb4 HQ3.out)
  clear hb4
  go_wp2_with fail
  refine (rText_any _ _).mono ?_
  rintro e w5' ⟨rfl, hb5⟩
  have HB5 := Lib.hid (HB4.out.trans (hb5.mono HB4.out.size))
  have HQ5 := Lib.hid (block_new hb5 HQ4.out)
  clear hb5
  go_wp2_with fail
  have hii : insideB k = true ∨ insideB k = false := by cases insideB k <;> simp
  rcases hii with hi | hi
  · obtain ⟨hok, hrn⟩ := text_back hi
    obtain ⟨a, b, c, d, e, f, g, i, hS, -⟩ := readOk_iso hok
    rw [hS] at hok hrn ⊢
    have HS := Lib.hid hS
    have HO := Lib.hid hok; have HN := Lib.hid hrn
    clear hi hS hok hrn
    refine (Parse_any _ (by unfold maxLen; simp) _).mono ?_
    rintro e w6' ⟨rfl, hb6⟩
    have HB6 := Lib.hid (HB5.out.trans (hb6.mono HB5.out.size))
    have HQ6 := Lib.hid (block_new hb6 HQ5.out)
    clear hb6
    rw [HO.out, HN.out]
    go_wp2_with fail
    rw [Lib.run_convert_string_bytes _ _ _ 5 _ Try.underlying9 Try.underlying48 Try.underlying5]
    obtain ⟨G, hG⟩ : ∃ G, grownCap w6' (ByteArray.mk #[a, b, c, d, 45, e, f, 45, g, i]).size 0 5 = G := ⟨_, rfl⟩
    obtain ⟨W7, hW7⟩ : ∃ W7, Lib.bytesWorld w6' 5 ⟨#[a, b, c, d, 45, e, f, 45, g, i]⟩ = W7 := ⟨_, rfl⟩
    rw [hG, hW7]
    have hcl : ∀ j, j < 10 → W7.cell? ⟨w6'.heap.size, j, none⟩ = some (.int .u8 (([a, b, c, d, 45, e, f, 45, g, i].getD j 0).toNat : Int)) := by
      intro j hj
      rw [← hW7]; exact Lib.bytesWorld_cell w6' _ _ j hj
    have hfz : ∀ j, j < 10 → W7.frozen? ⟨w6'.heap.size, j, none⟩ = false := by
      intro j hj
      rw [← hW7]; exact bytes_thawed _ _ _ hj
    have hB7 : Below w.heap.size w W7 := by
      rw [← hW7]; exact HB6.out.trans ((below_bytes _ _ _).mono HB6.out.size)
    have hQ7 : W7.heap[w.heap.size]? = some (.cells #[.int .u8 q0, .int .u8 q1] 54 (0, 0)) := by
      rw [← hW7, Lib.bytesWorld_at_old _ _ _ _ (Array.getElem?_eq_some_iff.1 HQ6.out).1]; exact HQ6.out
    have c0 : W7.cell? ⟨w.heap.size, 0, none⟩ = some (.int .u8 q0) := by rw [Lib.cell_of_heap hQ7]; rfl
    have c1 : W7.cell? ⟨w.heap.size, 1, none⟩ = some (.int .u8 q1) := by rw [Lib.cell_of_heap hQ7]; rfl
    have hne : w6'.heap.size ≠ w.heap.size := Nat.ne_of_gt (Array.getElem?_eq_some_iff.1 HQ6.out).1
    have hne' : w.heap.size ≠ w6'.heap.size := hne.symm
    have e0 : IntKind.i64.wrap q0 = q0 := by rw [IntKind.wrap_i64]; omega
    have e1 : q0.tmod 10 = q0 % 10 := Int.tmod_eq_emod_of_nonneg l0
    have b1 : 0 ≤ q0 % 10 := by omega
    have b2 : q0 % 10 < 10 := by omega
    have jc := hcl (q0 % 10).toNat (by omega)
    have jf := hfz (q0 % 10).toNat (by omega)
    obtain ⟨C, fr, hC⟩ : ∃ C fr, W7.heap[w6'.heap.size]? = some (.cells C 5 fr) := ⟨_, _, by rw [← hW7]; exact Lib.bytesWorld_at_new w6' _ _⟩
    have hCj : ∀ j, j < 10 → C[j]? = some (.int .u8 (([a, b, c, d, 45, e, f, 45, g, i].getD j 0).toNat : Int)) := fun j hj => by
      rw [← hcl j hj, Lib.cell_of_heap hC]
    have HC := Lib.hid hC; have HCJ := Lib.hid hCj
    clear hC hCj
    have HCL := Lib.hid hcl; have HFZ := Lib.hid hfz; have HB7 := Lib.hid hB7; have HQ7 := Lib.hid hQ7
    clear hcl hfz hB7 hQ7 hW7 hG
    go_wp2_with fail
    go_region_held3 (fun w' => w'.cell? ⟨w.heap.size, 0, none⟩ = some (.int .u8 q0) ∧ w'.cell? ⟨w.heap.size, 1, none⟩ = some (.int .u8 q1)) (first | go_keep) (first | fail)
    obtain ⟨W8, hW8⟩ : ∃ W8, (W7.setCell ⟨w6'.heap.size, (q0 % 10).toNat, none⟩ (.int .u8 q1)).drew = W8 := ⟨_, rfl⟩
    obtain ⟨L, hL⟩ : ∃ L, L = [a, b, c, d, 45, e, f, 45, g, i].set (q0 % 10).toNat (UInt8.ofNat q1.toNat) := ⟨_, rfl⟩
    have hLl : L.length = 10 := by rw [hL]; simp
    have hB8 : Below w.heap.size w W8 := by rw [← hW8]; exact (HB7.out.setCell (p := ⟨w6'.heap.size, (q0 % 10).toNat, none⟩) HB6.out.size _).drew
    have hcv := Lib.hid (conv_bytes W8 w6'.heap.size L 10 G hLl (fun j hj => by
      rw [hLl] at hj
      rw [← hW8]
      show (W7.setCell ⟨w6'.heap.size, (q0 % 10).toNat, none⟩ (.int .u8 q1)).cell? ⟨w6'.heap.size, j, none⟩ = _
      rw [Lib.cell_of_heap (heap_self HC.out _)]
      exact set_bytes hL HCJ.out hj (by omega) (by omega) (by rw [hLl]; exact hj)))
    rw [hW8]
    have HB8 := Lib.hid hB8
    have HLl := Lib.hid hLl
    clear hB8 hW8 hL hLl c0 c1 jc jf e0 e1 b1 b2 hne hne'
    go_wp2_with fail
    rw [hcv.out]
    have k1 : (ByteArray.mk #[a, b, c, d, 45, e, f, 45, g, i]) ++ ⟨#[48]⟩ = ⟨([a, b, c, d, 45, e, f, 45, g, i] ++ [48]).toArray⟩ := str_append [a, b, c, d, 45, e, f, 45, g, i] [48]
    have k2 : (ByteArray.mk #[48]) ++ ⟨#[a, b, c, d, 45, e, f, 45, g, i]⟩ = ⟨([48] ++ [a, b, c, d, 45, e, f, 45, g, i]).toArray⟩ := str_append [48] [a, b, c, d, 45, e, f, 45, g, i]
    have K1 := Lib.hid k1; have K2 := Lib.hid k2
    clear k1 k2
    go_wp2_with fail
    rw [K1.out, K2.out]
    obtain ⟨t2, ht2⟩ : ∃ t2, t2 = [a, b, c, d, 45, e, f, 45, g, i] ++ [48] := ⟨_, rfl⟩
    obtain ⟨t3, ht3⟩ : ∃ t3, t3 = [48] ++ [a, b, c, d, 45, e, f, 45, g, i] := ⟨_, rfl⟩
    rw [← ht2, ← ht3]
    have HL2 := Lib.hid (show t2.length ≤ maxLen by rw [ht2]; unfold maxLen; simp)
    have HL3 := Lib.hid (show t3.length ≤ maxLen by rw [ht3]; unfold maxLen; simp)
    have HL1 := Lib.hid (show L.length ≤ maxLen by rw [HLl.out]; unfold maxLen; omega)
    clear ht2 ht3
    obtain ⟨V, hV⟩ : ∃ V, W8.alloc (.cells (Strs L rl t2 t3) 9) = V := ⟨_, rfl⟩
    have hV' : W8.alloc (.cells #[.string ⟨(L : List UInt8).toArray⟩, .string ⟨rl.toArray⟩, .string ⟨(t2 : List UInt8).toArray⟩, .string ⟨(t3 : List UInt8).toArray⟩] 9) = V := hV
    rw [hV']
    have hT : V.heap[W8.heap.size]? = some (.cells (Strs L rl t2 t3) 9 (0, 0)) := by rw [← hV]; exact heap_alloc_new W8 _
    have hBV : Below w.heap.size w V := by rw [← hV]; exact HB8.out.alloc HB8.out.size _
    have hsv : V.heap.size = W8.heap.size + 1 := by rw [← hV]; simp
    have HT := Lib.hid hT; have HBV := Lib.hid hBV; have HSV := Lib.hid hsv
    clear hT hBV hsv hV hV'
    go_loopw [76] (fun i wr => ∃ j : Nat, j ≤ 4 ∧ i = .int .i64 (j : Int) ∧ Below (W8.heap.size + 1) V wr) (fun i _ => 4 - (intOf i).toNat)
    case atStart => exact ⟨0, by omega, rfl, Below.refl _ _⟩
    case round =>
      obtain ⟨j, hj, rfl, hbw⟩ := hrel
      have hs : wr.heap[W8.heap.size]? = some (.cells (Strs L rl t2 t3) 9 (0, 0)) := by rw [hbw.block _ (by omega)]; exact HT.out
      have HBW2 := Lib.hid hbw
      clear hbw
      by_cases hlt : j < 4
      · obtain ⟨t, hx, hlt2⟩ := strs_at (a := L) (b := rl) (c := t2) (d := t3) HL1.out hrl HL2.out HL3.out hlt
        have cx : wr.cell? ⟨W8.heap.size, j, none⟩ = some (.string ⟨t.toArray⟩) := by rw [Lib.cell_of_heap hs]; exact hx
        have HSZ := Lib.hid (show W8.heap.size + 1 ≤ wr.heap.size by have := HBW2.out.size; have := HSV.out; omega)
        have HLT := Lib.hid hlt2
        clear hs hx hlt2
        go_wp2_with fail
        refine (Parse_any _ HLT.out _).mono ?_
        rintro e v2' ⟨rfl, hb2⟩
        have HB3 := Lib.hid (HBW2.out.trans (hb2.mono HSZ.out))
        clear hb2
        go_wp2_with fail
        refine (rParse_any _ _).mono ?_
        rintro e v3' ⟨rfl, rfl⟩
        go_wp2_with fail
        go_roundw
        case rel => exact ⟨j + 1, by omega, rfl, HB3.out⟩
        case measure => simp [intOf]; omega
      · have hj5 : (4 : Int) ≤ (j : Int) := by omega
        clear hs hlt
        go_wp2_with fail
        go_ret
        exact ⟨rfl, HBV.out.trans (HBW2.out.mono (by have := HB8.out.size; omega))⟩
  · have ht := text_out hi
    rw [ht]
    have o1 := Lib.hid (show readOk iso [] = false by decide)
    have o2 := Lib.hid (show readN iso [] = 0 by decide)
    clear hi ht
    refine (Parse_any _ (by unfold maxLen; simp) _).mono ?_
    rintro e w6' ⟨rfl, hb6⟩
    have HB6 := Lib.hid (HB5.out.trans (hb6.mono HB5.out.size))
    clear hb6
    rw [o1.out, o2.out]
    go_wp2_with fail
    rw [Lib.run_convert_string_bytes _ _ _ 5 _ Try.underlying9 Try.underlying48 Try.underlying5]
    obtain ⟨G, hG⟩ : ∃ G, grownCap w6' (ByteArray.mk #[]).size 0 5 = G := ⟨_, rfl⟩
    obtain ⟨W8, hW8⟩ : ∃ W8, Lib.bytesWorld w6' 5 ⟨#[]⟩ = W8 := ⟨_, rfl⟩
    rw [hG, hW8]
    have HB8 := Lib.hid (show Below w.heap.size w W8 by rw [← hW8]; exact HB6.out.trans ((below_bytes _ _ _).mono HB6.out.size))
    have hcv := Lib.hid (conv_bytes W8 w6'.heap.size [] 0 G rfl (fun j hj => absurd hj (Nat.not_lt_zero _)))
    clear hW8 hG
    go_wp2_with fail
    rw [hcv.out]
    have K1 := Lib.hid (show (ByteArray.mk #[]) ++ ⟨#[48]⟩ = ⟨([48] : List UInt8).toArray⟩ from str_append [] [48])
    have K2 := Lib.hid (show (ByteArray.mk #[48]) ++ ⟨#[]⟩ = ⟨([48] : List UInt8).toArray⟩ from str_append [48] [])
    go_wp2_with fail
    rw [K1.out, K2.out]
    have HLL := Lib.hid (show ([48] : List UInt8).length ≤ maxLen by unfold maxLen; simp)
    obtain ⟨V, hV⟩ : ∃ V, W8.alloc (.cells (Strs [] rl [48] [48]) 9) = V := ⟨_, rfl⟩
    have hV' : W8.alloc (.cells #[.string ⟨([] : List UInt8).toArray⟩, .string ⟨rl.toArray⟩, .string ⟨([48] : List UInt8).toArray⟩, .string ⟨([48] : List UInt8).toArray⟩] 9) = V := hV
    rw [hV']
    have hT : V.heap[W8.heap.size]? = some (.cells (Strs [] rl [48] [48]) 9 (0, 0)) := by rw [← hV]; exact heap_alloc_new W8 _
    have hBV : Below w.heap.size w V := by rw [← hV]; exact HB8.out.alloc HB8.out.size _
    have hsv : V.heap.size = W8.heap.size + 1 := by rw [← hV]; simp
    have HT := Lib.hid hT; have HBV := Lib.hid hBV; have HSV := Lib.hid hsv
    clear hT hBV hsv hV hV'
    go_loopw [76] (fun i wr => ∃ j : Nat, j ≤ 4 ∧ i = .int .i64 (j : Int) ∧ Below (W8.heap.size + 1) V wr) (fun i _ => 4 - (intOf i).toNat)
    case atStart => exact ⟨0, by omega, rfl, Below.refl _ _⟩
    case round =>
      obtain ⟨j, hj, rfl, hbw⟩ := hrel
      have hs : wr.heap[W8.heap.size]? = some (.cells (Strs [] rl [48] [48]) 9 (0, 0)) := by rw [hbw.block _ (by omega)]; exact HT.out
      have HBW2 := Lib.hid hbw
      clear hbw
      by_cases hlt : j < 4
      · obtain ⟨t, hx, hlt2⟩ := strs_at (a := []) (b := rl) (c := [48]) (d := [48]) (Nat.zero_le _) hrl HLL.out HLL.out hlt
        have cx : wr.cell? ⟨W8.heap.size, j, none⟩ = some (.string ⟨t.toArray⟩) := by rw [Lib.cell_of_heap hs]; exact hx
        have HSZ := Lib.hid (show W8.heap.size + 1 ≤ wr.heap.size by have := HBW2.out.size; have := HSV.out; omega)
        have HLT := Lib.hid hlt2
        clear hs hx hlt2
        go_wp2_with fail
        refine (Parse_any _ HLT.out _).mono ?_
        rintro e v2' ⟨rfl, hb2⟩
        have HB3 := Lib.hid (HBW2.out.trans (hb2.mono HSZ.out))
        clear hb2
        go_wp2_with fail
        refine (rParse_any _ _).mono ?_
        rintro e v3' ⟨rfl, rfl⟩
        go_wp2_with fail
        go_roundw
        case rel => exact ⟨j + 1, by omega, rfl, HB3.out⟩
        case measure => simp [intOf]; omega
      · have hj5 : (4 : Int) ≤ (j : Int) := by omega
        clear hs hlt
        go_wp2_with fail
        go_ret
        exact ⟨rfl, HBV.out.trans (HBW2.out.mono (by have := HB8.out.size; omega))⟩

/-! ### THE ROW's STEP -/
theorem cel2 : Try.prog.cellsOf 5 = 1 := by kernel_rfl
theorem arr2 : Try.prog.cellsOf 54 = 2 := by kernel_rfl
set_option maxRecDepth 100000 in
theorem lifted (os : Os) (started : os.Started) (H : Type) (enc : TypeId × Value → H) :
    ReturnsInHanded {} Try.checked os 11 .any (Rows.dateTextsSpec.pre6 enc Try.prog Try.f11 Rows.dateTextsRow.domain false) (Rows.dateTextsSpec.post enc Try.prog Try.f11 false true false false) := by
  refine returnsInHanded_of_change (C := Try.checked) own started (by kernel_rfl) Try.func11
    (ChangeSpec.witness6 (enc := enc) (C := Try.checked) false ⟨#[], #[.int .i64 0, .string ⟨#[]⟩, .agg #[.int .u8 0, .int .u8 0]], []⟩ 8 (by kernel_rfl) (by kernel_rfl) (by kernel_rfl) (by kernel_rfl)) ?_
  intro W base args ds gs before hval0 hW hcnd _
  have hval : ∀ (j : Nat) t v, Try.f11.params[j]? = some t → args[j]? = some v → Value.okWide Try.prog W .any base t v := hval0
  have hW' := hW
  obtain ⟨p, q, hA0, hV, rfl, hfz, hnd⟩ := hW
  have hA : DataW.TrodAll enc Try.prog W 0 (fun _ => true) true Try.f11.params.toList args.toList ds p := hA0
  rw [Try.params11] at hA hval
  obtain ⟨v0, vs0, d0, ds0, p0, q0, hargs, rfl, rfl, h0, r0⟩ := trodAll_cons hA
  obtain ⟨v1, vs1, d1, ds1, p1, q1, rfl, rfl, rfl, h1, r1⟩ := trodAll_cons r0
  obtain ⟨v2, vs2, d2, ds2, p2, q2, rfl, rfl, rfl, h2, r2⟩ := trodAll_cons r1
  obtain ⟨rfl, rfl, rfl⟩ := trodAll_nil r2
  obtain rfl : args = #[v0, v1, v2] := by cases args; simp_all
  obtain ⟨rfl, rfl⟩ := trodVars_none hV
  obtain ⟨a0, rfl, rfl, rfl, w0⟩ := open_int Try.underlying3 (hval 0 3 v0 rfl rfl) h0
  obtain ⟨s1, rfl, rfl, rfl, w1⟩ := open_string Try.underlying9 (hval 1 9 v1 rfl rfl) h1
  obtain ⟨xs2, hl2, rfl, rfl, rfl, w2⟩ := open_ints Try.underlying54 Try.underlying5 cel2 arr2 (hval 2 54 v2 rfl rfl) h2
  obtain ⟨x2_0, x2_1, rfl⟩ := list2 xs2 hl2
  clear hA0 hval0
  simp only [List.append_nil] at hW'
  refine (walk a0 s1 x2_0 x2_1 w1 (w2 _ (by simp)) (w2 _ (by simp)) W).mono fun e W' ⟨he, hb⟩ => ?_
  subst he
  exact ⟨_, rfl, post_of_below (pa := []) (pv := []) hW' (fun _ _ _ => (trodAll_cons_mk (shut_bool Try.underlying4 _) trodAll_mk0)) (fun sp _ => (trodAll_cons_mk (shut_int Try.underlying3 w0) (trodAll_cons_mk (shut_string Try.underlying9 w1) (trodAll_cons_mk (shut_ints Try.underlying54 Try.underlying5 cel2 arr2 hl2 w2) trodAll_mk0)))) (fun _ _ => rfl) rfl
    hb (ok_one (by kernel_rfl) rfl (okWide_bool_mk Try.underlying4 _))⟩

theorem over : Rows.dateTextsRow.holds Try.pinned (OpenSpec.ofChange Rows.dateTextsSpec) :=
  OpenClaim.holds_of_wide 11 Try.f11 rfl rfl rfl rfl rfl rfl rfl ⟨rfl, rfl, rfl, rfl, rfl⟩ rfl rfl rfl rfl rfl (by kernel_rfl) Try.func11 (by kernel_rfl)
    (of_decide_eq_true (by kernel_rfl)) (by unfold Func.isWrapper; first | (rw [if_pos (by decide +kernel)]; kernel_rfl) | (rw [if_neg (by decide +kernel)]; exact ⟨rfl, rfl⟩))
    (fun os started H enc _ => lifted os started H enc)

theorem proved : Rows.DateTextsSaid :=
  over
#print axioms proved
end Go.Proofs.Ytfoifnhakmfefaa.dateTexts
