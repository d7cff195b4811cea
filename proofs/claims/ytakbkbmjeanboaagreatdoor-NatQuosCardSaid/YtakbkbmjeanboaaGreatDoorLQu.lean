/- NatQuos: the walk. Each theorem names its conditions. -/
import Derived.Test.YtakbkbmjeanboaaGreatDoorSanA
import Derived.Test.YtakbkbmjeanboaaGreatDoorArgB
import Derived.Test.YtakbkbmjeanboaaGreatDoorApiE
import Derived.Test.YtakbkbmjeanboaaGreatDoorRefJ
namespace Go.Proofs.YtakbkbmjeanboaaGreatDoor.natQuos
open Go.RowKit Go.Shelf
open Dgt
set_option linter.unusedVariables false

theorem made_size (l : List UInt8) : (⟨(l.take 40).toArray⟩ : ByteArray).size ≤ 40 := by
  show (l.take 40).toArray.size ≤ 40
  rw [List.size_toArray, List.length_take]; omega
def Prs (a b n l h0 h1 e f : ByteArray) : Array Value := #[.string a, .string b, .string b, .string a, .string n, .string b, .string l, .string b, .string n, .string a, .string h0, .string h1, .string e, .string f]
theorem prs_at {a b n l h0 h1 e f : ByteArray} {j : Nat} (ha : a.size ≤ 100) (hb : b.size ≤ 100) (hn : n.size ≤ 100) (hl : l.size ≤ 100) (hh0 : h0.size ≤ 100) (hh1 : h1.size ≤ 100) (he : e.size ≤ 100) (hf : f.size ≤ 100) (h : j < 7) : ∃ c d : ByteArray, (Prs a b n l h0 h1 e f)[j * 2]? = some (.string c) ∧ (Prs a b n l h0 h1 e f)[j * 2 + 1]? = some (.string d) ∧ c.size ≤ 100 ∧ d.size ≤ 100 := by
  have : j = 0 ∨ j = 1 ∨ j = 2 ∨ j = 3 ∨ j = 4 ∨ j = 5 ∨ j = 6 := by omega
  rcases this with rfl | rfl | rfl | rfl | rfl | rfl | rfl
  · exact ⟨_, _, rfl, rfl, ha, hb⟩
  · exact ⟨_, _, rfl, rfl, hb, ha⟩
  · exact ⟨_, _, rfl, rfl, hn, hb⟩
  · exact ⟨_, _, rfl, rfl, hl, hb⟩
  · exact ⟨_, _, rfl, rfl, hn, ha⟩
  · exact ⟨_, _, rfl, rfl, hh0, hh1⟩
  · exact ⟨_, _, rfl, rfl, he, hf⟩
set_option maxHeartbeats 4000000 in
set_option maxRecDepth 100000 in
theorem walk (v0 v1 : Value) (x y : List UInt8) (more : Int) (hm0 : 0 ≤ more) (hm9 : more ≤ 255) (w : World) (h0 : ByR w v0 x) (h1 : ByR w v1 y) (htab : Lib.TabIs Tryz.prog w "internal/strconv.uint64pow10" .u64 Lib.pow10Tab) :
    Calls Tryz.prog 3 #[v0, v1, .int .u8 more] w fun e w' => e = .returned (.bool true) ∧ Below w.heap.size w w' := by
  have HB := Lib.hid (Below.refl w.heap.size w)
  have H0 := Lib.hid h0
  have H1 := Lib.hid h1
  have HSAN := Lib.hid (sanity_any w htab)
  have HTB := Lib.hid (Lib.tabBelow_of_tabIs htab)
  obtain ⟨a, ha⟩ : ∃ a, (⟨(x.take 40).toArray⟩ : ByteArray) = a := ⟨_, rfl⟩
  obtain ⟨b, hb⟩ : ∃ b, (⟨(y.take 40).toArray⟩ : ByteArray) = b := ⟨_, rfl⟩
  have HA0 := Lib.hid ha
  have HAS : Hid (a.size ≤ 40) := Lib.hid (by rw [← ha]; exact made_size x)
  have SA : Hid (a.size ≤ 100000000) := Lib.hid (Nat.le_trans HAS.out (by decide))
  obtain ⟨A, hA⟩ : ∃ A, numS a = A := ⟨_, rfl⟩
  have NA := Lib.hid hA
  have ZA : Hid (Sz A 40) := Lib.hid (by rw [← hA]; exact (Sz.num a).mono HAS.out)
  have HB0 := Lib.hid hb
  have HBS : Hid (b.size ≤ 40) := Lib.hid (by rw [← hb]; exact made_size y)
  have SB : Hid (b.size ≤ 100000000) := Lib.hid (Nat.le_trans HBS.out (by decide))
  obtain ⟨B, hB⟩ : ∃ B, numS b = B := ⟨_, rfl⟩
  have NB := Lib.hid hB
  have ZB : Hid (Sz B 40) := Lib.hid (by rw [← hB]; exact (Sz.num b).mono HBS.out)
  have RA : Hid (a.size ≤ 1000000) := Lib.hid (Nat.le_trans HAS.out (by decide)); have RB : Hid (b.size ≤ 1000000) := Lib.hid (Nat.le_trans HBS.out (by decide))
  obtain ⟨M, hM⟩ : ∃ M : Nat, more = (M : Int) := ⟨more.toNat, by omega⟩
  have HOM := Lib.hid (fun w => rOf_any more w (by omega))
  have hmt : more.toNat = M := by omega
  rw [hmt] at HOM
  have ZM : Hid (Sz M 1) := Lib.hid (show M < 256 ^ 1 by omega)
  clear hM hmt
  clear ha hb hA hB h0 h1 htab
  go_enter Tryz.func3, Tryz.ntmps3
  go_wp2_with fail
  refine (HSAN.out).mono ?_
  rintro e w1 ⟨rfl, hb⟩
  have HB := Lib.hid (HB.out.trans (hb.mono HB.out.size))
  clear hb
  go_wp2_with fail
  have H0 := Lib.hid (H0.out.up (HB.out.mono (Nat.le_refl _)))
  have H1 := Lib.hid (H1.out.up (HB.out.mono (Nat.le_refl _)))
  refine (Made_any _ _ _ H0.out).mono ?_
  rintro e w2 ⟨rfl, rfl⟩
  rw [HA0.out]
  go_wp2_with fail
  refine (Made_any _ _ _ H1.out).mono ?_
  rintro e w3 ⟨rfl, rfl⟩
  rw [HB0.out]
  go_wp2_with fail
  refine (rMul_any a b _ RA.out RB.out).mono ?_
  rintro e w4 ⟨rfl, hb⟩
  have HB := Lib.hid (HB.out.trans (hb.mono HB.out.size))
  clear hb
  rw [NA.out, NB.out]
  go_wp2_with fail
  refine (HOM.out _).mono ?_
  rintro e w5 ⟨rfl, hb⟩
  have HB := Lib.hid (HB.out.trans (hb.mono HB.out.size))
  clear hb
  go_wp2_with fail
  refine (rAdd_any _ _ _ (Nat.le_trans (encS_size_lt (ZA.out.mul ZB.out)) (by decide)) (Nat.le_trans (encS_size_lt ZM.out) (by decide))).mono ?_
  rintro e w6 ⟨rfl, hb⟩
  have HB := Lib.hid (HB.out.trans (hb.mono HB.out.size))
  clear hb
  rw [numS_encS, numS_encS]
  go_wp2_with fail
  refine (rMul_any a b _ RA.out RB.out).mono ?_
  rintro e w7 ⟨rfl, hb⟩
  have HB := Lib.hid (HB.out.trans (hb.mono HB.out.size))
  clear hb
  rw [NA.out, NB.out]
  go_wp2_with fail
  refine (HOM.out _).mono ?_
  rintro e w8 ⟨rfl, hb⟩
  have HB := Lib.hid (HB.out.trans (hb.mono HB.out.size))
  clear hb
  go_wp2_with fail
  refine (rSub_any _ _ _ (Nat.le_trans (encS_size_lt (ZA.out.mul ZB.out)) (by decide)) (Nat.le_trans (encS_size_lt ZM.out) (by decide))).mono ?_
  rintro e w9 ⟨rfl, hb⟩
  have HB := Lib.hid (HB.out.trans (hb.mono HB.out.size))
  clear hb
  rw [numS_encS, numS_encS]
  obtain ⟨nn, hnn⟩ : ∃ nn, encS (A * B + M) = nn := ⟨_, rfl⟩
  obtain ⟨ll, hll⟩ : ∃ ll, encS (A * B - M) = ll := ⟨_, rfl⟩
  have hns : nn.size ≤ 100 := by rw [← hnn]; exact Nat.le_trans (encS_size_lt ((ZA.out.mul ZB.out).add (ZM.out.mono (by decide)))) (by decide)
  have hls : ll.size ≤ 100 := by rw [← hll]; exact Nat.le_trans (encS_size_lt ((ZA.out.mul ZB.out).sub M)) (by decide)
  rw [hll]
  rw [hnn]
  clear hnn hll
  have has : (a.size : Int) ≤ 40 := by have := HAS.out; omega
  have hbs : (b.size : Int) ≤ 40 := by have := HBS.out; omega
  have HNS := Lib.hid hns; have HLS := Lib.hid hls
  clear hns hls hm0 hm9
  go_wp2_with fail
  obtain ⟨e0, he0⟩ : ∃ e0, (⟨#[127, 255, 255, 255, 128, 0, 0, 0, 0, 0, 0, 0, 0, 0, 0, 0]⟩ : ByteArray) ++ a = e0 := ⟨_, rfl⟩
  obtain ⟨f0, hf0⟩ : ∃ f0, (⟨#[128, 0, 0, 0, 0, 0, 0, 0, 0, 0, 0, 1]⟩ : ByteArray) ++ b = f0 := ⟨_, rfl⟩
  have hes : e0.size ≤ 100 := by rw [← he0, ByteArray.size_append]; show 16 + a.size ≤ 100; omega
  have hfs : f0.size ≤ 100 := by rw [← hf0, ByteArray.size_append]; show 12 + b.size ≤ 100; omega
  rw [he0, hf0]
  have HPR := Lib.hid (show ∀ j, j < 7 → ∃ c d : ByteArray, (Prs a b nn ll ⟨#[127, 255, 255, 255, 128, 0, 0, 0, 0, 0, 0, 0, 0, 0, 0, 0]⟩ ⟨#[128, 0, 0, 0, 0, 0, 0, 0, 0, 0, 0, 1]⟩ e0 f0)[j * 2]? = some (.string c) ∧ (Prs a b nn ll ⟨#[127, 255, 255, 255, 128, 0, 0, 0, 0, 0, 0, 0, 0, 0, 0, 0]⟩ ⟨#[128, 0, 0, 0, 0, 0, 0, 0, 0, 0, 0, 1]⟩ e0 f0)[j * 2 + 1]? = some (.string d) ∧ c.size ≤ 100 ∧ d.size ≤ 100 from fun j h => prs_at (Nat.le_trans HAS.out (by decide)) (Nat.le_trans HBS.out (by decide)) HNS.out HLS.out (by decide) (by decide) hes hfs h)
  obtain ⟨wx, hwx⟩ : ∃ wx, w9.alloc (Obj.cells #[Value.string ⟨#[127, 255, 255, 255, 128, 0, 0, 0, 0, 0, 0, 0, 0, 0, 0, 0]⟩, Value.string ⟨#[128, 0, 0, 0, 0, 0, 0, 0, 0, 0, 0, 1]⟩] 30) = wx := ⟨_, rfl⟩
  have HBXX := Lib.hid (show Below w.heap.size w wx by rw [← hwx]; exact HB.out.alloc HB.out.size _)
  have HWX := Lib.hid (show wx.heap.size = w9.heap.size + 1 by rw [← hwx]; simp)
  rw [hwx]
  clear hwx
  obtain ⟨V, hV⟩ : ∃ V, wx.alloc (.cells (Prs a b nn ll ⟨#[127, 255, 255, 255, 128, 0, 0, 0, 0, 0, 0, 0, 0, 0, 0, 0]⟩ ⟨#[128, 0, 0, 0, 0, 0, 0, 0, 0, 0, 0, 1]⟩ e0 f0) 30) = V := ⟨_, rfl⟩
  have hV' : wx.alloc (Obj.cells #[Value.string a, Value.string b, Value.string b, Value.string a, Value.string nn, Value.string b, Value.string ll, Value.string b, Value.string nn, Value.string a, Value.string ⟨#[127, 255, 255, 255, 128, 0, 0, 0, 0, 0, 0, 0, 0, 0, 0, 0]⟩, Value.string ⟨#[128, 0, 0, 0, 0, 0, 0, 0, 0, 0, 0, 1]⟩, Value.string e0, Value.string f0] 30) = V := hV
  rw [hV']
  have HT := Lib.hid (show V.heap[wx.heap.size]? = some (.cells (Prs a b nn ll ⟨#[127, 255, 255, 255, 128, 0, 0, 0, 0, 0, 0, 0, 0, 0, 0, 0]⟩ ⟨#[128, 0, 0, 0, 0, 0, 0, 0, 0, 0, 0, 1]⟩ e0 f0) 30 (0, 0)) by rw [← hV]; exact heap_alloc_new wx _)
  have HBV := Lib.hid (show Below w.heap.size w V by rw [← hV]; exact HBXX.out.alloc HBXX.out.size _)
  have HSV := Lib.hid (show V.heap.size = wx.heap.size + 1 by rw [← hV]; simp)
  clear hV hV' he0 hf0 hes hfs has hbs
  go_loopw [72] (fun i wr => ∃ j : Nat, j ≤ 7 ∧ i = .int .i64 (j : Int) ∧ Hid (Below (wx.heap.size + 1) V wr)) (fun i _ => 7 - (intOf i).toNat)
  case atStart => exact ⟨0, by omega, rfl, Lib.hid (Below.refl _ _)⟩
  case round =>
    obtain ⟨j, hj, rfl, HBW⟩ := hrel
    have hs : wr.heap[wx.heap.size]? = some (.cells (Prs a b nn ll ⟨#[127, 255, 255, 255, 128, 0, 0, 0, 0, 0, 0, 0, 0, 0, 0, 0]⟩ ⟨#[128, 0, 0, 0, 0, 0, 0, 0, 0, 0, 0, 1]⟩ e0 f0) 30 (0, 0)) := by rw [HBW.out.block _ (by omega)]; exact HT.out
    by_cases hlt : j < 7
    · obtain ⟨c, d, hx, hy, hc, hd⟩ := HPR.out j hlt
      have cx : wr.cell? ⟨w9.heap.size + 1, j * 2, none⟩ = some (.string c) := by rw [← HWX.out, Lib.cell_of_heap hs]; exact hx
      have cy : wr.cell? ⟨w9.heap.size + 1, j * 2 + 1, none⟩ = some (.string d) := by rw [← HWX.out, Lib.cell_of_heap hs]; exact hy
      have HSZ := Lib.hid (show wx.heap.size + 1 ≤ wr.heap.size by have := HBW.out.size; have := HSV.out; omega)
      have SC : Hid (c.size ≤ 100000000) := Lib.hid (Nat.le_trans hc (by decide)); have SD : Hid (d.size ≤ 100000000) := Lib.hid (Nat.le_trans hd (by decide))
      have RC : Hid (c.size ≤ 1000000) := Lib.hid (Nat.le_trans hc (by decide)); have RD : Hid (d.size ≤ 1000000) := Lib.hid (Nat.le_trans hd (by decide))
      have HBOX := Lib.hid (heap_alloc_new wr (.cells #[.string c, .string d] 30))
      have HBA := Lib.hid (HBW.out.alloc HSZ.out (.cells #[.string c, .string d] 30))
      have hlt' : (j : Int) < 7 := by omega
      clear hs hx hy hc hd hlt
      go_wp2_with fail
      obtain ⟨wb, hwb⟩ : ∃ wb, wr.alloc (.cells #[.string c, .string d] 30) = wb := ⟨_, rfl⟩
      have hwbs : wx.heap.size + 1 ≤ wb.heap.size := by rw [← hwb, World.size_alloc]; have := HSZ.out; omega
      obtain ⟨g, hg⟩ : ∃ g, wr.heap.size = g := ⟨_, rfl⟩
      rw [hwb] at HBOX HBA ⊢
      rw [hg] at HBOX ⊢
      clear hwb cx cy
      refine (Quo_any c d _ SC.out SD.out).mono ?_
      rintro e w4 ⟨rfl, hb⟩
      have HBA := Lib.hid (HBA.out.trans (hb.mono hwbs))
      have HBOX := Lib.hid (block_new hb HBOX.out)
      have hw4 : wx.heap.size + 1 ≤ w4.heap.size := Nat.le_trans hwbs hb.size
      have k0 : w4.cell? ⟨g, 0, none⟩ = some (.string c) := by rw [Lib.cell_of_heap HBOX.out]; rfl
      have k1 : w4.cell? ⟨g, 1, none⟩ = some (.string d) := by rw [Lib.cell_of_heap HBOX.out]; rfl
      clear hb
      go_wp2_with fail
      refine (rQuo_any c d _ RC.out RD.out).mono ?_
      rintro e w5 ⟨rfl, hb⟩
      have HBA := Lib.hid (HBA.out.trans (hb.mono hw4))
      clear hb k0 k1
      go_wp2_with fail
      go_roundw
      case rel => exact ⟨j + 1, by omega, rfl, HBA⟩
      case measure => simp [intOf]; omega
    · have hj5 : ¬ (j : Int) < 7 := by omega
      have HBY := Lib.hid (HBV.out.trans (HBW.out.mono (by have := HBXX.out.size; omega)))
      clear hs hlt
      go_wp2_with fail
      go_ret
      exact ⟨by simp, HBY.out⟩
end Go.Proofs.YtakbkbmjeanboaaGreatDoor.natQuos
