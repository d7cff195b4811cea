/- Slices of bytes that come in: what they read as; Made of the reference implementation. Each theorem names its conditions. -/
import Derived.Test.YtakbkbmjeanboaaGreatDoorLimF
import Derived.ProofKit
import Derived.OpenShut
import Derived.ChangeSlices
namespace Go.Proofs.YtakbkbmjeanboaaGreatDoor
open Go.ChangeShapes Go.WideShapes Go.ChangeAt Go.RowKit Go.Shelf
set_option linter.unusedVariables false

/-- v reads as a list of bytes -/
def ByR (W : World) (v : Value) (l : List UInt8) : Prop := ∃ a cap, v = .slice a l.length cap ∧ l.length ≤ cap ∧ ∀ i (h : i < l.length), ∃ g off, a = some ⟨g, off, none⟩ ∧ g < W.heap.size ∧ W.cell? ⟨g, off + i, none⟩ = some (.int .u8 (l[i].toNat : Int))
theorem ByR.up {A W : World} {v : Value} {l : List UInt8} (h : ByR A v l) (hb : Below A.heap.size A W) : ByR W v l := by
  obtain ⟨a, cap, h1, h2, h4⟩ := h
  refine ⟨a, cap, h1, h2, fun i hi => ?_⟩
  obtain ⟨g, off, e1, e2, e3⟩ := h4 i hi
  exact ⟨g, off, e1, Nat.lt_of_lt_of_le e2 hb.size, by rw [cell_up hb e2]; exact e3⟩
section
variable {H : Type} {enc : TypeId × Value → H}
theorem cellsU8 : Tryz.prog.cellsOf 5 = 1 := by kernel_rfl
set_option maxRecDepth 100000 in
/-- an argument of this type is such a list -/
theorem open_by {W : World} {base : Nat} {v : Value} {d : DataW H} {p : List MemPlace} (hval : Value.okWide Tryz.prog W .any base 22 v) (h : DataW.Trod enc Tryz.prog W 0 (fun _ => true) true 22 v d p) (hlt : ∀ x ∈ p, x.block < W.heap.size) : ∃ l, ByR W v l := by
  obtain ⟨a1, len, cap, rfl⟩ := okWide_slice Tryz.underlying22 hval
  obtain ⟨fuel, hf⟩ := h
  rcases open_ints Tryz.underlying22 Tryz.underlying5 cellsU8 hf with ⟨hcs, hx⟩ | ⟨a, len', cap', zs, hcs, _, hl, hm, hz, hx, hcell, hwz⟩
  · simp [Value.cells] at hcs
    obtain ⟨rfl, rfl, rfl⟩ := hcs
    exact ⟨[], none, 0, rfl, Nat.le_refl _, fun i h => absurd h (by simp)⟩
  · simp [Value.cells] at hcs
    obtain ⟨rfl, rfl, rfl⟩ := hcs
    simp only [Prod.mk.injEq] at hx
    obtain ⟨rfl, rfl⟩ := hx
    simp only [if_true] at hz
    have hlen : ((zs.take len).map fun n => UInt8.ofNat n.toNat).length = len := by simp; omega
    refine ⟨(zs.take len).map fun n => UInt8.ofNat n.toNat, some a, cap, by rw [hlen], by rw [hlen]; exact hl, fun j hj => ?_⟩
    rw [hlen] at hj
    obtain ⟨ab, ao, spot⟩ := a
    have hspot : spot = none := by simpa [Addr.add] using World.cell?_spot (hcell 0 (by omega))
    subst hspot
    have hcj := hcell j (by omega)
    rw [Addr.add_lit] at hcj
    have hg : ab < W.heap.size := hlt (.cell ab (ao + j)) (by simp only [MemPlace.row, List.mem_map, List.mem_range]; exact ⟨j, by omega, rfl⟩)
    refine ⟨ab, ao, rfl, hg, ?_⟩
    rw [hcj]
    have hb := range_u8 hwz j
    simp only [List.getElem_map, List.getElem_take]
    have e : zs.getD j 0 = zs[j]'(by omega) := by simp [List.getD, List.getElem?_eq_getElem (show j < zs.length by omega)]
    rw [List.getD_eq_getElem?_getD] at e
    rw [e] at hb
    rw [List.getD_eq_getElem?_getD, e]
    congr 2
    simp only [UInt8.toNat_ofNat']
    omega
end
set_option maxRecDepth 100000 in
/-- the first k bytes, as a string -/
theorem conv_by {dst : TypeId} (hd : Tryz.prog.underlying dst = some .string) {W : World} {a : Option Addr} {n cap k : Nat} {l : List UInt8} (h : ByR W (.slice a n cap) l) (hk : k ≤ l.length) : (convert 22 dst (.slice a k cap)).run Tryz.prog W = .ok (.string ⟨(l.take k).toArray⟩) W := by
  obtain ⟨a', cap', e, h1, h3⟩ := h
  injection e with e1 e2 e3
  subst e1; subst e2; subst e3
  rcases Nat.eq_zero_or_pos k with rfl | hk0
  · rw [List.take_zero]
    cases a with
    | none => rw [run_convert_bytes_string W _ _ 5 none 0 cap Tryz.underlying22 Tryz.underlying5 hd]; rfl
    | some a => exact run_convert_bytes_back W _ _ 5 a cap [] Tryz.underlying22 Tryz.underlying5 hd (fun j hj => absurd hj (by simp))
  · obtain ⟨g, off, rfl, hg, -⟩ := h3 0 (by omega)
    have hl : (l.take k).length = k := by rw [List.length_take, Nat.min_eq_left hk]
    have h := run_convert_bytes_back W 22 dst 5 ⟨g, off, none⟩ cap (l.take k) Tryz.underlying22 Tryz.underlying5 hd fun j hj => by
      rw [hl] at hj
      obtain ⟨g', off', e1, -, e3⟩ := h3 j (by omega)
      injection e1 with e1; injection e1 with e1 e2
      subst e1; subst e2
      rw [Addr.add_lit, List.getElem_take]; exact e3
    rw [hl] at h
    exact h
set_option maxHeartbeats 1000000 in
set_option maxRecDepth 100000 in
theorem Made_any (v : Value) (l : List UInt8) (w : World) (hv : ByR w v l) :
    Calls Tryz.prog 14 #[v] w fun e w' => e = .returned (.string ⟨(l.take 40).toArray⟩) ∧ w = w' := by
  obtain ⟨a, cap, rfl, h2, -⟩ := id hv
  have hlc : (l.length : Int) ≤ (cap : Int) := by omega
  obtain ⟨k, hk⟩ : ∃ k : Nat, min (l.length : Int) 40 = (k : Int) := ⟨(min (l.length : Int) 40).toNat, by omega⟩
  have hkl : k ≤ l.length := by omega
  have hcv := conv_by Tryz.underlying24 (k := k) hv hkl
  have e : l.take k = l.take 40 := by
    rcases (by omega : k = 40 ∨ k = l.length ∧ l.length ≤ 40) with rfl | ⟨rfl, h⟩
    · rfl
    · rw [List.take_length, List.take_of_length_le h]
  rw [e] at hcv
  have hkc : (k : Int) ≤ (cap : Int) := by omega
  clear h2 e hkl hlc
  go_enter Tryz.func14, Tryz.ntmps14
  go_wp2_with fail
  go_ret
  exact ⟨rfl, rfl⟩
end Go.Proofs.YtakbkbmjeanboaaGreatDoor
