/- 'tithinglaw03.DateFormats' returns true at every input: the walk, the row. -/
import Derived.Test.YtfoifnhakmfefaaLaw
import Derived.Test.YtfoifnhakmfefaaSan
import Derived.Test.YtfoifnhakmfefaaArr
import Derived.Test.YtfoifnhakmfefaaCa
import Derived.Test.YtfoifnhakmfefaaRefG
import Derived.Test.YtfoifnhakmfefaaLayW
import Derived.ChangeMaps5
import Derived.SizedLaws
namespace Go.Proofs.Ytfoifnhakmfefaa.dateFormats
open Go.ChangeShapes Go.Shelf Cal Txt Go.WideShapes Go.ChangeAt Go.RowKit
open Go.ChangeMaps (open_string shut_string)
set_option linter.unusedVariables false

def Strs (a b c d : List UInt8) : Array Value := #[.string ⟨a.toArray⟩, .string ⟨b.toArray⟩, .string ⟨c.toArray⟩, .string ⟨d.toArray⟩]
theorem strs_at {a b c d : List UInt8} {j : Nat} (h : j < 4) : ∃ t : List UInt8, (Strs a b c d)[j]? = some (.string ⟨t.toArray⟩) := by
  have : j = 0 ∨ j = 1 ∨ j = 2 ∨ j = 3 := by omega
  rcases this with rfl | rfl | rfl | rfl
  · exact ⟨a, rfl⟩
  · exact ⟨b, rfl⟩
  · exact ⟨c, rfl⟩
  · exact ⟨d, rfl⟩
theorem two_at {a b : Int} {j : Nat} (h : j < 2) : ∃ x : Int, (#[.int .i64 a, .int .i64 b] : Array Value)[j]? = some (.int .i64 x) := by
  have : j = 0 ∨ j = 1 := by omega
  rcases this with rfl | rfl
  · exact ⟨a, rfl⟩
  · exact ⟨b, rfl⟩
def FrG (n k q0 q1 q2 : Int) (rl : List UInt8) (bx : Nat) (s : Nat → Value) : Array Value := #[.int .i64 n, .string ⟨rl.toArray⟩, .agg #[.int .i64 q0, .int .i64 q1, .int .i64 q2], undef, undef, .pointer (some ⟨bx, 0, none⟩), .bool false, .bool true, .int .i64 k, undef, undef, undef, undef, undef, undef, undef, undef, .bool true, .int .i64 n, .int .i64 k, s 0, s 1, s 2, s 3, s 4, s 5, s 6, s 7, s 8, s 9, s 10, undef, undef, undef, undef, undef, undef, undef, undef, undef, undef, undef, undef, undef, undef, undef, undef, undef, undef, undef, undef, undef, undef, undef, undef, undef, undef, undef, undef, undef, undef, undef, undef, undef, undef]
def InG (n k q0 q1 q2 : Int) (rl : List UInt8) (bx : Nat) (W0 : World) (listed : Array Bool) (a : Act) (w : World) : Prop :=
  ∃ (s : Nat → Value) (b8 : Nat), listed.size = 11 ∧ a = { tmps := FrG n k q0 q1 q2 rl bx s, defers := [] } ∧
    (listed.getD 0 false = true → s 0 = .string ⟨rl.toArray⟩) ∧
    (listed.getD 1 false = true → s 1 = .agg #[.int .i64 q0, .int .i64 q1, .int .i64 q2]) ∧
    (listed.getD 2 false = true → s 2 = .string ⟨(layW q0 q1 q2 false).toArray⟩) ∧
    (listed.getD 3 false = true → s 3 = .agg #[.int .i64 q0, .int .i64 q1, .int .i64 q2]) ∧
    (listed.getD 4 false = true → s 4 = .string ⟨(layW q0 q1 q2 true).toArray⟩) ∧
    (listed.getD 5 false = true → s 5 = .string ⟨rl.toArray⟩) ∧
    (listed.getD 6 false = true → s 6 = .string ⟨(yyyy ++ rl).toArray⟩) ∧
    (listed.getD 7 false = true → s 7 = .string ⟨(yyyy ++ rl ++ [77, 77, 46, 68, 68]).toArray⟩) ∧
    (listed.getD 8 false = true → s 8 = .slice (some ⟨b8, 0, none⟩) 4 4) ∧
    (listed.getD 9 false = true → s 9 = .int .i64 4) ∧
    (listed.getD 10 false = true → s 10 = .int .i64 0) ∧
    (listed.getD 8 false = true → w.heap[b8]? = some (.cells (Strs rl (layW q0 q1 q2 false) (layW q0 q1 q2 true) (yyyy ++ rl ++ [77, 77, 46, 68, 68])) 9 (0, 0))) ∧
    w.heap[bx]? = some (.cells #[.int .i64 q0, .int .i64 q1, .int .i64 q2] 22 (0, 0)) ∧ Below W0.heap.size W0 w

set_option maxHeartbeats 4000000 in
set_option maxRecDepth 100000 in
theorem walk (n : Int) (raw : ByteArray) (q0 q1 q2 : Int) (hr : raw.size ≤ 140737488351232) (v0 : (Lit.int .i64 q0).wf = true) (v1 : (Lit.int .i64 q1).wf = true) (v2 : (Lit.int .i64 q2).wf = true) (w : World) :
    Calls Try.prog 8 #[.int .i64 n, .string raw, .agg #[.int .i64 q0, .int .i64 q1, .int .i64 q2]] w (Gives w (.bool true)) := by
  obtain ⟨rl, rfl⟩ : ∃ rl : List UInt8, raw = ⟨rl.toArray⟩ := ⟨raw.data.toList, by simp⟩
  have hrl : rl.length ≤ 140737488351232 := hr
  obtain ⟨k0, k1⟩ := bounds_i64 v0
  obtain ⟨k2, k3⟩ := bounds_i64 v1
  obtain ⟨k4, k5⟩ := bounds_i64 v2
  have HA : Hid ((ByteArray.mk #[89, 89, 89, 89]) ++ ⟨rl.toArray⟩ = ⟨(yyyy ++ rl).toArray⟩) := Lib.hid (str_append yyyy rl)
  have HB : Hid ((⟨(yyyy ++ rl).toArray⟩ : ByteArray) ++ ⟨#[77, 77, 46, 68, 68]⟩ = ⟨(yyyy ++ rl ++ [77, 77, 46, 68, 68]).toArray⟩) := Lib.hid (str_append (yyyy ++ rl) [77, 77, 46, 68, 68])
  obtain ⟨k, hk⟩ : ∃ k, k = bits .and .i64 n 2097151 := ⟨_, rfl⟩
  have HK := Lib.hid hk
  clear hk hr v0 v1 v2
  have hyl : (yyyy ++ rl).length = 4 + rl.length := by simp [yyyy]; omega
  go_enter Try.func8, Try.ntmps8
  go_wp2_with fail
  refine (sanity_any _).mono ?_
  rintro e W0 ⟨rfl, hb1⟩
  have hq1 : W0.heap[w.heap.size]? = some (.cells #[.int .i64 q0, .int .i64 q1, .int .i64 q2] 22 (0, 0)) := by
    rw [hb1.block _ (by simp)]; exact heap_alloc_new w _
  have HB1 := Lib.hid (((Below.refl w.heap.size w).alloc (Nat.le_refl _) _).trans (hb1.mono (by simp)))
  obtain ⟨bx, hbx⟩ : ∃ bx, bx = w.heap.size := ⟨_, rfl⟩
  rw [← hbx] at hq1 ⊢
  have HQ1 := Lib.hid hq1
  clear hb1 hq1 hbx
  go_wp2_with fail
  rw [← HK.out]
  go_cut [28, 29, 30] (fun v28 v29 v30 wx => ∃ b : Nat, v28 = .slice (some ⟨b, 0, none⟩) 4 4 ∧ v29 = .int .i64 4 ∧ v30 = .int .i64 0 ∧ wx.heap[b]? = some (.cells (Strs rl (layW q0 q1 q2 false) (layW q0 q1 q2 true) (yyyy ++ rl ++ [77, 77, 46, 68, 68])) 9 (0, 0)) ∧ Below W0.heap.size W0 wx)
  case first =>
    refine wp_region_inv (InG n k q0 q1 q2 rl bx W0) (by kernel_rfl) ?h0 ?hstep ?hdone
    case h0 => exact ⟨fun _ => undef, 0, rfl, rfl, (fun h => absurd h (by simp)), (fun h => absurd h (by simp)), (fun h => absurd h (by simp)), (fun h => absurd h (by simp)), (fun h => absurd h (by simp)), (fun h => absurd h (by simp)), (fun h => absurd h (by simp)), (fun h => absurd h (by simp)), (fun h => absurd h (by simp)), (fun h => absurd h (by simp)), (fun h => absurd h (by simp)), (fun h => absurd h (by simp)), HQ1.out, (Below.refl _ _).drew⟩
    case hstep =>
      rintro listed a w ⟨s, b8, hsz, rfl, c0, c1, c2, c3, c4, c5, c6, c7, c8, c9, c10, d8, f0, cbl⟩ i o ho hun hall
      have hun' : listed.getD i false = false := getD_none hun
      have hi : i < 11 := (Array.getElem?_eq_some_iff.1 ho).1
      have hii : i = 0 ∨ i = 1 ∨ i = 2 ∨ i = 3 ∨ i = 4 ∨ i = 5 ∨ i = 6 ∨ i = 7 ∨ i = 8 ∨ i = 9 ∨ i = 10 := by omega
      rcases hii with rfl | rfl | rfl | rfl | rfl | rfl | rfl | rfl | rfl | rfl | rfl
      · simp at ho
        subst ho
        refine wpOp_step rfl (fun K' hK => ?_)
        simp only [FrG]
        go_simp
        refine hK _ _ ⟨fun j => if j = 0 then .string ⟨rl.toArray⟩ else s j, b8, by simpa using hsz, by simp [FrG], fun _ => by simp, fun h => by rw [getD_set_ne false (by decide)] at h; simpa using c1 h, fun h => by rw [getD_set_ne false (by decide)] at h; simpa using c2 h, fun h => by rw [getD_set_ne false (by decide)] at h; simpa using c3 h, fun h => by rw [getD_set_ne false (by decide)] at h; simpa using c4 h, fun h => by rw [getD_set_ne false (by decide)] at h; simpa using c5 h, fun h => by rw [getD_set_ne false (by decide)] at h; simpa using c6 h, fun h => by rw [getD_set_ne false (by decide)] at h; simpa using c7 h, fun h => by rw [getD_set_ne false (by decide)] at h; simpa using c8 h, fun h => by rw [getD_set_ne false (by decide)] at h; simpa using c9 h, fun h => by rw [getD_set_ne false (by decide)] at h; simpa using c10 h, fun h => by rw [getD_set_ne false (by decide)] at h; exact d8 h, f0, cbl⟩
      · simp at ho
        subst ho
        have x0 : w.cell? ⟨bx, 0, none⟩ = some (.int .i64 q0) := by rw [Lib.cell_of_heap f0]; rfl
        have x1 : w.cell? ⟨bx, 1, none⟩ = some (.int .i64 q1) := by rw [Lib.cell_of_heap f0]; rfl
        have x2 : w.cell? ⟨bx, 2, none⟩ = some (.int .i64 q2) := by rw [Lib.cell_of_heap f0]; rfl
        refine wpOp_step rfl (fun K' hK => ?_)
        simp only [FrG]
        go_simp
        refine hK _ _ ⟨fun j => if j = 1 then .agg #[.int .i64 q0, .int .i64 q1, .int .i64 q2] else s j, b8, by simpa using hsz, by simp [FrG], fun h => by rw [getD_set_ne false (by decide)] at h; simpa using c0 h, fun _ => by simp, fun h => by rw [getD_set_ne false (by decide)] at h; simpa using c2 h, fun h => by rw [getD_set_ne false (by decide)] at h; simpa using c3 h, fun h => by rw [getD_set_ne false (by decide)] at h; simpa using c4 h, fun h => by rw [getD_set_ne false (by decide)] at h; simpa using c5 h, fun h => by rw [getD_set_ne false (by decide)] at h; simpa using c6 h, fun h => by rw [getD_set_ne false (by decide)] at h; simpa using c7 h, fun h => by rw [getD_set_ne false (by decide)] at h; simpa using c8 h, fun h => by rw [getD_set_ne false (by decide)] at h; simpa using c9 h, fun h => by rw [getD_set_ne false (by decide)] at h; simpa using c10 h, fun h => by rw [getD_set_ne false (by decide)] at h; exact d8 h, f0, cbl⟩
      · simp at ho
        subst ho
        have u1 : listed.getD 1 false = true := hall ⟨1, .data⟩ (by simp) rfl
        have e1 := c1 u1
        refine wpOp_step rfl (fun K' hK => ?_)
        simp only [FrG]
        go_simp
        refine (Layout_any q0 q1 q2 false _ k0 k1 k2 k3 k4 k5).mono ?_
        rintro e w' ⟨rfl, hb⟩
        refine hK _ _ ⟨fun j => if j = 2 then .string ⟨(layW q0 q1 q2 false).toArray⟩ else s j, b8, by simpa using hsz, by simp [FrG, e1], fun h => by rw [getD_set_ne false (by decide)] at h; simpa using c0 h, fun h => by rw [getD_set_ne false (by decide)] at h; simpa using c1 h, fun _ => by simp, fun h => by rw [getD_set_ne false (by decide)] at h; simpa using c3 h, fun h => by rw [getD_set_ne false (by decide)] at h; simpa using c4 h, fun h => by rw [getD_set_ne false (by decide)] at h; simpa using c5 h, fun h => by rw [getD_set_ne false (by decide)] at h; simpa using c6 h, fun h => by rw [getD_set_ne false (by decide)] at h; simpa using c7 h, fun h => by rw [getD_set_ne false (by decide)] at h; simpa using c8 h, fun h => by rw [getD_set_ne false (by decide)] at h; simpa using c9 h, fun h => by rw [getD_set_ne false (by decide)] at h; simpa using c10 h, fun h => by rw [getD_set_ne false (by decide)] at h; exact (hb.block _ (Array.getElem?_eq_some_iff.1 (d8 h)).1).trans (d8 h), (hb.block _ (Array.getElem?_eq_some_iff.1 (f0)).1).trans (f0), cbl.trans (hb.mono cbl.size)⟩
      · simp at ho
        subst ho
        have x0 : w.cell? ⟨bx, 0, none⟩ = some (.int .i64 q0) := by rw [Lib.cell_of_heap f0]; rfl
        have x1 : w.cell? ⟨bx, 1, none⟩ = some (.int .i64 q1) := by rw [Lib.cell_of_heap f0]; rfl
        have x2 : w.cell? ⟨bx, 2, none⟩ = some (.int .i64 q2) := by rw [Lib.cell_of_heap f0]; rfl
        refine wpOp_step rfl (fun K' hK => ?_)
        simp only [FrG]
        go_simp
        refine hK _ _ ⟨fun j => if j = 3 then .agg #[.int .i64 q0, .int .i64 q1, .int .i64 q2] else s j, b8, by simpa using hsz, by simp [FrG], fun h => by rw [getD_set_ne false (by decide)] at h; simpa using c0 h, fun h => by rw [getD_set_ne false (by decide)] at h; simpa using c1 h, fun h => by rw [getD_set_ne false (by decide)] at h; simpa using c2 h, fun _ => by simp, fun h => by rw [getD_set_ne false (by decide)] at h; simpa using c4 h, fun h => by rw [getD_set_ne false (by decide)] at h; simpa using c5 h, fun h => by rw [getD_set_ne false (by decide)] at h; simpa using c6 h, fun h => by rw [getD_set_ne false (by decide)] at h; simpa using c7 h, fun h => by rw [getD_set_ne false (by decide)] at h; simpa using c8 h, fun h => by rw [getD_set_ne false (by decide)] at h; simpa using c9 h, fun h => by rw [getD_set_ne false (by decide)] at h; simpa using c10 h, fun h => by rw [getD_set_ne false (by decide)] at h; exact d8 h, f0, cbl⟩
      · simp at ho
        subst ho
        have u3 : listed.getD 3 false = true := hall ⟨3, .data⟩ (by simp) rfl
        have e3 := c3 u3
        refine wpOp_step rfl (fun K' hK => ?_)
        simp only [FrG]
        go_simp
        refine (Layout_any q0 q1 q2 true _ k0 k1 k2 k3 k4 k5).mono ?_
        rintro e w' ⟨rfl, hb⟩
        refine hK _ _ ⟨fun j => if j = 4 then .string ⟨(layW q0 q1 q2 true).toArray⟩ else s j, b8, by simpa using hsz, by simp [FrG, e3], fun h => by rw [getD_set_ne false (by decide)] at h; simpa using c0 h, fun h => by rw [getD_set_ne false (by decide)] at h; simpa using c1 h, fun h => by rw [getD_set_ne false (by decide)] at h; simpa using c2 h, fun h => by rw [getD_set_ne false (by decide)] at h; simpa using c3 h, fun _ => by simp, fun h => by rw [getD_set_ne false (by decide)] at h; simpa using c5 h, fun h => by rw [getD_set_ne false (by decide)] at h; simpa using c6 h, fun h => by rw [getD_set_ne false (by decide)] at h; simpa using c7 h, fun h => by rw [getD_set_ne false (by decide)] at h; simpa using c8 h, fun h => by rw [getD_set_ne false (by decide)] at h; simpa using c9 h, fun h => by rw [getD_set_ne false (by decide)] at h; simpa using c10 h, fun h => by rw [getD_set_ne false (by decide)] at h; exact (hb.block _ (Array.getElem?_eq_some_iff.1 (d8 h)).1).trans (d8 h), (hb.block _ (Array.getElem?_eq_some_iff.1 (f0)).1).trans (f0), cbl.trans (hb.mono cbl.size)⟩
      · simp at ho
        subst ho
        refine wpOp_step rfl (fun K' hK => ?_)
        simp only [FrG]
        go_simp
        refine hK _ _ ⟨fun j => if j = 5 then .string ⟨rl.toArray⟩ else s j, b8, by simpa using hsz, by simp [FrG], fun h => by rw [getD_set_ne false (by decide)] at h; simpa using c0 h, fun h => by rw [getD_set_ne false (by decide)] at h; simpa using c1 h, fun h => by rw [getD_set_ne false (by decide)] at h; simpa using c2 h, fun h => by rw [getD_set_ne false (by decide)] at h; simpa using c3 h, fun h => by rw [getD_set_ne false (by decide)] at h; simpa using c4 h, fun _ => by simp, fun h => by rw [getD_set_ne false (by decide)] at h; simpa using c6 h, fun h => by rw [getD_set_ne false (by decide)] at h; simpa using c7 h, fun h => by rw [getD_set_ne false (by decide)] at h; simpa using c8 h, fun h => by rw [getD_set_ne false (by decide)] at h; simpa using c9 h, fun h => by rw [getD_set_ne false (by decide)] at h; simpa using c10 h, fun h => by rw [getD_set_ne false (by decide)] at h; exact d8 h, f0, cbl⟩
      · simp at ho
        subst ho
        have u5 : listed.getD 5 false = true := hall ⟨5, .data⟩ (by simp) rfl
        have e5 := c5 u5
        have hx6 : ¬ 9223372036854775807 < 4 + rl.length := by omega
        refine wpOp_step rfl (fun K' hK => ?_)
        simp only [FrG]
        go_simp
        try rw [HA.out]
        refine hK _ _ ⟨fun j => if j = 6 then .string ⟨(yyyy ++ rl).toArray⟩ else s j, b8, by simpa using hsz, by simp [FrG, e5], fun h => by rw [getD_set_ne false (by decide)] at h; simpa using c0 h, fun h => by rw [getD_set_ne false (by decide)] at h; simpa using c1 h, fun h => by rw [getD_set_ne false (by decide)] at h; simpa using c2 h, fun h => by rw [getD_set_ne false (by decide)] at h; simpa using c3 h, fun h => by rw [getD_set_ne false (by decide)] at h; simpa using c4 h, fun h => by rw [getD_set_ne false (by decide)] at h; simpa using c5 h, fun _ => by simp, fun h => by rw [getD_set_ne false (by decide)] at h; simpa using c7 h, fun h => by rw [getD_set_ne false (by decide)] at h; simpa using c8 h, fun h => by rw [getD_set_ne false (by decide)] at h; simpa using c9 h, fun h => by rw [getD_set_ne false (by decide)] at h; simpa using c10 h, fun h => by rw [getD_set_ne false (by decide)] at h; exact d8 h, f0, cbl⟩
      · simp at ho
        subst ho
        have u6 : listed.getD 6 false = true := hall ⟨6, .data⟩ (by simp) rfl
        have e6 := c6 u6
        have hx6 : ¬ 9223372036854775807 < 4 + rl.length + 5 := by omega
        refine wpOp_step rfl (fun K' hK => ?_)
        simp only [FrG]
        go_simp
        try rw [HB.out]
        refine hK _ _ ⟨fun j => if j = 7 then .string ⟨(yyyy ++ rl ++ [77, 77, 46, 68, 68]).toArray⟩ else s j, b8, by simpa using hsz, by simp [FrG, e6], fun h => by rw [getD_set_ne false (by decide)] at h; simpa using c0 h, fun h => by rw [getD_set_ne false (by decide)] at h; simpa using c1 h, fun h => by rw [getD_set_ne false (by decide)] at h; simpa using c2 h, fun h => by rw [getD_set_ne false (by decide)] at h; simpa using c3 h, fun h => by rw [getD_set_ne false (by decide)] at h; simpa using c4 h, fun h => by rw [getD_set_ne false (by decide)] at h; simpa using c5 h, fun h => by rw [getD_set_ne false (by decide)] at h; simpa using c6 h, fun _ => by simp, fun h => by rw [getD_set_ne false (by decide)] at h; simpa using c8 h, fun h => by rw [getD_set_ne false (by decide)] at h; simpa using c9 h, fun h => by rw [getD_set_ne false (by decide)] at h; simpa using c10 h, fun h => by rw [getD_set_ne false (by decide)] at h; exact d8 h, f0, cbl⟩
      · simp at ho
        subst ho
        have u0 : listed.getD 0 false = true := hall ⟨0, .data⟩ (by simp) rfl
        have e0 := c0 u0
        have u2 : listed.getD 2 false = true := hall ⟨2, .data⟩ (by simp) rfl
        have e2 := c2 u2
        have u4 : listed.getD 4 false = true := hall ⟨4, .data⟩ (by simp) rfl
        have e4 := c4 u4
        have u7 : listed.getD 7 false = true := hall ⟨7, .data⟩ (by simp) rfl
        have e7 := c7 u7
        refine wpOp_step rfl (fun K' hK => ?_)
        simp only [FrG]
        go_simp
        refine hK _ _ ⟨fun j => if j = 8 then .slice (some ⟨w.heap.size, 0, none⟩) 4 4 else s j, w.heap.size, by simpa using hsz, by simp [FrG, e0, e2, e4, e7], fun h => by rw [getD_set_ne false (by decide)] at h; simpa using c0 h, fun h => by rw [getD_set_ne false (by decide)] at h; simpa using c1 h, fun h => by rw [getD_set_ne false (by decide)] at h; simpa using c2 h, fun h => by rw [getD_set_ne false (by decide)] at h; simpa using c3 h, fun h => by rw [getD_set_ne false (by decide)] at h; simpa using c4 h, fun h => by rw [getD_set_ne false (by decide)] at h; simpa using c5 h, fun h => by rw [getD_set_ne false (by decide)] at h; simpa using c6 h, fun h => by rw [getD_set_ne false (by decide)] at h; simpa using c7 h, fun _ => by simp, fun h => by rw [getD_set_ne false (by decide)] at h; simpa using c9 h, fun h => by rw [getD_set_ne false (by decide)] at h; simpa using c10 h, fun _ => heap_alloc_new w _, (Below.heap_alloc _ _ _ (Array.getElem?_eq_some_iff.1 (f0)).1).trans (f0), cbl.alloc cbl.size _⟩
      · simp at ho
        subst ho
        have u8 : listed.getD 8 false = true := hall ⟨8, .data⟩ (by simp) rfl
        have e8 := c8 u8
        refine wpOp_step rfl (fun K' hK => ?_)
        simp only [FrG]
        go_simp
        refine hK _ _ ⟨fun j => if j = 9 then .int .i64 4 else s j, b8, by simpa using hsz, by simp [FrG, e8], fun h => by rw [getD_set_ne false (by decide)] at h; simpa using c0 h, fun h => by rw [getD_set_ne false (by decide)] at h; simpa using c1 h, fun h => by rw [getD_set_ne false (by decide)] at h; simpa using c2 h, fun h => by rw [getD_set_ne false (by decide)] at h; simpa using c3 h, fun h => by rw [getD_set_ne false (by decide)] at h; simpa using c4 h, fun h => by rw [getD_set_ne false (by decide)] at h; simpa using c5 h, fun h => by rw [getD_set_ne false (by decide)] at h; simpa using c6 h, fun h => by rw [getD_set_ne false (by decide)] at h; simpa using c7 h, fun h => by rw [getD_set_ne false (by decide)] at h; simpa using c8 h, fun _ => by simp, fun h => by rw [getD_set_ne false (by decide)] at h; simpa using c10 h, fun h => by rw [getD_set_ne false (by decide)] at h; exact d8 h, f0, cbl⟩
      · simp at ho
        subst ho
        refine wpOp_step rfl (fun K' hK => ?_)
        simp only [FrG]
        go_simp
        refine hK _ _ ⟨fun j => if j = 10 then .int .i64 0 else s j, b8, by simpa using hsz, by simp [FrG], fun h => by rw [getD_set_ne false (by decide)] at h; simpa using c0 h, fun h => by rw [getD_set_ne false (by decide)] at h; simpa using c1 h, fun h => by rw [getD_set_ne false (by decide)] at h; simpa using c2 h, fun h => by rw [getD_set_ne false (by decide)] at h; simpa using c3 h, fun h => by rw [getD_set_ne false (by decide)] at h; simpa using c4 h, fun h => by rw [getD_set_ne false (by decide)] at h; simpa using c5 h, fun h => by rw [getD_set_ne false (by decide)] at h; simpa using c6 h, fun h => by rw [getD_set_ne false (by decide)] at h; simpa using c7 h, fun h => by rw [getD_set_ne false (by decide)] at h; simpa using c8 h, fun h => by rw [getD_set_ne false (by decide)] at h; simpa using c9 h, fun _ => by simp, fun h => by rw [getD_set_ne false (by decide)] at h; exact d8 h, f0, cbl⟩
    case hdone =>
      rintro listed a w ⟨s, b8, hsz, rfl, c0, c1, c2, c3, c4, c5, c6, c7, c8, c9, c10, d8, f0, cbl⟩ hr
      have hup := fun j => all_done (md := .any) (by kernel_rfl) hsz hr j
      have e8 := c8 (hup 8 (by decide))
      have e9 := c9 (hup 9 (by decide))
      have e10 := c10 (hup 10 (by decide))
      have D8 := d8 (hup 8 (by decide))
      clear c0 c1 c2 c3 c4 c5 c6 c7 c8 c9 c10 d8 hup hr
      simp only [FrG]
      rw [e8, e9, e10]
      go_wp2_with fail
      go_meet
      exact ⟨b8, rfl, rfl, rfl, D8, cbl⟩
  obtain ⟨b, rfl, rfl, rfl, hB, hBB⟩ := hcut
  have HBV := Lib.hid (HB1.out.trans (hBB.mono HB1.out.size))
  have hbl : b < wc.heap.size := (Array.getElem?_eq_some_iff.1 hB).1
  have HT := Lib.hid hB
  clear hB hBB
  go_wp2_with fail
  go_loopw [30] (fun i wr => ∃ j : Nat, j ≤ 4 ∧ i = .int .i64 (j : Int) ∧ Hid (Below wc.heap.size wc wr)) (fun i _ => 4 - (intOf i).toNat)
  case atStart => exact ⟨0, by omega, rfl, Lib.hid (Below.refl _ _)⟩
  case round =>
    obtain ⟨j, hj, rfl, HBW⟩ := hrel
    by_cases hlt : j < 4
    · have hlt' : (j : Int) < 4 := by omega
      obtain ⟨t, hx⟩ := strs_at (a := rl) (b := layW q0 q1 q2 false) (c := layW q0 q1 q2 true) (d := yyyy ++ rl ++ [77, 77, 46, 68, 68]) hlt
      have cx : wr.cell? ⟨b, j, none⟩ = some (.string ⟨t.toArray⟩) := by rw [World.cell?_of_block (w := wc) (HBW.out.block b hbl), Lib.cell_of_heap HT.out]; exact hx
      clear hx
      go_wp2_with fail
      obtain ⟨wo, hwo⟩ : ∃ wo, wo = wr := ⟨_, rfl⟩
      subst hwo
      obtain ⟨V, hV⟩ : ∃ V, wo.alloc (.cells #[.int .i64 k, .int .i64 n] 3) = V := ⟨_, rfl⟩
      have hT2 : V.heap[wo.heap.size]? = some (.cells #[.int .i64 k, .int .i64 n] 3 (0, 0)) := by rw [← hV]; exact heap_alloc_new wo _
      have hBV2 : Below wc.heap.size wc V := by rw [← hV]; exact HBW.out.alloc HBW.out.size _
      have hvl : wo.heap.size < V.heap.size := (Array.getElem?_eq_some_iff.1 hT2).1
      rw [hV]
      have HT2 := Lib.hid hT2; have HBV2 := Lib.hid hBV2; have HCA := Lib.hid (ca_any t)
      clear hT2 hBV2 hV cx
      go_loopw [38] (fun i wi => ∃ m : Nat, m ≤ 2 ∧ i = .int .i64 (m : Int) ∧ Hid (Below V.heap.size V wi)) (fun i _ => 2 - (intOf i).toNat)
      case atStart => exact ⟨0, by omega, rfl, Lib.hid (Below.refl _ _)⟩
      case round =>
        obtain ⟨m, hm, rfl, HBI⟩ := hrel
        by_cases hlt2 : m < 2
        · have hlt2' : (m : Int) < 2 := by omega
          obtain ⟨x, hx⟩ := two_at (a := k) (b := n) hlt2
          have cx : wr.cell? ⟨wo.heap.size, m, none⟩ = some (.int .i64 x) := by rw [World.cell?_of_block (w := V) (HBI.out.block _ hvl), Lib.cell_of_heap HT2.out]; exact hx
          clear hx
          go_wp2_with fail
          refine (Format_any t x HCA.out _).mono ?_
          rintro e w3 ⟨rfl, hb3⟩
          have HB3 := Lib.hid (HBI.out.trans (hb3.mono HBI.out.size))
          clear hb3
          go_wp2_with fail
          refine (rFormat_any t x _).mono ?_
          rintro e w4 ⟨rfl, hb4⟩
          have HB4 := Lib.hid (HB3.out.trans (hb4.mono HB3.out.size))
          clear hb4 cx
          go_wp2_with fail
          go_roundw
          case rel => exact ⟨m + 1, by omega, by go_num, HB4⟩
          case measure => simp [intOf]; omega
        · have hge2 : (2 : Int) ≤ (m : Int) := by omega
          have HB3 := Lib.hid (HBV2.out.trans (HBI.out.mono HBV2.out.size))
          go_wp2_with fail
          go_roundw
          case rel => exact ⟨j + 1, by omega, by go_num, HB3⟩
          case measure => simp [intOf]; omega
    · have hge : (4 : Int) ≤ (j : Int) := by omega
      go_wp2_with fail
      go_ret
      exact ⟨rfl, HBV.out.trans (HBW.out.mono HBV.out.size)⟩

/-! ### THE ROW's STEP -/
theorem cel2 : Try.prog.cellsOf 3 = 1 := by kernel_rfl
theorem arr2 : Try.prog.cellsOf 22 = 3 := by kernel_rfl
set_option maxRecDepth 100000 in
theorem lifted (os : Os) (started : os.Started) (H : Type) (enc : TypeId × Value → H) :
    ReturnsInHanded {} Try.checked os 8 .any (Rows.dateFormatsSpec.pre6 enc Try.prog Try.f8 Rows.dateFormatsRow.domain false) (Rows.dateFormatsSpec.post enc Try.prog Try.f8 false true false false) := by
  refine returnsInHanded_of_change_sized (C := Try.checked) own started (by kernel_rfl) Try.func8
    (ChangeSpec.witness6 (enc := enc) (C := Try.checked) false ⟨#[], #[.int .i64 0, .string ⟨#[]⟩, .agg #[.int .i64 0, .int .i64 0, .int .i64 0]], []⟩ 8 (by kernel_rfl) (by kernel_rfl) (by kernel_rfl) (by kernel_rfl)) ?_
  intro W base args ds gs before hval0 hW hcnd hsz _
  have hsz' : (DataW.weightsEach Try.prog (Try.f8.params.toList ++ Rows.dateFormatsSpec.plain.varTypes Try.prog) (ds ++ gs)).all (· ≤ reachBytes) = true := hsz
  rw [Try.params8] at hsz'
  have hval : ∀ (j : Nat) t v, Try.f8.params[j]? = some t → args[j]? = some v → Value.okWide Try.prog W .any base t v := hval0
  have hW' := hW
  obtain ⟨p, q, hA0, hV, rfl, hfz, hnd⟩ := hW
  have hA : DataW.TrodAll enc Try.prog W 0 (fun _ => true) true Try.f8.params.toList args.toList ds p := hA0
  rw [Try.params8] at hA hval
  obtain ⟨v0, vs0, d0, ds0, p0, q0, hargs, rfl, rfl, h0, r0⟩ := trodAll_cons hA
  obtain ⟨v1, vs1, d1, ds1, p1, q1, rfl, rfl, rfl, h1, r1⟩ := trodAll_cons r0
  obtain ⟨v2, vs2, d2, ds2, p2, q2, rfl, rfl, rfl, h2, r2⟩ := trodAll_cons r1
  obtain ⟨rfl, rfl, rfl⟩ := trodAll_nil r2
  obtain rfl : args = #[v0, v1, v2] := by cases args; simp_all
  obtain ⟨rfl, rfl⟩ := trodVars_none hV
  obtain ⟨a0, rfl, rfl, rfl, w0⟩ := open_int Try.underlying3 (hval 0 3 v0 rfl rfl) h0
  obtain ⟨s1, rfl, rfl, rfl, w1⟩ := open_string Try.underlying9 (hval 1 9 v1 rfl rfl) h1
  have z1 : s1.size ≤ 140737488351232 := sized_string hsz' (j := 1) (t := 9) (bytes := s1.data.toList) rfl rfl
  obtain ⟨xs2, hl2, rfl, rfl, rfl, w2⟩ := open_ints Try.underlying22 Try.underlying3 cel2 arr2 (hval 2 22 v2 rfl rfl) h2
  obtain ⟨x2_0, x2_1, x2_2, rfl⟩ := list3 xs2 hl2
  clear hA0 hval0
  simp only [List.append_nil] at hW'
  refine (walk a0 s1 x2_0 x2_1 x2_2 z1 (w2 _ (by simp)) (w2 _ (by simp)) (w2 _ (by simp)) W).mono fun e W' ⟨he, hb⟩ => ?_
  subst he
  exact ⟨_, rfl, post_of_below (pa := []) (pv := []) hW' (fun _ _ _ => (trodAll_cons_mk (shut_bool Try.underlying4 _) trodAll_mk0)) (fun sp _ => (trodAll_cons_mk (shut_int Try.underlying3 w0) (trodAll_cons_mk (shut_string Try.underlying9 w1) (trodAll_cons_mk (shut_ints Try.underlying22 Try.underlying3 cel2 arr2 hl2 w2) trodAll_mk0)))) (fun _ _ => rfl) rfl
    hb (ok_one (by kernel_rfl) rfl (okWide_bool_mk Try.underlying4 _))⟩

theorem over : Rows.dateFormatsRow.holds Try.pinned (OpenSpec.ofChange Rows.dateFormatsSpec) :=
  OpenClaim.holds_of_wide 8 Try.f8 rfl rfl rfl rfl rfl rfl rfl ⟨rfl, rfl, rfl, rfl, rfl⟩ rfl rfl rfl rfl rfl (by kernel_rfl) Try.func8 (by kernel_rfl)
    (of_decide_eq_true (by kernel_rfl)) (by unfold Func.isWrapper; first | (rw [if_pos (by decide +kernel)]; kernel_rfl) | (rw [if_neg (by decide +kernel)]; exact ⟨rfl, rfl⟩))
    (fun os started H enc _ => lifted os started H enc)

theorem proved : Rows.DateFormatsSaid :=
  over
#print axioms proved
end Go.Proofs.Ytfoifnhakmfefaa.dateFormats
