/- 'tithinglaw03.DateReads' returns true at every input: the walk, the row. -/
import Derived.Test.YtfoifnhakmfefaaLaw
import Derived.Test.YtfoifnhakmfefaaSan
import Derived.Test.YtfoifnhakmfefaaArr
import Derived.Test.YtfoifnhakmfefaaCa
import Derived.Test.YtfoifnhakmfefaaRefG
import Derived.Test.YtfoifnhakmfefaaLayW
import Derived.ChangeMaps5
import Derived.Lib.ConvBytes
import Derived.SizedLaws
namespace Go.Proofs.Ytfoifnhakmfefaa.dateReads
open Go.ChangeShapes Go.Shelf Cal Txt Go.WideShapes Go.ChangeAt Go.RowKit
open Go.ChangeMaps (open_string shut_string)
set_option linter.unusedVariables false

theorem below_bytes (w : World) (e : TypeId) (s : ByteArray) : Below w.heap.size w (Lib.bytesWorld w e s) :=
  ⟨rfl, rfl, rfl, by rw [Lib.bytesWorld_size]; omega, fun b hb => Lib.bytesWorld_at_old w e s b hb⟩
theorem fmt_len160 (L : List UInt8) (n : Int) : (fmtS L n).length ≤ 160 := by
  unfold fmtS
  split
  · rename_i h
    have hr : rightB L = true := by simp only [fmtOk, Bool.and_eq_true] at h; exact h.2
    have h1 := rightB_len hr
    have h2 := wrAll_len (civY n) (civM n) (civD n) (tokens L) (tokens_isTok _ L (Nat.le_refl _))
    have h3 := tokens_len _ L (Nat.le_refl _)
    unfold Txt.written; omega
  · simp
theorem frozen_at {W : World} {b k : Nat} {cs : Array Value} {t : TypeId} {fr : Nat × Nat} (h : W.heap[b]? = some (.cells cs t fr)) : W.frozen? ⟨b, k, none⟩ = (decide (fr.1 ≤ k) && decide (k < fr.2)) := by
  simp only [World.frozen?, h]
theorem set_bytes {S L : List UInt8} {C : Array Value} {z : Int} {p j : Nat} (hL : L = S.set p (UInt8.ofNat z.toNat)) (hC : ∀ j (hj : j < S.length), C[j]? = some (.int .u8 (S[j].toNat : Int))) (h0 : 0 ≤ z) (h1 : z ≤ 255) (hl : j < L.length) :
    (C.setIfInBounds p (.int .u8 z))[j]? = some (.int .u8 (L[j].toNat : Int)) := by
  subst hL
  have hjS : j < S.length := by simpa using hl
  have hjC : j < C.size := (Array.getElem?_eq_some_iff.1 (hC j hjS)).1
  by_cases e : p = j
  · subst e
    rw [List.getElem_set_self]
    have : (UInt8.ofNat z.toNat).toNat = z.toNat := by rw [UInt8.toNat_ofNat']; omega
    rw [this]
    simp [hjC]; omega
  · rw [List.getElem_set_ne e, Array.getElem?_setIfInBounds_ne e, hC j hjS]
def Strs (a b c d : List UInt8) : Array Value := #[.string ⟨a.toArray⟩, .string ⟨b.toArray⟩, .string ⟨c.toArray⟩, .string ⟨d.toArray⟩]
theorem strs_at {a b c d : List UInt8} {j : Nat} (h : j < 4) : ∃ t : List UInt8, (Strs a b c d)[j]? = some (.string ⟨t.toArray⟩) := by
  have : j = 0 ∨ j = 1 ∨ j = 2 ∨ j = 3 := by omega
  rcases this with rfl | rfl | rfl | rfl
  · exact ⟨a, rfl⟩
  · exact ⟨b, rfl⟩
  · exact ⟨c, rfl⟩
  · exact ⟨d, rfl⟩
def Six (a b c d e f : List UInt8) : Array Value := #[.string ⟨a.toArray⟩, .string ⟨b.toArray⟩, .string ⟨c.toArray⟩, .string ⟨d.toArray⟩, .string ⟨e.toArray⟩, .string ⟨f.toArray⟩]
theorem six_at {a b c d e f : List UInt8} {j : Nat} (ha : a.length ≤ maxLen) (hb : b.length ≤ maxLen) (hc : c.length ≤ maxLen) (hd : d.length ≤ maxLen) (he : e.length ≤ maxLen) (hf : f.length ≤ maxLen) (h : j < 6) : ∃ t : List UInt8, (Six a b c d e f)[j]? = some (.string ⟨t.toArray⟩) ∧ t.length ≤ maxLen := by
  have : j = 0 ∨ j = 1 ∨ j = 2 ∨ j = 3 ∨ j = 4 ∨ j = 5 := by omega
  rcases this with rfl | rfl | rfl | rfl | rfl | rfl
  · exact ⟨a, rfl, ha⟩
  · exact ⟨b, rfl, hb⟩
  · exact ⟨c, rfl, hc⟩
  · exact ⟨d, rfl, hd⟩
  · exact ⟨e, rfl, he⟩
  · exact ⟨f, rfl, hf⟩
def FrA (n k q0 q1 q2 q3 q4 q5 q6 q7 : Int) (rl : List UInt8) (bx : Nat) (s : Nat → Value) : Array Value := #[.int .i64 n, .string ⟨rl.toArray⟩, .agg #[.int .i64 q0, .int .i64 q1, .int .i64 q2, .int .i64 q3, .int .i64 q4, .int .i64 q5, .int .i64 q6, .int .i64 q7], undef, undef, .pointer (some ⟨bx, 0, none⟩), .bool false, .bool true, .int .i64 k, s 16, s 17, undef, undef, undef, undef, undef, undef, undef, undef, undef, undef, undef, .bool true, .int .i64 n, .int .i64 k, s 0, s 1, s 2, s 3, s 4, s 5, s 6, s 7, s 8, s 9, s 10, s 11, s 12, s 13, s 14, s 15, undef, undef, undef, undef, undef, undef, undef, undef, undef, undef, undef, undef, undef, undef, undef, undef, undef, undef, undef, undef, undef, undef, undef, undef, undef, undef, undef, undef, undef, undef, undef, undef, undef, undef, undef, undef, undef, undef, undef, undef, undef, undef, undef, undef, undef, undef, undef, undef, undef, undef, undef, undef, undef, undef, undef, undef, undef, undef, undef, undef, undef, undef, undef, undef, undef, undef, undef]
def InA (n k q0 q1 q2 q3 q4 q5 q6 q7 : Int) (rl : List UInt8) (bx : Nat) (W0 : World) (listed : Array Bool) (a : Act) (w : World) : Prop :=
  ∃ (s : Nat → Value), listed.size = 18 ∧ a = { tmps := FrA n k q0 q1 q2 q3 q4 q5 q6 q7 rl bx s, defers := [] } ∧
    (listed.getD 0 false = true → s 0 = .pointer (some ⟨bx, 0, none⟩)) ∧
    (listed.getD 1 false = true → s 1 = .int .i64 q0) ∧
    (listed.getD 2 false = true → s 2 = .pointer (some ⟨bx, 1, none⟩)) ∧
    (listed.getD 3 false = true → s 3 = .int .i64 q1) ∧
    (listed.getD 4 false = true → s 4 = .pointer (some ⟨bx, 2, none⟩)) ∧
    (listed.getD 5 false = true → s 5 = .int .i64 q2) ∧
    (listed.getD 6 false = true → s 6 = .agg #[.int .i64 q0, .int .i64 q1, .int .i64 q2]) ∧
    (listed.getD 7 false = true → s 7 = .string ⟨(layW q0 q1 q2 false).toArray⟩) ∧
    (listed.getD 8 false = true → s 8 = .pointer (some ⟨bx, 3, none⟩)) ∧
    (listed.getD 9 false = true → s 9 = .int .i64 q3) ∧
    (listed.getD 10 false = true → s 10 = .pointer (some ⟨bx, 4, none⟩)) ∧
    (listed.getD 11 false = true → s 11 = .int .i64 q4) ∧
    (listed.getD 12 false = true → s 12 = .pointer (some ⟨bx, 5, none⟩)) ∧
    (listed.getD 13 false = true → s 13 = .int .i64 q5) ∧
    (listed.getD 14 false = true → s 14 = .agg #[.int .i64 q3, .int .i64 q4, .int .i64 q5]) ∧
    (listed.getD 15 false = true → s 15 = .string ⟨(layW q3 q4 q5 true).toArray⟩) ∧
    (listed.getD 16 false = true → s 16 = .string ⟨(layW q0 q1 q2 false).toArray⟩) ∧
    (listed.getD 17 false = true → s 17 = .string ⟨(layW q3 q4 q5 true).toArray⟩) ∧
    w.heap[bx]? = some (.cells #[.int .i64 q0, .int .i64 q1, .int .i64 q2, .int .i64 q3, .int .i64 q4, .int .i64 q5, .int .i64 q6, .int .i64 q7] 47 (0, 0)) ∧ Below W0.heap.size W0 w
def FrB (n k q0 q1 q2 q3 q4 q5 q6 q7 : Int) (ok : Bool) (rl S : List UInt8) (bx bb P G : Nat) (C : Array Value) (fr : Nat × Nat) (u22 u23 u24 u25 u26 u27 u28 u29 u30 u31 u32 u33 u34 u35 u36 u37 u38 u39 u40 u52 u53 u54 u55 u56 u57 u58 u59 u60 u61 u62 u63 u64 u68 u69 u70 u71 u72 u73 u74 u75 u76 u77 u78 u82 u83 u84 u85 u86 u87 u88 u89 u90 u91 u92 u93 u94 u95 u96 u97 u98 u99 u100 u101 u102 u103 u104 u105 u106 u107 : Value) (s : Nat → Value) : Array Value := #[.int .i64 n, .string ⟨rl.toArray⟩, .agg #[.int .i64 q0, .int .i64 q1, .int .i64 q2, .int .i64 q3, .int .i64 q4, .int .i64 q5, .int .i64 q6, .int .i64 q7], undef, undef, .pointer (some ⟨bx, 0, none⟩), .bool false, .bool true, .int .i64 k, .string ⟨(layW q0 q1 q2 false).toArray⟩, .string ⟨(layW q3 q4 q5 true).toArray⟩, .string ⟨S.toArray⟩, .bool ok, .slice (some ⟨bb, 0, none⟩) S.length G, undef, undef, undef, undef, undef, undef, undef, undef, u22, u23, u24, u25, u26, u27, u28, u29, u30, u31, u32, u33, u34, u35, u36, u37, u38, u39, u40, .tuple #[.string ⟨S.toArray⟩, .bool ok], .string ⟨(layW q0 q1 q2 false).toArray⟩, .int .i64 k, .tuple #[.string ⟨S.toArray⟩, .bool ok], .string ⟨S.toArray⟩, .bool ok, .string ⟨S.toArray⟩, .slice (some ⟨bb, 0, none⟩) S.length G, .slice (some ⟨bb, 0, none⟩) S.length G, .int .i64 (S.length : Int), .bool (decide (0 < S.length)), s 0, s 1, s 2, s 3, s 4, s 5, s 6, s 7, s 8, s 9, u62, u63, u64, undef, undef, undef, u68, u69, u70, u71, u72, u73, u74, u75, u76, u77, u78, undef, undef, undef, u82, u83, u84, u85, u86, u87, u88, u89, u90, u91, u92, u93, u94, u95, u96, u97, u98, u99, u100, u101, u102, u103, u104, u105, u106, u107]
def InB (n k q0 q1 q2 q3 q4 q5 q6 q7 : Int) (ok : Bool) (rl S : List UInt8) (bx bb P G : Nat) (C : Array Value) (fr : Nat × Nat) (u22 u23 u24 u25 u26 u27 u28 u29 u30 u31 u32 u33 u34 u35 u36 u37 u38 u39 u40 u52 u53 u54 u55 u56 u57 u58 u59 u60 u61 u62 u63 u64 u68 u69 u70 u71 u72 u73 u74 u75 u76 u77 u78 u82 u83 u84 u85 u86 u87 u88 u89 u90 u91 u92 u93 u94 u95 u96 u97 u98 u99 u100 u101 u102 u103 u104 u105 u106 u107 : Value) (W0 : World) (listed : Array Bool) (a : Act) (w : World) : Prop :=
  ∃ (s : Nat → Value), listed.size = 11 ∧ a = { tmps := FrB n k q0 q1 q2 q3 q4 q5 q6 q7 ok rl S bx bb P G C (C.size, C.size + 1) u22 u23 u24 u25 u26 u27 u28 u29 u30 u31 u32 u33 u34 u35 u36 u37 u38 u39 u40 u52 u53 u54 u55 u56 u57 u58 u59 u60 u61 u62 u63 u64 u68 u69 u70 u71 u72 u73 u74 u75 u76 u77 u78 u82 u83 u84 u85 u86 u87 u88 u89 u90 u91 u92 u93 u94 u95 u96 u97 u98 u99 u100 u101 u102 u103 u104 u105 u106 u107 s, defers := [] } ∧
    (listed.getD 0 false = true → s 0 = .slice (some ⟨bb, 0, none⟩) S.length G) ∧
    (listed.getD 1 false = true → s 1 = .pointer (some ⟨bx, 6, none⟩)) ∧
    (listed.getD 2 false = true → s 2 = .int .i64 q6) ∧
    (listed.getD 3 false = true → s 3 = .slice (some ⟨bb, 0, none⟩) S.length G) ∧
    (listed.getD 4 false = true → s 4 = .int .i64 (S.length : Int)) ∧
    (listed.getD 5 false = true → s 5 = .int .i64 (P : Int)) ∧
    (listed.getD 6 false = true → s 6 = .pointer (some ⟨bx, 7, none⟩)) ∧
    (listed.getD 7 false = true → s 7 = .int .i64 q7) ∧
    (listed.getD 8 false = true → s 8 = .int .u8 (IntKind.u8.wrap q7)) ∧
    (listed.getD 9 false = true → s 9 = .pointer (some ⟨bb, P, none⟩)) ∧
    w.heap[bx]? = some (.cells #[.int .i64 q0, .int .i64 q1, .int .i64 q2, .int .i64 q3, .int .i64 q4, .int .i64 q5, .int .i64 q6, .int .i64 q7] 47 (0, 0)) ∧
    (listed.getD 10 false = false → w.heap[bb]? = some (.cells C 5 fr)) ∧
    (listed.getD 10 false = true → w.heap[bb]? = some (.cells (C.setIfInBounds P (.int .u8 (IntKind.u8.wrap q7))) 5 fr)) ∧ Below bb W0 w

set_option maxHeartbeats 8000000 in
set_option maxRecDepth 100000 in
theorem walk (n : Int) (raw : ByteArray) (q0 q1 q2 q3 q4 q5 q6 q7 : Int) (hr : raw.size ≤ maxLen) (hv : ∀ x ∈ [q0, q1, q2, q3, q4, q5, q6, q7], (Lit.int .i64 x).wf = true) (w : World) :
    Calls Try.prog 9 #[.int .i64 n, .string raw, .agg #[.int .i64 q0, .int .i64 q1, .int .i64 q2, .int .i64 q3, .int .i64 q4, .int .i64 q5, .int .i64 q6, .int .i64 q7]] w (Gives w (.bool true)) := by
  obtain ⟨rl, rfl⟩ : ∃ rl : List UInt8, raw = ⟨rl.toArray⟩ := ⟨raw.data.toList, by simp⟩
  have HRL : Hid (rl.length ≤ maxLen) := Lib.hid hr
  obtain ⟨k0, k1⟩ := bounds_i64 (hv q0 (by simp))
  obtain ⟨k2, k3⟩ := bounds_i64 (hv q1 (by simp))
  obtain ⟨k4, k5⟩ := bounds_i64 (hv q2 (by simp))
  obtain ⟨k6, k7⟩ := bounds_i64 (hv q3 (by simp))
  obtain ⟨k8, k9⟩ := bounds_i64 (hv q4 (by simp))
  obtain ⟨k10, k11⟩ := bounds_i64 (hv q5 (by simp))
  obtain ⟨k12, k13⟩ := bounds_i64 (hv q6 (by simp))
  obtain ⟨k, hk⟩ : ∃ k, k = bits .and .i64 n 2097151 := ⟨_, rfl⟩
  have HK := Lib.hid hk
  clear hk hr hv
  go_enter Try.func9, Try.ntmps9
  go_wp2_with fail
  refine (sanity_any _).mono ?_
  rintro e W0 ⟨rfl, hb1⟩
  have hq1 : W0.heap[w.heap.size]? = some (.cells #[.int .i64 q0, .int .i64 q1, .int .i64 q2, .int .i64 q3, .int .i64 q4, .int .i64 q5, .int .i64 q6, .int .i64 q7] 47 (0, 0)) := by
    rw [hb1.block _ (by simp)]; exact heap_alloc_new w _
  have HB1 := Lib.hid (((Below.refl w.heap.size w).alloc (Nat.le_refl _) _).trans (hb1.mono (by simp)))
  obtain ⟨bx, hbx⟩ : ∃ bx, bx = w.heap.size := ⟨_, rfl⟩
  rw [← hbx] at hq1 ⊢
  have HQ1 := Lib.hid hq1
  have HWX := Lib.hid (Nat.le_of_eq hbx.symm)
  clear hb1 hq1 hbx
  go_wp2_with fail
  rw [← HK.out]
  go_cut [9, 10] (fun v9 v10 wx => v9 = .string ⟨(layW q0 q1 q2 false).toArray⟩ ∧ v10 = .string ⟨(layW q3 q4 q5 true).toArray⟩ ∧ wx.heap[bx]? = some (.cells #[.int .i64 q0, .int .i64 q1, .int .i64 q2, .int .i64 q3, .int .i64 q4, .int .i64 q5, .int .i64 q6, .int .i64 q7] 47 (0, 0)) ∧ Below W0.heap.size W0 wx)
  case first =>
    refine wp_region_inv (InA n k q0 q1 q2 q3 q4 q5 q6 q7 rl bx W0) (by kernel_rfl) ?h0 ?hstep ?hdone
    case h0 => exact ⟨fun _ => undef, rfl, rfl, (fun h => absurd h (by simp)), (fun h => absurd h (by simp)), (fun h => absurd h (by simp)), (fun h => absurd h (by simp)), (fun h => absurd h (by simp)), (fun h => absurd h (by simp)), (fun h => absurd h (by simp)), (fun h => absurd h (by simp)), (fun h => absurd h (by simp)), (fun h => absurd h (by simp)), (fun h => absurd h (by simp)), (fun h => absurd h (by simp)), (fun h => absurd h (by simp)), (fun h => absurd h (by simp)), (fun h => absurd h (by simp)), (fun h => absurd h (by simp)), (fun h => absurd h (by simp)), (fun h => absurd h (by simp)), HQ1.out, (Below.refl _ _).drew⟩
    case hstep =>
      rintro listed a w ⟨s, hsz, rfl, c0, c1, c2, c3, c4, c5, c6, c7, c8, c9, c10, c11, c12, c13, c14, c15, c16, c17, f0, cbl⟩ i o ho hun hall
      have hun' : listed.getD i false = false := getD_none hun
      have hi : i < 18 := (Array.getElem?_eq_some_iff.1 ho).1
      have hii : i = 0 ∨ i = 1 ∨ i = 2 ∨ i = 3 ∨ i = 4 ∨ i = 5 ∨ i = 6 ∨ i = 7 ∨ i = 8 ∨ i = 9 ∨ i = 10 ∨ i = 11 ∨ i = 12 ∨ i = 13 ∨ i = 14 ∨ i = 15 ∨ i = 16 ∨ i = 17 := by omega
      rcases hii with rfl | rfl | rfl | rfl | rfl | rfl | rfl | rfl | rfl | rfl | rfl | rfl | rfl | rfl | rfl | rfl | rfl | rfl
      · simp at ho
        subst ho
        refine wpOp_step rfl (fun K' hK => ?_)
        simp only [FrA]
        go_simp
        refine hK _ _ ⟨fun j => if j = 0 then .pointer (some ⟨bx, 0, none⟩) else s j, by simpa using hsz, by simp [FrA], fun _ => by simp, fun h => by rw [getD_set_ne false (by decide)] at h; simpa using c1 h, fun h => by rw [getD_set_ne false (by decide)] at h; simpa using c2 h, fun h => by rw [getD_set_ne false (by decide)] at h; simpa using c3 h, fun h => by rw [getD_set_ne false (by decide)] at h; simpa using c4 h, fun h => by rw [getD_set_ne false (by decide)] at h; simpa using c5 h, fun h => by rw [getD_set_ne false (by decide)] at h; simpa using c6 h, fun h => by rw [getD_set_ne false (by decide)] at h; simpa using c7 h, fun h => by rw [getD_set_ne false (by decide)] at h; simpa using c8 h, fun h => by rw [getD_set_ne false (by decide)] at h; simpa using c9 h, fun h => by rw [getD_set_ne false (by decide)] at h; simpa using c10 h, fun h => by rw [getD_set_ne false (by decide)] at h; simpa using c11 h, fun h => by rw [getD_set_ne false (by decide)] at h; simpa using c12 h, fun h => by rw [getD_set_ne false (by decide)] at h; simpa using c13 h, fun h => by rw [getD_set_ne false (by decide)] at h; simpa using c14 h, fun h => by rw [getD_set_ne false (by decide)] at h; simpa using c15 h, fun h => by rw [getD_set_ne false (by decide)] at h; simpa using c16 h, fun h => by rw [getD_set_ne false (by decide)] at h; simpa using c17 h, f0, cbl⟩
      · simp at ho
        subst ho
        have u0 : listed.getD 0 false = true := hall ⟨0, .data⟩ (by simp) rfl
        have e0 := c0 u0
        have x0 : w.cell? ⟨bx, 0, none⟩ = some (.int .i64 q0) := by rw [Lib.cell_of_heap f0]; rfl
        refine wpOp_step rfl (fun K' hK => ?_)
        simp only [FrA]
        go_simp
        refine hK _ _ ⟨fun j => if j = 1 then .int .i64 q0 else s j, by simpa using hsz, by simp [FrA, e0], fun h => by rw [getD_set_ne false (by decide)] at h; simpa using c0 h, fun _ => by simp, fun h => by rw [getD_set_ne false (by decide)] at h; simpa using c2 h, fun h => by rw [getD_set_ne false (by decide)] at h; simpa using c3 h, fun h => by rw [getD_set_ne false (by decide)] at h; simpa using c4 h, fun h => by rw [getD_set_ne false (by decide)] at h; simpa using c5 h, fun h => by rw [getD_set_ne false (by decide)] at h; simpa using c6 h, fun h => by rw [getD_set_ne false (by decide)] at h; simpa using c7 h, fun h => by rw [getD_set_ne false (by decide)] at h; simpa using c8 h, fun h => by rw [getD_set_ne false (by decide)] at h; simpa using c9 h, fun h => by rw [getD_set_ne false (by decide)] at h; simpa using c10 h, fun h => by rw [getD_set_ne false (by decide)] at h; simpa using c11 h, fun h => by rw [getD_set_ne false (by decide)] at h; simpa using c12 h, fun h => by rw [getD_set_ne false (by decide)] at h; simpa using c13 h, fun h => by rw [getD_set_ne false (by decide)] at h; simpa using c14 h, fun h => by rw [getD_set_ne false (by decide)] at h; simpa using c15 h, fun h => by rw [getD_set_ne false (by decide)] at h; simpa using c16 h, fun h => by rw [getD_set_ne false (by decide)] at h; simpa using c17 h, f0, cbl⟩
      · simp at ho
        subst ho
        refine wpOp_step rfl (fun K' hK => ?_)
        simp only [FrA]
        go_simp
        refine hK _ _ ⟨fun j => if j = 2 then .pointer (some ⟨bx, 1, none⟩) else s j, by simpa using hsz, by simp [FrA], fun h => by rw [getD_set_ne false (by decide)] at h; simpa using c0 h, fun h => by rw [getD_set_ne false (by decide)] at h; simpa using c1 h, fun _ => by simp, fun h => by rw [getD_set_ne false (by decide)] at h; simpa using c3 h, fun h => by rw [getD_set_ne false (by decide)] at h; simpa using c4 h, fun h => by rw [getD_set_ne false (by decide)] at h; simpa using c5 h, fun h => by rw [getD_set_ne false (by decide)] at h; simpa using c6 h, fun h => by rw [getD_set_ne false (by decide)] at h; simpa using c7 h, fun h => by rw [getD_set_ne false (by decide)] at h; simpa using c8 h, fun h => by rw [getD_set_ne false (by decide)] at h; simpa using c9 h, fun h => by rw [getD_set_ne false (by decide)] at h; simpa using c10 h, fun h => by rw [getD_set_ne false (by decide)] at h; simpa using c11 h, fun h => by rw [getD_set_ne false (by decide)] at h; simpa using c12 h, fun h => by rw [getD_set_ne false (by decide)] at h; simpa using c13 h, fun h => by rw [getD_set_ne false (by decide)] at h; simpa using c14 h, fun h => by rw [getD_set_ne false (by decide)] at h; simpa using c15 h, fun h => by rw [getD_set_ne false (by decide)] at h; simpa using c16 h, fun h => by rw [getD_set_ne false (by decide)] at h; simpa using c17 h, f0, cbl⟩
      · simp at ho
        subst ho
        have u2 : listed.getD 2 false = true := hall ⟨2, .data⟩ (by simp) rfl
        have e2 := c2 u2
        have x0 : w.cell? ⟨bx, 1, none⟩ = some (.int .i64 q1) := by rw [Lib.cell_of_heap f0]; rfl
        refine wpOp_step rfl (fun K' hK => ?_)
        simp only [FrA]
        go_simp
        refine hK _ _ ⟨fun j => if j = 3 then .int .i64 q1 else s j, by simpa using hsz, by simp [FrA, e2], fun h => by rw [getD_set_ne false (by decide)] at h; simpa using c0 h, fun h => by rw [getD_set_ne false (by decide)] at h; simpa using c1 h, fun h => by rw [getD_set_ne false (by decide)] at h; simpa using c2 h, fun _ => by simp, fun h => by rw [getD_set_ne false (by decide)] at h; simpa using c4 h, fun h => by rw [getD_set_ne false (by decide)] at h; simpa using c5 h, fun h => by rw [getD_set_ne false (by decide)] at h; simpa using c6 h, fun h => by rw [getD_set_ne false (by decide)] at h; simpa using c7 h, fun h => by rw [getD_set_ne false (by decide)] at h; simpa using c8 h, fun h => by rw [getD_set_ne false (by decide)] at h; simpa using c9 h, fun h => by rw [getD_set_ne false (by decide)] at h; simpa using c10 h, fun h => by rw [getD_set_ne false (by decide)] at h; simpa using c11 h, fun h => by rw [getD_set_ne false (by decide)] at h; simpa using c12 h, fun h => by rw [getD_set_ne false (by decide)] at h; simpa using c13 h, fun h => by rw [getD_set_ne false (by decide)] at h; simpa using c14 h, fun h => by rw [getD_set_ne false (by decide)] at h; simpa using c15 h, fun h => by rw [getD_set_ne false (by decide)] at h; simpa using c16 h, fun h => by rw [getD_set_ne false (by decide)] at h; simpa using c17 h, f0, cbl⟩
      · simp at ho
        subst ho
        refine wpOp_step rfl (fun K' hK => ?_)
        simp only [FrA]
        go_simp
        refine hK _ _ ⟨fun j => if j = 4 then .pointer (some ⟨bx, 2, none⟩) else s j, by simpa using hsz, by simp [FrA], fun h => by rw [getD_set_ne false (by decide)] at h; simpa using c0 h, fun h => by rw [getD_set_ne false (by decide)] at h; simpa using c1 h, fun h => by rw [getD_set_ne false (by decide)] at h; simpa using c2 h, fun h => by rw [getD_set_ne false (by decide)] at h; simpa using c3 h, fun _ => by simp, fun h => by rw [getD_set_ne false (by decide)] at h; simpa using c5 h, fun h => by rw [getD_set_ne false (by decide)] at h; simpa using c6 h, fun h => by rw [getD_set_ne false (by decide)] at h; simpa using c7 h, fun h => by rw [getD_set_ne false (by decide)] at h; simpa using c8 h, fun h => by rw [getD_set_ne false (by decide)] at h; simpa using c9 h, fun h => by rw [getD_set_ne false (by decide)] at h; simpa using c10 h, fun h => by rw [getD_set_ne false (by decide)] at h; simpa using c11 h, fun h => by rw [getD_set_ne false (by decide)] at h; simpa using c12 h, fun h => by rw [getD_set_ne false (by decide)] at h; simpa using c13 h, fun h => by rw [getD_set_ne false (by decide)] at h; simpa using c14 h, fun h => by rw [getD_set_ne false (by decide)] at h; simpa using c15 h, fun h => by rw [getD_set_ne false (by decide)] at h; simpa using c16 h, fun h => by rw [getD_set_ne false (by decide)] at h; simpa using c17 h, f0, cbl⟩
      · simp at ho
        subst ho
        have u4 : listed.getD 4 false = true := hall ⟨4, .data⟩ (by simp) rfl
        have e4 := c4 u4
        have x0 : w.cell? ⟨bx, 2, none⟩ = some (.int .i64 q2) := by rw [Lib.cell_of_heap f0]; rfl
        refine wpOp_step rfl (fun K' hK => ?_)
        simp only [FrA]
        go_simp
        refine hK _ _ ⟨fun j => if j = 5 then .int .i64 q2 else s j, by simpa using hsz, by simp [FrA, e4], fun h => by rw [getD_set_ne false (by decide)] at h; simpa using c0 h, fun h => by rw [getD_set_ne false (by decide)] at h; simpa using c1 h, fun h => by rw [getD_set_ne false (by decide)] at h; simpa using c2 h, fun h => by rw [getD_set_ne false (by decide)] at h; simpa using c3 h, fun h => by rw [getD_set_ne false (by decide)] at h; simpa using c4 h, fun _ => by simp, fun h => by rw [getD_set_ne false (by decide)] at h; simpa using c6 h, fun h => by rw [getD_set_ne false (by decide)] at h; simpa using c7 h, fun h => by rw [getD_set_ne false (by decide)] at h; simpa using c8 h, fun h => by rw [getD_set_ne false (by decide)] at h; simpa using c9 h, fun h => by rw [getD_set_ne false (by decide)] at h; simpa using c10 h, fun h => by rw [getD_set_ne false (by decide)] at h; simpa using c11 h, fun h => by rw [getD_set_ne false (by decide)] at h; simpa using c12 h, fun h => by rw [getD_set_ne false (by decide)] at h; simpa using c13 h, fun h => by rw [getD_set_ne false (by decide)] at h; simpa using c14 h, fun h => by rw [getD_set_ne false (by decide)] at h; simpa using c15 h, fun h => by rw [getD_set_ne false (by decide)] at h; simpa using c16 h, fun h => by rw [getD_set_ne false (by decide)] at h; simpa using c17 h, f0, cbl⟩
      · simp at ho
        subst ho
        have u1 : listed.getD 1 false = true := hall ⟨1, .data⟩ (by simp) rfl
        have e1 := c1 u1
        have u3 : listed.getD 3 false = true := hall ⟨3, .data⟩ (by simp) rfl
        have e3 := c3 u3
        have u5 : listed.getD 5 false = true := hall ⟨5, .data⟩ (by simp) rfl
        have e5 := c5 u5
        refine wpOp_step rfl (fun K' hK => ?_)
        simp only [FrA]
        go_simp
        refine hK _ _ ⟨fun j => if j = 6 then .agg #[.int .i64 q0, .int .i64 q1, .int .i64 q2] else s j, by simpa using hsz, by simp [FrA, e1, e3, e5], fun h => by rw [getD_set_ne false (by decide)] at h; simpa using c0 h, fun h => by rw [getD_set_ne false (by decide)] at h; simpa using c1 h, fun h => by rw [getD_set_ne false (by decide)] at h; simpa using c2 h, fun h => by rw [getD_set_ne false (by decide)] at h; simpa using c3 h, fun h => by rw [getD_set_ne false (by decide)] at h; simpa using c4 h, fun h => by rw [getD_set_ne false (by decide)] at h; simpa using c5 h, fun _ => by simp, fun h => by rw [getD_set_ne false (by decide)] at h; simpa using c7 h, fun h => by rw [getD_set_ne false (by decide)] at h; simpa using c8 h, fun h => by rw [getD_set_ne false (by decide)] at h; simpa using c9 h, fun h => by rw [getD_set_ne false (by decide)] at h; simpa using c10 h, fun h => by rw [getD_set_ne false (by decide)] at h; simpa using c11 h, fun h => by rw [getD_set_ne false (by decide)] at h; simpa using c12 h, fun h => by rw [getD_set_ne false (by decide)] at h; simpa using c13 h, fun h => by rw [getD_set_ne false (by decide)] at h; simpa using c14 h, fun h => by rw [getD_set_ne false (by decide)] at h; simpa using c15 h, fun h => by rw [getD_set_ne false (by decide)] at h; simpa using c16 h, fun h => by rw [getD_set_ne false (by decide)] at h; simpa using c17 h, f0, cbl⟩
      · simp at ho
        subst ho
        have u6 : listed.getD 6 false = true := hall ⟨6, .data⟩ (by simp) rfl
        have e6 := c6 u6
        refine wpOp_step rfl (fun K' hK => ?_)
        simp only [FrA]
        go_simp
        refine (Layout_any q0 q1 q2 false _ k0 k1 k2 k3 k4 k5).mono ?_
        rintro e w' ⟨rfl, hb⟩
        refine hK _ _ ⟨fun j => if j = 7 then .string ⟨(layW q0 q1 q2 false).toArray⟩ else s j, by simpa using hsz, by simp [FrA, e6], fun h => by rw [getD_set_ne false (by decide)] at h; simpa using c0 h, fun h => by rw [getD_set_ne false (by decide)] at h; simpa using c1 h, fun h => by rw [getD_set_ne false (by decide)] at h; simpa using c2 h, fun h => by rw [getD_set_ne false (by decide)] at h; simpa using c3 h, fun h => by rw [getD_set_ne false (by decide)] at h; simpa using c4 h, fun h => by rw [getD_set_ne false (by decide)] at h; simpa using c5 h, fun h => by rw [getD_set_ne false (by decide)] at h; simpa using c6 h, fun _ => by simp, fun h => by rw [getD_set_ne false (by decide)] at h; simpa using c8 h, fun h => by rw [getD_set_ne false (by decide)] at h; simpa using c9 h, fun h => by rw [getD_set_ne false (by decide)] at h; simpa using c10 h, fun h => by rw [getD_set_ne false (by decide)] at h; simpa using c11 h, fun h => by rw [getD_set_ne false (by decide)] at h; simpa using c12 h, fun h => by rw [getD_set_ne false (by decide)] at h; simpa using c13 h, fun h => by rw [getD_set_ne false (by decide)] at h; simpa using c14 h, fun h => by rw [getD_set_ne false (by decide)] at h; simpa using c15 h, fun h => by rw [getD_set_ne false (by decide)] at h; simpa using c16 h, fun h => by rw [getD_set_ne false (by decide)] at h; simpa using c17 h, (hb.block _ (Array.getElem?_eq_some_iff.1 (f0)).1).trans (f0), cbl.trans (hb.mono cbl.size)⟩
      · simp at ho
        subst ho
        refine wpOp_step rfl (fun K' hK => ?_)
        simp only [FrA]
        go_simp
        refine hK _ _ ⟨fun j => if j = 8 then .pointer (some ⟨bx, 3, none⟩) else s j, by simpa using hsz, by simp [FrA], fun h => by rw [getD_set_ne false (by decide)] at h; simpa using c0 h, fun h => by rw [getD_set_ne false (by decide)] at h; simpa using c1 h, fun h => by rw [getD_set_ne false (by decide)] at h; simpa using c2 h, fun h => by rw [getD_set_ne false (by decide)] at h; simpa using c3 h, fun h => by rw [getD_set_ne false (by decide)] at h; simpa using c4 h, fun h => by rw [getD_set_ne false (by decide)] at h; simpa using c5 h, fun h => by rw [getD_set_ne false (by decide)] at h; simpa using c6 h, fun h => by rw [getD_set_ne false (by decide)] at h; simpa using c7 h, fun _ => by simp, fun h => by rw [getD_set_ne false (by decide)] at h; simpa using c9 h, fun h => by rw [getD_set_ne false (by decide)] at h; simpa using c10 h, fun h => by rw [getD_set_ne false (by decide)] at h; simpa using c11 h, fun h => by rw [getD_set_ne false (by decide)] at h; simpa using c12 h, fun h => by rw [getD_set_ne false (by decide)] at h; simpa using c13 h, fun h => by rw [getD_set_ne false (by decide)] at h; simpa using c14 h, fun h => by rw [getD_set_ne false (by decide)] at h; simpa using c15 h, fun h => by rw [getD_set_ne false (by decide)] at h; simpa using c16 h, fun h => by rw [getD_set_ne false (by decide)] at h; simpa using c17 h, f0, cbl⟩
      · simp at ho
        subst ho
        have u8 : listed.getD 8 false = true := hall ⟨8, .data⟩ (by simp) rfl
        have e8 := c8 u8
        have x0 : w.cell? ⟨bx, 3, none⟩ = some (.int .i64 q3) := by rw [Lib.cell_of_heap f0]; rfl
        refine wpOp_step rfl (fun K' hK => ?_)
        simp only [FrA]
        go_simp
        refine hK _ _ ⟨fun j => if j = 9 then .int .i64 q3 else s j, by simpa using hsz, by simp [FrA, e8], fun h => by rw [getD_set_ne false (by decide)] at h; simpa using c0 h, fun h => by rw [getD_set_ne false (by decide)] at h; simpa using c1 h, fun h => by rw [getD_set_ne false (by decide)] at h; simpa using c2 h, fun h => by rw [getD_set_ne false (by decide)] at h; simpa using c3 h, fun h => by rw [getD_set_ne false (by decide)] at h; simpa using c4 h, fun h => by rw [getD_set_ne false (by decide)] at h; simpa using c5 h, fun h => by rw [getD_set_ne false (by decide)] at h; simpa using c6 h, fun h => by rw [getD_set_ne false (by decide)] at h; simpa using c7 h, fun h => by rw [getD_set_ne false (by decide)] at h; simpa using c8 h, fun _ => by simp, fun h => by rw [getD_set_ne false (by decide)] at h; simpa using c10 h, fun h => by rw [getD_set_ne false (by decide)] at h; simpa using c11 h, fun h => by rw [getD_set_ne false (by decide)] at h; simpa using c12 h, fun h => by rw [getD_set_ne false (by decide)] at h; simpa using c13 h, fun h => by rw [getD_set_ne false (by decide)] at h; simpa using c14 h, fun h => by rw [getD_set_ne false (by decide)] at h; simpa using c15 h, fun h => by rw [getD_set_ne false (by decide)] at h; simpa using c16 h, fun h => by rw [getD_set_ne false (by decide)] at h; simpa using c17 h, f0, cbl⟩
      · simp at ho
        subst ho
        refine wpOp_step rfl (fun K' hK => ?_)
        simp only [FrA]
        go_simp
        refine hK _ _ ⟨fun j => if j = 10 then .pointer (some ⟨bx, 4, none⟩) else s j, by simpa using hsz, by simp [FrA], fun h => by rw [getD_set_ne false (by decide)] at h; simpa using c0 h, fun h => by rw [getD_set_ne false (by decide)] at h; simpa using c1 h, fun h => by rw [getD_set_ne false (by decide)] at h; simpa using c2 h, fun h => by rw [getD_set_ne false (by decide)] at h; simpa using c3 h, fun h => by rw [getD_set_ne false (by decide)] at h; simpa using c4 h, fun h => by rw [getD_set_ne false (by decide)] at h; simpa using c5 h, fun h => by rw [getD_set_ne false (by decide)] at h; simpa using c6 h, fun h => by rw [getD_set_ne false (by decide)] at h; simpa using c7 h, fun h => by rw [getD_set_ne false (by decide)] at h; simpa using c8 h, fun h => by rw [getD_set_ne false (by decide)] at h; simpa using c9 h, fun _ => by simp, fun h => by rw [getD_set_ne false (by decide)] at h; simpa using c11 h, fun h => by rw [getD_set_ne false (by decide)] at h; simpa using c12 h, fun h => by rw [getD_set_ne false (by decide)] at h; simpa using c13 h, fun h => by rw [getD_set_ne false (by decide)] at h; simpa using c14 h, fun h => by rw [getD_set_ne false (by decide)] at h; simpa using c15 h, fun h => by rw [getD_set_ne false (by decide)] at h; simpa using c16 h, fun h => by rw [getD_set_ne false (by decide)] at h; simpa using c17 h, f0, cbl⟩
      · simp at ho
        subst ho
        have u10 : listed.getD 10 false = true := hall ⟨10, .data⟩ (by simp) rfl
        have e10 := c10 u10
        have x0 : w.cell? ⟨bx, 4, none⟩ = some (.int .i64 q4) := by rw [Lib.cell_of_heap f0]; rfl
        refine wpOp_step rfl (fun K' hK => ?_)
        simp only [FrA]
        go_simp
        refine hK _ _ ⟨fun j => if j = 11 then .int .i64 q4 else s j, by simpa using hsz, by simp [FrA, e10], fun h => by rw [getD_set_ne false (by decide)] at h; simpa using c0 h, fun h => by rw [getD_set_ne false (by decide)] at h; simpa using c1 h, fun h => by rw [getD_set_ne false (by decide)] at h; simpa using c2 h, fun h => by rw [getD_set_ne false (by decide)] at h; simpa using c3 h, fun h => by rw [getD_set_ne false (by decide)] at h; simpa using c4 h, fun h => by rw [getD_set_ne false (by decide)] at h; simpa using c5 h, fun h => by rw [getD_set_ne false (by decide)] at h; simpa using c6 h, fun h => by rw [getD_set_ne false (by decide)] at h; simpa using c7 h, fun h => by rw [getD_set_ne false (by decide)] at h; simpa using c8 h, fun h => by rw [getD_set_ne false (by decide)] at h; simpa using c9 h, fun h => by rw [getD_set_ne false (by decide)] at h; simpa using c10 h, fun _ => by simp, fun h => by rw [getD_set_ne false (by decide)] at h; simpa using c12 h, fun h => by rw [getD_set_ne false (by decide)] at h; simpa using c13 h, fun h => by rw [getD_set_ne false (by decide)] at h; simpa using c14 h, fun h => by rw [getD_set_ne false (by decide)] at h; simpa using c15 h, fun h => by rw [getD_set_ne false (by decide)] at h; simpa using c16 h, fun h => by rw [getD_set_ne false (by decide)] at h; simpa using c17 h, f0, cbl⟩
      · simp at ho
        subst ho
        refine wpOp_step rfl (fun K' hK => ?_)
        simp only [FrA]
        go_simp
        refine hK _ _ ⟨fun j => if j = 12 then .pointer (some ⟨bx, 5, none⟩) else s j, by simpa using hsz, by simp [FrA], fun h => by rw [getD_set_ne false (by decide)] at h; simpa using c0 h, fun h => by rw [getD_set_ne false (by decide)] at h; simpa using c1 h, fun h => by rw [getD_set_ne false (by decide)] at h; simpa using c2 h, fun h => by rw [getD_set_ne false (by decide)] at h; simpa using c3 h, fun h => by rw [getD_set_ne false (by decide)] at h; simpa using c4 h, fun h => by rw [getD_set_ne false (by decide)] at h; simpa using c5 h, fun h => by rw [getD_set_ne false (by decide)] at h; simpa using c6 h, fun h => by rw [getD_set_ne false (by decide)] at h; simpa using c7 h, fun h => by rw [getD_set_ne false (by decide)] at h; simpa using c8 h, fun h => by rw [getD_set_ne false (by decide)] at h; simpa using c9 h, fun h => by rw [getD_set_ne false (by decide)] at h; simpa using c10 h, fun h => by rw [getD_set_ne false (by decide)] at h; simpa using c11 h, fun _ => by simp, fun h => by rw [getD_set_ne false (by decide)] at h; simpa using c13 h, fun h => by rw [getD_set_ne false (by decide)] at h; simpa using c14 h, fun h => by rw [getD_set_ne false (by decide)] at h; simpa using c15 h, fun h => by rw [getD_set_ne false (by decide)] at h; simpa using c16 h, fun h => by rw [getD_set_ne false (by decide)] at h; simpa using c17 h, f0, cbl⟩
      · simp at ho
        subst ho
        have u12 : listed.getD 12 false = true := hall ⟨12, .data⟩ (by simp) rfl
        have e12 := c12 u12
        have x0 : w.cell? ⟨bx, 5, none⟩ = some (.int .i64 q5) := by rw [Lib.cell_of_heap f0]; rfl
        refine wpOp_step rfl (fun K' hK => ?_)
        simp only [FrA]
        go_simp
        refine hK _ _ ⟨fun j => if j = 13 then .int .i64 q5 else s j, by simpa using hsz, by simp [FrA, e12], fun h => by rw [getD_set_ne false (by decide)] at h; simpa using c0 h, fun h => by rw [getD_set_ne false (by decide)] at h; simpa using c1 h, fun h => by rw [getD_set_ne false (by decide)] at h; simpa using c2 h, fun h => by rw [getD_set_ne false (by decide)] at h; simpa using c3 h, fun h => by rw [getD_set_ne false (by decide)] at h; simpa using c4 h, fun h => by rw [getD_set_ne false (by decide)] at h; simpa using c5 h, fun h => by rw [getD_set_ne false (by decide)] at h; simpa using c6 h, fun h => by rw [getD_set_ne false (by decide)] at h; simpa using c7 h, fun h => by rw [getD_set_ne false (by decide)] at h; simpa using c8 h, fun h => by rw [getD_set_ne false (by decide)] at h; simpa using c9 h, fun h => by rw [getD_set_ne false (by decide)] at h; simpa using c10 h, fun h => by rw [getD_set_ne false (by decide)] at h; simpa using c11 h, fun h => by rw [getD_set_ne false (by decide)] at h; simpa using c12 h, fun _ => by simp, fun h => by rw [getD_set_ne false (by decide)] at h; simpa using c14 h, fun h => by rw [getD_set_ne false (by decide)] at h; simpa using c15 h, fun h => by rw [getD_set_ne false (by decide)] at h; simpa using c16 h, fun h => by rw [getD_set_ne false (by decide)] at h; simpa using c17 h, f0, cbl⟩
      · simp at ho
        subst ho
        have u9 : listed.getD 9 false = true := hall ⟨9, .data⟩ (by simp) rfl
        have e9 := c9 u9
        have u11 : listed.getD 11 false = true := hall ⟨11, .data⟩ (by simp) rfl
        have e11 := c11 u11
        have u13 : listed.getD 13 false = true := hall ⟨13, .data⟩ (by simp) rfl
        have e13 := c13 u13
        refine wpOp_step rfl (fun K' hK => ?_)
        simp only [FrA]
        go_simp
        refine hK _ _ ⟨fun j => if j = 14 then .agg #[.int .i64 q3, .int .i64 q4, .int .i64 q5] else s j, by simpa using hsz, by simp [FrA, e9, e11, e13], fun h => by rw [getD_set_ne false (by decide)] at h; simpa using c0 h, fun h => by rw [getD_set_ne false (by decide)] at h; simpa using c1 h, fun h => by rw [getD_set_ne false (by decide)] at h; simpa using c2 h, fun h => by rw [getD_set_ne false (by decide)] at h; simpa using c3 h, fun h => by rw [getD_set_ne false (by decide)] at h; simpa using c4 h, fun h => by rw [getD_set_ne false (by decide)] at h; simpa using c5 h, fun h => by rw [getD_set_ne false (by decide)] at h; simpa using c6 h, fun h => by rw [getD_set_ne false (by decide)] at h; simpa using c7 h, fun h => by rw [getD_set_ne false (by decide)] at h; simpa using c8 h, fun h => by rw [getD_set_ne false (by decide)] at h; simpa using c9 h, fun h => by rw [getD_set_ne false (by decide)] at h; simpa using c10 h, fun h => by rw [getD_set_ne false (by decide)] at h; simpa using c11 h, fun h => by rw [getD_set_ne false (by decide)] at h; simpa using c12 h, fun h => by rw [getD_set_ne false (by decide)] at h; simpa using c13 h, fun _ => by simp, fun h => by rw [getD_set_ne false (by decide)] at h; simpa using c15 h, fun h => by rw [getD_set_ne false (by decide)] at h; simpa using c16 h, fun h => by rw [getD_set_ne false (by decide)] at h; simpa using c17 h, f0, cbl⟩
      · simp at ho
        subst ho
        have u14 : listed.getD 14 false = true := hall ⟨14, .data⟩ (by simp) rfl
        have e14 := c14 u14
        refine wpOp_step rfl (fun K' hK => ?_)
        simp only [FrA]
        go_simp
        refine (Layout_any q3 q4 q5 true _ k6 k7 k8 k9 k10 k11).mono ?_
        rintro e w' ⟨rfl, hb⟩
        refine hK _ _ ⟨fun j => if j = 15 then .string ⟨(layW q3 q4 q5 true).toArray⟩ else s j, by simpa using hsz, by simp [FrA, e14], fun h => by rw [getD_set_ne false (by decide)] at h; simpa using c0 h, fun h => by rw [getD_set_ne false (by decide)] at h; simpa using c1 h, fun h => by rw [getD_set_ne false (by decide)] at h; simpa using c2 h, fun h => by rw [getD_set_ne false (by decide)] at h; simpa using c3 h, fun h => by rw [getD_set_ne false (by decide)] at h; simpa using c4 h, fun h => by rw [getD_set_ne false (by decide)] at h; simpa using c5 h, fun h => by rw [getD_set_ne false (by decide)] at h; simpa using c6 h, fun h => by rw [getD_set_ne false (by decide)] at h; simpa using c7 h, fun h => by rw [getD_set_ne false (by decide)] at h; simpa using c8 h, fun h => by rw [getD_set_ne false (by decide)] at h; simpa using c9 h, fun h => by rw [getD_set_ne false (by decide)] at h; simpa using c10 h, fun h => by rw [getD_set_ne false (by decide)] at h; simpa using c11 h, fun h => by rw [getD_set_ne false (by decide)] at h; simpa using c12 h, fun h => by rw [getD_set_ne false (by decide)] at h; simpa using c13 h, fun h => by rw [getD_set_ne false (by decide)] at h; simpa using c14 h, fun _ => by simp, fun h => by rw [getD_set_ne false (by decide)] at h; simpa using c16 h, fun h => by rw [getD_set_ne false (by decide)] at h; simpa using c17 h, (hb.block _ (Array.getElem?_eq_some_iff.1 (f0)).1).trans (f0), cbl.trans (hb.mono cbl.size)⟩
      · simp at ho
        subst ho
        have u7 : listed.getD 7 false = true := hall ⟨7, .data⟩ (by simp) rfl
        have e7 := c7 u7
        refine wpOp_step rfl (fun K' hK => ?_)
        simp only [FrA]
        go_simp
        refine hK _ _ ⟨fun j => if j = 16 then .string ⟨(layW q0 q1 q2 false).toArray⟩ else s j, by simpa using hsz, by simp [FrA, e7], fun h => by rw [getD_set_ne false (by decide)] at h; simpa using c0 h, fun h => by rw [getD_set_ne false (by decide)] at h; simpa using c1 h, fun h => by rw [getD_set_ne false (by decide)] at h; simpa using c2 h, fun h => by rw [getD_set_ne false (by decide)] at h; simpa using c3 h, fun h => by rw [getD_set_ne false (by decide)] at h; simpa using c4 h, fun h => by rw [getD_set_ne false (by decide)] at h; simpa using c5 h, fun h => by rw [getD_set_ne false (by decide)] at h; simpa using c6 h, fun h => by rw [getD_set_ne false (by decide)] at h; simpa using c7 h, fun h => by rw [getD_set_ne false (by decide)] at h; simpa using c8 h, fun h => by rw [getD_set_ne false (by decide)] at h; simpa using c9 h, fun h => by rw [getD_set_ne false (by decide)] at h; simpa using c10 h, fun h => by rw [getD_set_ne false (by decide)] at h; simpa using c11 h, fun h => by rw [getD_set_ne false (by decide)] at h; simpa using c12 h, fun h => by rw [getD_set_ne false (by decide)] at h; simpa using c13 h, fun h => by rw [getD_set_ne false (by decide)] at h; simpa using c14 h, fun h => by rw [getD_set_ne false (by decide)] at h; simpa using c15 h, fun _ => by simp, fun h => by rw [getD_set_ne false (by decide)] at h; simpa using c17 h, f0, cbl⟩
      · simp at ho
        subst ho
        have u15 : listed.getD 15 false = true := hall ⟨15, .data⟩ (by simp) rfl
        have e15 := c15 u15
        refine wpOp_step rfl (fun K' hK => ?_)
        simp only [FrA]
        go_simp
        refine hK _ _ ⟨fun j => if j = 17 then .string ⟨(layW q3 q4 q5 true).toArray⟩ else s j, by simpa using hsz, by simp [FrA, e15], fun h => by rw [getD_set_ne false (by decide)] at h; simpa using c0 h, fun h => by rw [getD_set_ne false (by decide)] at h; simpa using c1 h, fun h => by rw [getD_set_ne false (by decide)] at h; simpa using c2 h, fun h => by rw [getD_set_ne false (by decide)] at h; simpa using c3 h, fun h => by rw [getD_set_ne false (by decide)] at h; simpa using c4 h, fun h => by rw [getD_set_ne false (by decide)] at h; simpa using c5 h, fun h => by rw [getD_set_ne false (by decide)] at h; simpa using c6 h, fun h => by rw [getD_set_ne false (by decide)] at h; simpa using c7 h, fun h => by rw [getD_set_ne false (by decide)] at h; simpa using c8 h, fun h => by rw [getD_set_ne false (by decide)] at h; simpa using c9 h, fun h => by rw [getD_set_ne false (by decide)] at h; simpa using c10 h, fun h => by rw [getD_set_ne false (by decide)] at h; simpa using c11 h, fun h => by rw [getD_set_ne false (by decide)] at h; simpa using c12 h, fun h => by rw [getD_set_ne false (by decide)] at h; simpa using c13 h, fun h => by rw [getD_set_ne false (by decide)] at h; simpa using c14 h, fun h => by rw [getD_set_ne false (by decide)] at h; simpa using c15 h, fun h => by rw [getD_set_ne false (by decide)] at h; simpa using c16 h, fun _ => by simp, f0, cbl⟩
    case hdone =>
      rintro listed a w ⟨s, hsz, rfl, c0, c1, c2, c3, c4, c5, c6, c7, c8, c9, c10, c11, c12, c13, c14, c15, c16, c17, f0, cbl⟩ hr
      have hup := fun j => all_done (md := .any) (by kernel_rfl) hsz hr j
      have e16 := c16 (hup 16 (by decide))
      have e17 := c17 (hup 17 (by decide))
      clear c0 c1 c2 c3 c4 c5 c6 c7 c8 c9 c10 c11 c12 c13 c14 c15 c16 c17 hup hr
      simp only [FrA]
      rw [e16, e17]
      go_wp2_with fail
      go_meet
      exact ⟨rfl, rfl, f0, cbl⟩
  obtain ⟨rfl, rfl, hQ2, hBB⟩ := hcut
  have HQ2 := Lib.hid hQ2
  have HB2 := Lib.hid (HB1.out.trans (hBB.mono HB1.out.size))
  clear hQ2 hBB
  go_wp2_with fail
  refine (rFormat_any _ _ _).mono ?_
  rintro e w3 ⟨rfl, hb3⟩
  have HB3 := Lib.hid (HB2.out.trans (hb3.mono HB2.out.size))
  have HQ3 := Lib.hid (block_new hb3 HQ2.out)
  have hSl := fmt_len160 (layW q0 q1 q2 false) k
  obtain ⟨S, hS⟩ : ∃ S, fmtS (layW q0 q1 q2 false) k = S := ⟨_, rfl⟩
  obtain ⟨ok, hok⟩ : ∃ ok, fmtOk (layW q0 q1 q2 false) k = ok := ⟨_, rfl⟩
  rw [hS] at hSl
  rw [hS, hok]
  clear hb3 hS hok
  go_wp2_with fail
  rw [Lib.run_convert_string_bytes _ _ _ 5 _ Try.underlying9 Try.underlying48 Try.underlying5]
  obtain ⟨G, hG⟩ : ∃ G, grownCap w3 (ByteArray.mk S.toArray).size 0 5 = G := ⟨_, rfl⟩
  obtain ⟨W7, hW7⟩ : ∃ W7, Lib.bytesWorld w3 5 ⟨S.toArray⟩ = W7 := ⟨_, rfl⟩
  rw [hG, hW7]
  have hb7 : Below w3.heap.size w3 W7 := by rw [← hW7]; exact below_bytes _ _ _
  have hnew : W7.heap[w3.heap.size]? = some (.cells (Lib.bytesCells w3 5 ⟨S.toArray⟩) 5 ((Lib.bytesCells w3 5 ⟨S.toArray⟩).size, (Lib.bytesCells w3 5 ⟨S.toArray⟩).size + 1)) := by rw [← hW7]; exact Lib.bytesWorld_at_new _ _ _
  have hcl : ∀ j (hj : j < S.length), (Lib.bytesCells w3 5 ⟨S.toArray⟩)[j]? = some (.int .u8 (S[j].toNat : Int)) := fun j hj => by
    have h := Lib.bytesWorld_cell w3 5 ⟨S.toArray⟩ j hj
    rw [hW7, Lib.cell_of_heap hnew] at h
    rw [h]; simp [hj]
  have hcz : S.length ≤ (Lib.bytesCells w3 5 ⟨S.toArray⟩).size := by simp [Lib.bytesCells, ByteArray.size]
  obtain ⟨C, hC⟩ : ∃ C, Lib.bytesCells w3 5 ⟨S.toArray⟩ = C := ⟨_, rfl⟩
  rw [hC] at hnew hcl hcz
  obtain ⟨bb, hbb⟩ : ∃ bb, w3.heap.size = bb := ⟨_, rfl⟩
  have HQ7 := Lib.hid ((hb7.block bx (Array.getElem?_eq_some_iff.1 HQ3.out).1).trans HQ3.out)
  have HB7 := Lib.hid (HB3.out.trans (hb7.mono HB3.out.size))
  have HWB : Hid (w.heap.size ≤ bb) := Lib.hid (by rw [← hbb]; exact HB3.out.size)
  have hne : bx ≠ bb := by rw [← hbb]; exact Nat.ne_of_lt (Array.getElem?_eq_some_iff.1 HQ3.out).1
  rw [hbb] at hnew ⊢
  have HNEW := Lib.hid hnew; have HCJ := Lib.hid hcl; have HCZ := Lib.hid hcz
  clear hb7 hnew hcl hcz hC hbb hW7 hG
  go_upto_if 51 with fail
  go_cut [] (fun wx => ∃ Lb : List UInt8, Lb.length = S.length ∧ (∀ j (hj : j < Lb.length), wx.cell? ⟨bb, j, none⟩ = some (.int .u8 (Lb[j].toNat : Int))) ∧ bb < wx.heap.size ∧ Below w.heap.size w wx)
  case first =>
    by_cases hlen : 0 < S.length
    case neg =>
      have hlen0 : S.length = 0 := by omega
      have hz : (S.length : Int) ≤ 0 := by omega
      go_wp2_with fail
      go_meet
      exact ⟨S, rfl, fun j hj => absurd hj (by omega), (Array.getElem?_eq_some_iff.1 HNEW.out).1, HB7.out⟩
    have hlen' : (0 : Int) < (S.length : Int) := by omega
    obtain ⟨P, hPq⟩ : ∃ P : Nat, q6 % (S.length : Int) = (P : Int) := ⟨(q6 % (S.length : Int)).toNat, by have := Int.emod_nonneg q6 (Int.ne_of_gt hlen'); omega⟩
    have hP : P < S.length := by have := Int.emod_lt_of_pos q6 hlen'; omega
    have HP := Lib.hid hPq
    clear hPq
    go_wp2_with fail
    have HZ : Hid (0 ≤ IntKind.u8.wrap q7 ∧ IntKind.u8.wrap q7 ≤ 255) := Lib.hid (by
      have : IntKind.u8.wrap q7 = q7 % 256 := by simp [IntKind.wrap, IntKind.bits, IntKind.signed]
      omega)
    have HFZ : Hid ((decide ((C.size) ≤ P) && decide (P < C.size + 1)) = false) := Lib.hid (by have h1 := HCZ.out; rw [decide_eq_false (show ¬ C.size ≤ P by omega)]; rfl)
    refine wp_region_inv (InB n k q0 q1 q2 q3 q4 q5 q6 q7 ok rl S bx bb P G C (C.size, C.size + 1) u22 u23 u24 u25 u26 u27 u28 u29 u30 u31 u32 u33 u34 u35 u36 u37 u38 u39 u40 u52 u53 u54 u55 u56 u57 u58 u59 u60 u61 u62 u63 u64 u68 u69 u70 u71 u72 u73 u74 u75 u76 u77 u78 u82 u83 u84 u85 u86 u87 u88 u89 u90 u91 u92 u93 u94 u95 u96 u97 u98 u99 u100 u101 u102 u103 u104 u105 u106 u107 W7) (by kernel_rfl) ?h0 ?hstep ?hdone
    case h0 => exact ⟨fun j => if j = 0 then u52 else if j = 1 then u53 else if j = 2 then u54 else if j = 3 then u55 else if j = 4 then u56 else if j = 5 then u57 else if j = 6 then u58 else if j = 7 then u59 else if j = 8 then u60 else if j = 9 then u61 else undef, rfl, rfl, (fun h => absurd h (by simp)), (fun h => absurd h (by simp)), (fun h => absurd h (by simp)), (fun h => absurd h (by simp)), (fun h => absurd h (by simp)), (fun h => absurd h (by simp)), (fun h => absurd h (by simp)), (fun h => absurd h (by simp)), (fun h => absurd h (by simp)), (fun h => absurd h (by simp)), HQ7.out, (fun _ => HNEW.out), (fun h => absurd h (by simp)), (Below.refl _ _).drew⟩
    case hstep =>
        rintro listed a w ⟨s, hsz, rfl, c0, c1, c2, c3, c4, c5, c6, c7, c8, c9, f0, f1, g1, cbl⟩ i o ho hun hall
        have hun' : listed.getD i false = false := getD_none hun
        have hi : i < 11 := (Array.getElem?_eq_some_iff.1 ho).1
        have hii : i = 0 ∨ i = 1 ∨ i = 2 ∨ i = 3 ∨ i = 4 ∨ i = 5 ∨ i = 6 ∨ i = 7 ∨ i = 8 ∨ i = 9 ∨ i = 10 := by omega
        rcases hii with rfl | rfl | rfl | rfl | rfl | rfl | rfl | rfl | rfl | rfl | rfl
        · simp at ho
          subst ho
          refine wpOp_step rfl (fun K' hK => ?_)
          simp only [FrB]
          go_simp
          refine hK _ _ ⟨fun j => if j = 0 then .slice (some ⟨bb, 0, none⟩) S.length G else s j, by simpa using hsz, by simp [FrB, hlen], fun _ => by simp, fun h => by rw [getD_set_ne false (by decide)] at h; simpa using c1 h, fun h => by rw [getD_set_ne false (by decide)] at h; simpa using c2 h, fun h => by rw [getD_set_ne false (by decide)] at h; simpa using c3 h, fun h => by rw [getD_set_ne false (by decide)] at h; simpa using c4 h, fun h => by rw [getD_set_ne false (by decide)] at h; simpa using c5 h, fun h => by rw [getD_set_ne false (by decide)] at h; simpa using c6 h, fun h => by rw [getD_set_ne false (by decide)] at h; simpa using c7 h, fun h => by rw [getD_set_ne false (by decide)] at h; simpa using c8 h, fun h => by rw [getD_set_ne false (by decide)] at h; simpa using c9 h, f0, fun h => by rw [getD_set_ne false (by decide)] at h; exact f1 h, fun h => by rw [getD_set_ne false (by decide)] at h; exact g1 h, cbl⟩
        · simp at ho
          subst ho
          refine wpOp_step rfl (fun K' hK => ?_)
          simp only [FrB]
          go_simp
          refine hK _ _ ⟨fun j => if j = 1 then .pointer (some ⟨bx, 6, none⟩) else s j, by simpa using hsz, by simp [FrB, hlen], fun h => by rw [getD_set_ne false (by decide)] at h; simpa using c0 h, fun _ => by simp, fun h => by rw [getD_set_ne false (by decide)] at h; simpa using c2 h, fun h => by rw [getD_set_ne false (by decide)] at h; simpa using c3 h, fun h => by rw [getD_set_ne false (by decide)] at h; simpa using c4 h, fun h => by rw [getD_set_ne false (by decide)] at h; simpa using c5 h, fun h => by rw [getD_set_ne false (by decide)] at h; simpa using c6 h, fun h => by rw [getD_set_ne false (by decide)] at h; simpa using c7 h, fun h => by rw [getD_set_ne false (by decide)] at h; simpa using c8 h, fun h => by rw [getD_set_ne false (by decide)] at h; simpa using c9 h, f0, fun h => by rw [getD_set_ne false (by decide)] at h; exact f1 h, fun h => by rw [getD_set_ne false (by decide)] at h; exact g1 h, cbl⟩
        · simp at ho
          subst ho
          have u1 : listed.getD 1 false = true := hall ⟨1, .data⟩ (by simp) rfl
          have e1 := c1 u1
          have x0 : w.cell? ⟨bx, 6, none⟩ = some (.int .i64 q6) := by rw [Lib.cell_of_heap f0]; rfl
          refine wpOp_step rfl (fun K' hK => ?_)
          simp only [FrB]
          go_simp
          refine hK _ _ ⟨fun j => if j = 2 then .int .i64 q6 else s j, by simpa using hsz, by simp [FrB, e1, hlen], fun h => by rw [getD_set_ne false (by decide)] at h; simpa using c0 h, fun h => by rw [getD_set_ne false (by decide)] at h; simpa using c1 h, fun _ => by simp, fun h => by rw [getD_set_ne false (by decide)] at h; simpa using c3 h, fun h => by rw [getD_set_ne false (by decide)] at h; simpa using c4 h, fun h => by rw [getD_set_ne false (by decide)] at h; simpa using c5 h, fun h => by rw [getD_set_ne false (by decide)] at h; simpa using c6 h, fun h => by rw [getD_set_ne false (by decide)] at h; simpa using c7 h, fun h => by rw [getD_set_ne false (by decide)] at h; simpa using c8 h, fun h => by rw [getD_set_ne false (by decide)] at h; simpa using c9 h, f0, fun h => by rw [getD_set_ne false (by decide)] at h; exact f1 h, fun h => by rw [getD_set_ne false (by decide)] at h; exact g1 h, cbl⟩
        · simp at ho
          subst ho
          refine wpOp_step rfl (fun K' hK => ?_)
          simp only [FrB]
          go_simp
          refine hK _ _ ⟨fun j => if j = 3 then .slice (some ⟨bb, 0, none⟩) S.length G else s j, by simpa using hsz, by simp [FrB, hlen], fun h => by rw [getD_set_ne false (by decide)] at h; simpa using c0 h, fun h => by rw [getD_set_ne false (by decide)] at h; simpa using c1 h, fun h => by rw [getD_set_ne false (by decide)] at h; simpa using c2 h, fun _ => by simp, fun h => by rw [getD_set_ne false (by decide)] at h; simpa using c4 h, fun h => by rw [getD_set_ne false (by decide)] at h; simpa using c5 h, fun h => by rw [getD_set_ne false (by decide)] at h; simpa using c6 h, fun h => by rw [getD_set_ne false (by decide)] at h; simpa using c7 h, fun h => by rw [getD_set_ne false (by decide)] at h; simpa using c8 h, fun h => by rw [getD_set_ne false (by decide)] at h; simpa using c9 h, f0, fun h => by rw [getD_set_ne false (by decide)] at h; exact f1 h, fun h => by rw [getD_set_ne false (by decide)] at h; exact g1 h, cbl⟩
        · simp at ho
          subst ho
          have u3 : listed.getD 3 false = true := hall ⟨3, .data⟩ (by simp) rfl
          have e3 := c3 u3
          refine wpOp_step rfl (fun K' hK => ?_)
          simp only [FrB]
          go_simp
          refine hK _ _ ⟨fun j => if j = 4 then .int .i64 (S.length : Int) else s j, by simpa using hsz, by simp [FrB, e3, hlen], fun h => by rw [getD_set_ne false (by decide)] at h; simpa using c0 h, fun h => by rw [getD_set_ne false (by decide)] at h; simpa using c1 h, fun h => by rw [getD_set_ne false (by decide)] at h; simpa using c2 h, fun h => by rw [getD_set_ne false (by decide)] at h; simpa using c3 h, fun _ => by simp, fun h => by rw [getD_set_ne false (by decide)] at h; simpa using c5 h, fun h => by rw [getD_set_ne false (by decide)] at h; simpa using c6 h, fun h => by rw [getD_set_ne false (by decide)] at h; simpa using c7 h, fun h => by rw [getD_set_ne false (by decide)] at h; simpa using c8 h, fun h => by rw [getD_set_ne false (by decide)] at h; simpa using c9 h, f0, fun h => by rw [getD_set_ne false (by decide)] at h; exact f1 h, fun h => by rw [getD_set_ne false (by decide)] at h; exact g1 h, cbl⟩
        · simp at ho
          subst ho
          have u2 : listed.getD 2 false = true := hall ⟨2, .data⟩ (by simp) rfl
          have e2 := c2 u2
          have u4 : listed.getD 4 false = true := hall ⟨4, .data⟩ (by simp) rfl
          have e4 := c4 u4
          refine wpOp_step rfl (fun K' hK => ?_)
          simp only [FrB]
          go_simp
          refine (Mod_any _ _ (by omega) (by omega) (by omega) (by omega) _).mono ?_
          rintro e w' ⟨rfl, rfl⟩
          rw [HP.out]
          refine hK _ _ ⟨fun j => if j = 5 then .int .i64 (P : Int) else s j, by simpa using hsz, by simp [FrB, e2, e4, hlen], fun h => by rw [getD_set_ne false (by decide)] at h; simpa using c0 h, fun h => by rw [getD_set_ne false (by decide)] at h; simpa using c1 h, fun h => by rw [getD_set_ne false (by decide)] at h; simpa using c2 h, fun h => by rw [getD_set_ne false (by decide)] at h; simpa using c3 h, fun h => by rw [getD_set_ne false (by decide)] at h; simpa using c4 h, fun _ => by simp, fun h => by rw [getD_set_ne false (by decide)] at h; simpa using c6 h, fun h => by rw [getD_set_ne false (by decide)] at h; simpa using c7 h, fun h => by rw [getD_set_ne false (by decide)] at h; simpa using c8 h, fun h => by rw [getD_set_ne false (by decide)] at h; simpa using c9 h, f0, fun h => by rw [getD_set_ne false (by decide)] at h; exact f1 h, fun h => by rw [getD_set_ne false (by decide)] at h; exact g1 h, cbl⟩
        · simp at ho
          subst ho
          refine wpOp_step rfl (fun K' hK => ?_)
          simp only [FrB]
          go_simp
          refine hK _ _ ⟨fun j => if j = 6 then .pointer (some ⟨bx, 7, none⟩) else s j, by simpa using hsz, by simp [FrB, hlen], fun h => by rw [getD_set_ne false (by decide)] at h; simpa using c0 h, fun h => by rw [getD_set_ne false (by decide)] at h; simpa using c1 h, fun h => by rw [getD_set_ne false (by decide)] at h; simpa using c2 h, fun h => by rw [getD_set_ne false (by decide)] at h; simpa using c3 h, fun h => by rw [getD_set_ne false (by decide)] at h; simpa using c4 h, fun h => by rw [getD_set_ne false (by decide)] at h; simpa using c5 h, fun _ => by simp, fun h => by rw [getD_set_ne false (by decide)] at h; simpa using c7 h, fun h => by rw [getD_set_ne false (by decide)] at h; simpa using c8 h, fun h => by rw [getD_set_ne false (by decide)] at h; simpa using c9 h, f0, fun h => by rw [getD_set_ne false (by decide)] at h; exact f1 h, fun h => by rw [getD_set_ne false (by decide)] at h; exact g1 h, cbl⟩
        · simp at ho
          subst ho
          have u6 : listed.getD 6 false = true := hall ⟨6, .data⟩ (by simp) rfl
          have e6 := c6 u6
          have x0 : w.cell? ⟨bx, 7, none⟩ = some (.int .i64 q7) := by rw [Lib.cell_of_heap f0]; rfl
          refine wpOp_step rfl (fun K' hK => ?_)
          simp only [FrB]
          go_simp
          refine hK _ _ ⟨fun j => if j = 7 then .int .i64 q7 else s j, by simpa using hsz, by simp [FrB, e6, hlen], fun h => by rw [getD_set_ne false (by decide)] at h; simpa using c0 h, fun h => by rw [getD_set_ne false (by decide)] at h; simpa using c1 h, fun h => by rw [getD_set_ne false (by decide)] at h; simpa using c2 h, fun h => by rw [getD_set_ne false (by decide)] at h; simpa using c3 h, fun h => by rw [getD_set_ne false (by decide)] at h; simpa using c4 h, fun h => by rw [getD_set_ne false (by decide)] at h; simpa using c5 h, fun h => by rw [getD_set_ne false (by decide)] at h; simpa using c6 h, fun _ => by simp, fun h => by rw [getD_set_ne false (by decide)] at h; simpa using c8 h, fun h => by rw [getD_set_ne false (by decide)] at h; simpa using c9 h, f0, fun h => by rw [getD_set_ne false (by decide)] at h; exact f1 h, fun h => by rw [getD_set_ne false (by decide)] at h; exact g1 h, cbl⟩
        · simp at ho
          subst ho
          have u7 : listed.getD 7 false = true := hall ⟨7, .data⟩ (by simp) rfl
          have e7 := c7 u7
          refine wpOp_step rfl (fun K' hK => ?_)
          simp only [FrB]
          go_simp
          refine hK _ _ ⟨fun j => if j = 8 then .int .u8 (IntKind.u8.wrap q7) else s j, by simpa using hsz, by simp [FrB, e7, hlen], fun h => by rw [getD_set_ne false (by decide)] at h; simpa using c0 h, fun h => by rw [getD_set_ne false (by decide)] at h; simpa using c1 h, fun h => by rw [getD_set_ne false (by decide)] at h; simpa using c2 h, fun h => by rw [getD_set_ne false (by decide)] at h; simpa using c3 h, fun h => by rw [getD_set_ne false (by decide)] at h; simpa using c4 h, fun h => by rw [getD_set_ne false (by decide)] at h; simpa using c5 h, fun h => by rw [getD_set_ne false (by decide)] at h; simpa using c6 h, fun h => by rw [getD_set_ne false (by decide)] at h; simpa using c7 h, fun _ => by simp, fun h => by rw [getD_set_ne false (by decide)] at h; simpa using c9 h, f0, fun h => by rw [getD_set_ne false (by decide)] at h; exact f1 h, fun h => by rw [getD_set_ne false (by decide)] at h; exact g1 h, cbl⟩
        · simp at ho
          subst ho
          have u0 : listed.getD 0 false = true := hall ⟨0, .data⟩ (by simp) rfl
          have e0 := c0 u0
          have u5 : listed.getD 5 false = true := hall ⟨5, .data⟩ (by simp) rfl
          have e5 := c5 u5
          have hP' : (P : Int) < (S.length : Int) := by omega
          refine wpOp_step rfl (fun K' hK => ?_)
          simp only [FrB]
          go_simp
          refine hK _ _ ⟨fun j => if j = 9 then .pointer (some ⟨bb, P, none⟩) else s j, by simpa using hsz, by simp [FrB, e0, e5, hlen], fun h => by rw [getD_set_ne false (by decide)] at h; simpa using c0 h, fun h => by rw [getD_set_ne false (by decide)] at h; simpa using c1 h, fun h => by rw [getD_set_ne false (by decide)] at h; simpa using c2 h, fun h => by rw [getD_set_ne false (by decide)] at h; simpa using c3 h, fun h => by rw [getD_set_ne false (by decide)] at h; simpa using c4 h, fun h => by rw [getD_set_ne false (by decide)] at h; simpa using c5 h, fun h => by rw [getD_set_ne false (by decide)] at h; simpa using c6 h, fun h => by rw [getD_set_ne false (by decide)] at h; simpa using c7 h, fun h => by rw [getD_set_ne false (by decide)] at h; simpa using c8 h, fun _ => by simp, f0, fun h => by rw [getD_set_ne false (by decide)] at h; exact f1 h, fun h => by rw [getD_set_ne false (by decide)] at h; exact g1 h, cbl⟩
        · simp at ho
          subst ho
          have u8 : listed.getD 8 false = true := hall ⟨8, .data⟩ (by simp) rfl
          have e8 := c8 u8
          have u9 : listed.getD 9 false = true := hall ⟨9, .data⟩ (by simp) rfl
          have e9 := c9 u9
          have jc : w.cell? ⟨bb, P, none⟩ = some (.int .u8 (S[P].toNat : Int)) := by rw [Lib.cell_of_heap (f1 hun')]; exact HCJ.out P hP
          have jf : w.frozen? ⟨bb, P, none⟩ = false := by rw [frozen_at (f1 hun')]; exact HFZ.out
          refine wpOp_step rfl (fun K' hK => ?_)
          simp only [FrB]
          go_simp
          refine hK _ _ ⟨s, by simpa using hsz, by simp [FrB, e8, e9, hlen], fun h => by rw [getD_set_ne false (by decide)] at h; exact c0 h, fun h => by rw [getD_set_ne false (by decide)] at h; exact c1 h, fun h => by rw [getD_set_ne false (by decide)] at h; exact c2 h, fun h => by rw [getD_set_ne false (by decide)] at h; exact c3 h, fun h => by rw [getD_set_ne false (by decide)] at h; exact c4 h, fun h => by rw [getD_set_ne false (by decide)] at h; exact c5 h, fun h => by rw [getD_set_ne false (by decide)] at h; exact c6 h, fun h => by rw [getD_set_ne false (by decide)] at h; exact c7 h, fun h => by rw [getD_set_ne false (by decide)] at h; exact c8 h, fun h => by rw [getD_set_ne false (by decide)] at h; exact c9 h, (heap_other (by exact hne) _).trans (f0), fun h => by simp [hsz] at h, fun _ => by have h := f1 hun'; rw [heap_self h], cbl.setCell (p := ⟨bb, _, none⟩) (by exact Nat.le_refl _) _⟩
    case hdone =>
        rintro listed a w ⟨s, hsz, rfl, c0, c1, c2, c3, c4, c5, c6, c7, c8, c9, f0, f1, g1, cbl⟩ hr
        have hup := fun j => all_done (md := .any) (by kernel_rfl) hsz hr j
        have G1 := g1 (hup 10 (by decide))
        clear c0 c1 c2 c3 c4 c5 c6 c7 c8 c9 f1 g1 hup hr
        simp only [FrB]
        go_wp2_with fail
        go_meet
        exact ⟨S.set P (UInt8.ofNat (IntKind.u8.wrap q7).toNat), by simp, fun j hj => by rw [Lib.cell_of_heap G1]; exact set_bytes rfl HCJ.out HZ.out.1 HZ.out.2 hj, (Array.getElem?_eq_some_iff.1 G1).1, HB7.out.trans (cbl.mono HWB.out)⟩
  obtain ⟨Lb, hLb, hcells, hbw, hBw⟩ := hcut
  have HCELLS := Lib.hid hcells; have HLB := Lib.hid hLb; have HBC := Lib.hid hBw
  have HL1 := Lib.hid (show S.length ≤ maxLen by unfold maxLen; omega)
  have HL2 := Lib.hid (show Lb.length ≤ maxLen by unfold maxLen; omega)
  obtain ⟨t3, ht3⟩ : ∃ t3, S ++ [48] = t3 := ⟨_, rfl⟩
  obtain ⟨t4, ht4⟩ : ∃ t4, [48] ++ S = t4 := ⟨_, rfl⟩
  have HL3 := Lib.hid (show t3.length ≤ maxLen by rw [← ht3]; unfold maxLen; simp; omega)
  have HL4 := Lib.hid (show t4.length ≤ maxLen by rw [← ht4]; unfold maxLen; simp; omega)
  have HL5 := Lib.hid (show ([] : List UInt8).length ≤ maxLen by unfold maxLen; simp)
  have HA1 : Hid ((⟨S.toArray⟩ : ByteArray) ++ ⟨#[48]⟩ = ⟨t3.toArray⟩) := Lib.hid (by rw [← ht3]; exact str_append S [48])
  have HA2 : Hid ((ByteArray.mk #[48]) ++ ⟨S.toArray⟩ = ⟨t4.toArray⟩) := Lib.hid (by rw [← ht4]; exact str_append [48] S)
  clear hcells hLb hBw hne ht3 ht4
  go_wp2_with fail
  obtain ⟨V, hV⟩ : ∃ V, wc.alloc (.cells (Strs (layW q0 q1 q2 false) (layW q3 q4 q5 true) rl []) 9) = V := ⟨_, rfl⟩
  have hV' : wc.alloc (.cells #[.string ⟨(layW q0 q1 q2 false).toArray⟩, .string ⟨(layW q3 q4 q5 true).toArray⟩, .string ⟨rl.toArray⟩, .string ⟨#[]⟩] 9) = V := hV
  rw [hV']
  have hT : V.heap[wc.heap.size]? = some (.cells (Strs (layW q0 q1 q2 false) (layW q3 q4 q5 true) rl []) 9 (0, 0)) := by rw [← hV]; exact heap_alloc_new wc _
  have hBV : Below wc.heap.size wc V := by rw [← hV]; exact (Below.refl _ _).alloc (Nat.le_refl _) _
  have hvl : wc.heap.size < V.heap.size := (Array.getElem?_eq_some_iff.1 hT).1
  have HT := Lib.hid hT; have HBV := Lib.hid hBV
  clear hT hBV hV hV'
  go_loopw [67] (fun i wr => ∃ j : Nat, j ≤ 4 ∧ i = .int .i64 (j : Int) ∧ Hid (Below V.heap.size V wr)) (fun i _ => 4 - (intOf i).toNat)
  case atStart => exact ⟨0, by omega, rfl, Lib.hid (Below.refl _ _)⟩
  case round =>
    obtain ⟨j, hj, rfl, HBW⟩ := hrel
    by_cases hlt : j < 4
    · have hlt' : (j : Int) < 4 := by omega
      obtain ⟨t, hx⟩ := strs_at (a := layW q0 q1 q2 false) (b := layW q3 q4 q5 true) (c := rl) (d := []) hlt
      obtain ⟨wo, hwo⟩ : ∃ wo, wo = wr := ⟨_, rfl⟩
      subst hwo
      have cx : wo.cell? ⟨wc.heap.size, j, none⟩ = some (.string ⟨t.toArray⟩) := by rw [World.cell?_of_block (w := V) (HBW.out.block _ hvl), Lib.cell_of_heap HT.out]; exact hx
      have hcv := Lib.hid (conv_bytes wo bb Lb S.length G HLB.out (fun q hq => by
        rw [World.cell?_of_block (w := V) (HBW.out.block bb (by omega)), World.cell?_of_block (w := wc) (HBV.out.block bb hbw)]
        exact HCELLS.out q hq))
      clear hx
      go_wp2_with fail
      rw [hcv.out]
      go_wp2_with fail
      rw [HA1.out, HA2.out]
      obtain ⟨X, hX⟩ : ∃ X, wo.alloc (.cells (Six S Lb rl t3 t4 []) 9) = X := ⟨_, rfl⟩
      have hX' : wo.alloc (.cells #[.string ⟨S.toArray⟩, .string ⟨Lb.toArray⟩, .string ⟨rl.toArray⟩, .string ⟨t3.toArray⟩, .string ⟨t4.toArray⟩, .string ⟨#[]⟩] 9) = X := hX
      rw [hX']
      have hT2 : X.heap[wo.heap.size]? = some (.cells (Six S Lb rl t3 t4 []) 9 (0, 0)) := by rw [← hX]; exact heap_alloc_new wo _
      have hBX : Below V.heap.size V X := by rw [← hX]; exact HBW.out.alloc HBW.out.size _
      have hxl : wo.heap.size < X.heap.size := (Array.getElem?_eq_some_iff.1 hT2).1
      have HT2 := Lib.hid hT2; have HBX := Lib.hid hBX; have HCA := Lib.hid (ca_any t)
      clear hT2 hBX hX hX' cx
      go_loopw [81] (fun i wi => ∃ m : Nat, m ≤ 6 ∧ i = .int .i64 (m : Int) ∧ Hid (Below X.heap.size X wi)) (fun i _ => 6 - (intOf i).toNat)
      case atStart => exact ⟨0, by omega, rfl, Lib.hid (Below.refl _ _)⟩
      case round =>
        obtain ⟨m, hm, rfl, HBI⟩ := hrel
        by_cases hlt2 : m < 6
        · have hlt2' : (m : Int) < 6 := by omega
          obtain ⟨x, hx, hxm⟩ := six_at (a := S) (b := Lb) (c := rl) (d := t3) (e := t4) (f := []) HL1.out HL2.out HRL.out HL3.out HL4.out HL5.out hlt2
          have cx : wr.cell? ⟨wo.heap.size, m, none⟩ = some (.string ⟨x.toArray⟩) := by rw [World.cell?_of_block (w := X) (HBI.out.block _ hxl), Lib.cell_of_heap HT2.out]; exact hx
          have HXM := Lib.hid hxm
          clear hx hxm
          go_wp2_with fail
          refine (Read_any t x HCA.out HXM.out _).mono ?_
          rintro e w4 ⟨rfl, hb4⟩
          have HB4 := Lib.hid (HBI.out.trans (hb4.mono HBI.out.size))
          clear hb4
          go_wp2_with fail
          refine (rRead_any t x HXM.out _).mono ?_
          rintro e w5 ⟨rfl, hb5⟩
          have HB5 := Lib.hid (HB4.out.trans (hb5.mono HB4.out.size))
          clear hb5 cx
          go_wp2_with fail
          go_roundw
          case rel => exact ⟨m + 1, by omega, by go_num, HB5⟩
          case measure => simp [intOf]; omega
        · have hge2 : (6 : Int) ≤ (m : Int) := by omega
          have HB4 := Lib.hid (HBX.out.trans (HBI.out.mono HBX.out.size))
          go_wp2_with fail
          go_roundw
          case rel => exact ⟨j + 1, by omega, by go_num, HB4⟩
          case measure => simp [intOf]; omega
    · have hge : (4 : Int) ≤ (j : Int) := by omega
      go_wp2_with fail
      go_ret
      exact ⟨rfl, HBC.out.trans ((HBV.out.trans (HBW.out.mono HBV.out.size)).mono HBC.out.size)⟩

/-! ### THE ROW's STEP -/
theorem cel2 : Try.prog.cellsOf 3 = 1 := by kernel_rfl
theorem arr2 : Try.prog.cellsOf 47 = 8 := by kernel_rfl
set_option maxRecDepth 100000 in
theorem lifted (os : Os) (started : os.Started) (H : Type) (enc : TypeId × Value → H) :
    ReturnsInHanded {} Try.checked os 9 .any (Rows.dateReadsSpec.pre6 enc Try.prog Try.f9 Rows.dateReadsRow.domain false) (Rows.dateReadsSpec.post enc Try.prog Try.f9 false true false false) := by
  refine returnsInHanded_of_change (C := Try.checked) own started (by kernel_rfl) Try.func9
    (ChangeSpec.witness6 (enc := enc) (C := Try.checked) false ⟨#[], #[.int .i64 0, .string ⟨#[]⟩, .agg #[.int .i64 0, .int .i64 0, .int .i64 0, .int .i64 0, .int .i64 0, .int .i64 0, .int .i64 0, .int .i64 0]], []⟩ 8 (by kernel_rfl) (by kernel_rfl) (by kernel_rfl) (by kernel_rfl)) ?_
  intro W base args ds gs before hval0 hW hcnd _
  have hval : ∀ (j : Nat) t v, Try.f9.params[j]? = some t → args[j]? = some v → Value.okWide Try.prog W .any base t v := hval0
  have hW' := hW
  obtain ⟨p, q, hA0, hV, rfl, hfz, hnd⟩ := hW
  have hA : DataW.TrodAll enc Try.prog W 0 (fun _ => true) true Try.f9.params.toList args.toList ds p := hA0
  rw [Try.params9] at hA hval
  obtain ⟨v0, vs0, d0, ds0, p0, q0, hargs, rfl, rfl, h0, r0⟩ := trodAll_cons hA
  obtain ⟨v1, vs1, d1, ds1, p1, q1, rfl, rfl, rfl, h1, r1⟩ := trodAll_cons r0
  obtain ⟨v2, vs2, d2, ds2, p2, q2, rfl, rfl, rfl, h2, r2⟩ := trodAll_cons r1
  obtain ⟨rfl, rfl, rfl⟩ := trodAll_nil r2
  obtain rfl : args = #[v0, v1, v2] := by cases args; simp_all
  obtain ⟨rfl, rfl⟩ := trodVars_none hV
  obtain ⟨a0, rfl, rfl, rfl, w0⟩ := open_int Try.underlying3 (hval 0 3 v0 rfl rfl) h0
  obtain ⟨s1, rfl, rfl, rfl, w1⟩ := open_string Try.underlying9 (hval 1 9 v1 rfl rfl) h1
  obtain ⟨xs2, hl2, rfl, rfl, rfl, w2⟩ := open_ints Try.underlying47 Try.underlying3 cel2 arr2 (hval 2 47 v2 rfl rfl) h2
  obtain ⟨x2_0, x2_1, x2_2, x2_3, x2_4, x2_5, x2_6, x2_7, rfl⟩ := list8 xs2 hl2
  clear hA0 hval0
  simp only [List.append_nil] at hW'
  refine (walk a0 s1 x2_0 x2_1 x2_2 x2_3 x2_4 x2_5 x2_6 x2_7 w1 w2 W).mono fun e W' ⟨he, hb⟩ => ?_
  subst he
  exact ⟨_, rfl, post_of_below (pa := []) (pv := []) hW' (fun _ _ _ => (trodAll_cons_mk (shut_bool Try.underlying4 _) trodAll_mk0)) (fun sp _ => (trodAll_cons_mk (shut_int Try.underlying3 w0) (trodAll_cons_mk (shut_string Try.underlying9 w1) (trodAll_cons_mk (shut_ints Try.underlying47 Try.underlying3 cel2 arr2 hl2 w2) trodAll_mk0)))) (fun _ _ => rfl) rfl
    hb (ok_one (by kernel_rfl) rfl (okWide_bool_mk Try.underlying4 _))⟩

theorem over : Rows.dateReadsRow.holds Try.pinned (OpenSpec.ofChange Rows.dateReadsSpec) :=
  OpenClaim.holds_of_wide 9 Try.f9 rfl rfl rfl rfl rfl rfl rfl ⟨rfl, rfl, rfl, rfl, rfl⟩ rfl rfl rfl rfl rfl (by kernel_rfl) Try.func9 (by kernel_rfl)
    (of_decide_eq_true (by kernel_rfl)) (by unfold Func.isWrapper; first | (rw [if_pos (by decide +kernel)]; kernel_rfl) | (rw [if_neg (by decide +kernel)]; exact ⟨rfl, rfl⟩))
    (fun os started H enc _ => lifted os started H enc)

theorem proved : Rows.DateReadsSaid :=
  over
#print axioms proved
end Go.Proofs.Ytfoifnhakmfefaa.dateReads
