/- Contracts of the reference's Mod and Layout; each theorem names its conditions. -/
import Derived.Test.YtfoifnhakmfefaaUndP
import Derived.Test.YtfoifnhakmfefaaReg
import Derived.Deep.RegionHeld3
namespace Go.Proofs.Ytfoifnhakmfefaa
open Go.RowKit Go.Shelf
open Cal Txt
set_option linter.unusedVariables false

theorem mod_plain {n m : Int} (h : 0 < m) : (n.tmod m + m).tmod m = n % m := by
  have h1 : n.tmod m = if 0 ≤ n ∨ m ∣ n then n % m else n % m - m := by
    rw [Int.tmod_eq_emod]
    split <;> simp [Int.natAbs_of_nonneg (Int.le_of_lt h)]
  have h2 := Int.emod_nonneg n (Int.ne_of_gt h)
  have h3 := Int.emod_lt_of_pos n h
  rw [h1]
  split
  · rw [Int.tmod_eq_emod_of_nonneg (by omega), Int.add_emod_right, Int.emod_eq_of_lt h2 h3]
  · rw [show n % m - m + m = n % m by omega, Int.tmod_eq_emod_of_nonneg h2, Int.emod_eq_of_lt h2 h3]
set_option maxHeartbeats 400000 in
theorem Mod_any (n m : Int) (h : 0 < m) (h9 : m ≤ 1000000) (l0 : -9223372036854775808 ≤ n) (l1 : n ≤ 9223372036854775807) (w : World) :
    Calls Try.prog 24 #[.int .i64 n, .int .i64 m] w fun e w' => e = .returned (.int .i64 (n % m)) ∧ w = w' := by
  have b1 : -m < n.tmod m := Int.lt_tmod_of_pos n h
  have b2 : n.tmod m < m := Int.tmod_lt_of_pos n h
  have hp := Lib.hid (show n.tmod m % m = n % m by
    have h2 := mod_plain (n := n) h
    rw [Int.tmod_eq_emod_of_nonneg (show 0 ≤ n.tmod m + m by omega), Int.add_emod_right] at h2
    exact h2)
  by_cases hn : 0 ≤ n
  · have hp2 := Lib.hid (show (n % m + m) % m = n % m by rw [Int.add_emod_right, Int.emod_emod_of_dvd _ (Int.dvd_refl m)])
    have hn2 : 0 ≤ n % m := Int.emod_nonneg n (Int.ne_of_gt h)
    have hn3 : n % m < m := Int.emod_lt_of_pos n h
    go_enter Try.func24, Try.ntmps24
    go_wp2_with fail
    go_ret
    exact ⟨ret_int hp2.out, rfl⟩
  · go_enter Try.func24, Try.ntmps24
    go_wp2_with fail
    go_ret
    exact ⟨ret_int hp.out, rfl⟩

theorem cell_past3 (w : World) {b k : Nat} (o1 o2 o3 : Obj) (h : b < w.heap.size) : (((w.alloc o1).alloc o2).alloc o3).drew.cell? ⟨b, k, none⟩ = w.cell? ⟨b, k, none⟩ := by
  refine World.cell?_of_block (w := w) ?_
  show (((w.alloc o1).alloc o2).alloc o3).heap[b]? = _
  rw [Below.heap_alloc _ _ _ (by simp; omega), Below.heap_alloc _ _ _ (by simp; omega), Below.heap_alloc _ _ _ h]
def layM (a : Int) : List UInt8 := if a = 0 then [77, 77] else [77]
def layD (a : Int) : List UInt8 := if a = 0 then [68, 68] else [68]
theorem six (w : World) (c0 c1 c2 c3 c4 c5 c6 : Array Value) (t t' : TypeId) :
    let W := ((((((w.alloc (.cells c0 t)).alloc (.cells c1 t)).alloc (.cells c2 t)).alloc (.cells c3 t)).alloc (.cells c4 t)).alloc (.cells c5 t)).alloc (.cells c6 t')
    W.heap[w.heap.size]? = some (.cells c0 t (0, 0)) ∧ W.heap[w.heap.size + 1]? = some (.cells c1 t (0, 0)) ∧ W.heap[w.heap.size + 1 + 1]? = some (.cells c2 t (0, 0)) ∧ W.heap[w.heap.size + 1 + 1 + 1]? = some (.cells c3 t (0, 0)) ∧
    W.heap[w.heap.size + 1 + 1 + 1 + 1]? = some (.cells c4 t (0, 0)) ∧ W.heap[w.heap.size + 1 + 1 + 1 + 1 + 1]? = some (.cells c5 t (0, 0)) ∧ W.heap[w.heap.size + 1 + 1 + 1 + 1 + 1 + 1]? = some (.cells c6 t' (0, 0)) ∧
    Below w.heap.size w W ∧ ∀ (b : Nat) (o : Obj), w.heap[b]? = some o → W.heap[b]? = some o := by
  intro W
  have hb : Below w.heap.size w W := ((((((((Below.refl _ w).alloc (Nat.le_refl _) _).alloc (by simp) _).alloc (by simp; omega) _).alloc (by simp; omega) _).alloc (by simp; omega) _).alloc (by simp; omega) _).alloc (by simp; omega) _)
  have k : ∀ (v : World) (o : Obj) (b : Nat) (x : Obj), v.heap[b]? = some x → (v.alloc o).heap[b]? = some x := fun v o b x h => (Below.heap_alloc _ _ _ (Array.getElem?_eq_some_iff.1 h).1).trans h
  have h0 := heap_alloc_new w (.cells c0 t)
  have h1 := heap_alloc_new (w.alloc (.cells c0 t)) (.cells c1 t)
  simp only [World.size_alloc] at h1
  have h2 := heap_alloc_new ((w.alloc (.cells c0 t)).alloc (.cells c1 t)) (.cells c2 t)
  simp only [World.size_alloc] at h2
  have h3 := heap_alloc_new (((w.alloc (.cells c0 t)).alloc (.cells c1 t)).alloc (.cells c2 t)) (.cells c3 t)
  simp only [World.size_alloc] at h3
  have h4 := heap_alloc_new ((((w.alloc (.cells c0 t)).alloc (.cells c1 t)).alloc (.cells c2 t)).alloc (.cells c3 t)) (.cells c4 t)
  simp only [World.size_alloc] at h4
  have h5 := heap_alloc_new (((((w.alloc (.cells c0 t)).alloc (.cells c1 t)).alloc (.cells c2 t)).alloc (.cells c3 t)).alloc (.cells c4 t)) (.cells c5 t)
  simp only [World.size_alloc] at h5
  have h6 := heap_alloc_new ((((((w.alloc (.cells c0 t)).alloc (.cells c1 t)).alloc (.cells c2 t)).alloc (.cells c3 t)).alloc (.cells c4 t)).alloc (.cells c5 t)) (.cells c6 t')
  simp only [World.size_alloc] at h6
  exact ⟨(k _ _ _ _ (k _ _ _ _ (k _ _ _ _ (k _ _ _ _ (k _ _ _ _ (k _ _ _ _ h0)))))), (k _ _ _ _ (k _ _ _ _ (k _ _ _ _ (k _ _ _ _ (k _ _ _ _ h1))))), (k _ _ _ _ (k _ _ _ _ (k _ _ _ _ (k _ _ _ _ h2)))), (k _ _ _ _ (k _ _ _ _ (k _ _ _ _ h3))), (k _ _ _ _ (k _ _ _ _ h4)), (k _ _ _ _ h5), h6, hb, fun b o h => (hb.block _ (Array.getElem?_eq_some_iff.1 h).1).trans h⟩
def oi (k : Nat) (o : Int) : Int := (([[0, 1, 2], [0, 2, 1], [1, 0, 2], [1, 2, 0], [2, 0, 1], [2, 1, 0]] : List (List Int)).getD o.toNat []).getD k 0
def sepT (s : Int) : List UInt8 := ([[45], [46], [47], [32], [44, 32], [120], [32, 111, 102, 32], []] : List (List UInt8)).getD s.toNat []
def fT (m1 m2 j : Int) : List UInt8 := if j = 0 then yyyy else if j = 1 then layM m1 else layD m2
theorem fT_len (m1 m2 j : Int) : (fT m1 m2 j).length ≤ 4 := by
  unfold fT layM layD; (repeat' split) <;> simp [yyyy]
theorem sepT_len (s : Int) : (sepT s).length ≤ 4 := by
  have h : ∀ n : Nat, (([[45], [46], [47], [32], [44, 32], [120], [32, 111, 102, 32], []] : List (List UInt8)).getD n []).length ≤ 4 := by
    intro n
    match n with
    | 0 | 1 | 2 | 3 | 4 | 5 | 6 | 7 => decide
    | n + 8 => simp
  exact h s.toNat
theorem sepT_ne {s : Int} (h0 : 0 ≤ s) (h8 : s < 8) (h7 : s ≠ 7) : (sepT s == []) = false := by
  have : s = 0 ∨ s = 1 ∨ s = 2 ∨ s = 3 ∨ s = 4 ∨ s = 5 ∨ s = 6 := by omega
  rcases this with rfl | rfl | rfl | rfl | rfl | rfl | rfl <;> rfl
theorem oi_bd (k : Nat) {o : Int} (h0 : 0 ≤ o) (h6 : o < 6) : 0 ≤ oi k o ∧ oi k o < 3 := by
  have : o = 0 ∨ o = 1 ∨ o = 2 ∨ o = 3 ∨ o = 4 ∨ o = 5 := by omega
  match k with
  | 0 | 1 | 2 => rcases this with rfl | rfl | rfl | rfl | rfl | rfl <;> decide
  | k + 3 => rcases this with rfl | rfl | rfl | rfl | rfl | rfl <;> simp [oi]
theorem cell_fT {W : World} {b : Nat} {t : TypeId} {m1 m2 j : Int} (h : W.heap[b]? = some (.cells #[.string ⟨yyyy.toArray⟩, .string ⟨(layM m1).toArray⟩, .string ⟨(layD m2).toArray⟩] t (0, 0))) (hj : 0 ≤ j ∧ j < 3) : W.cell? ⟨b, j.toNat, none⟩ = some (.string ⟨(fT m1 m2 j).toArray⟩) := by
  rw [Lib.cell_of_heap h]
  have : j = 0 ∨ j = 1 ∨ j = 2 := by omega
  rcases this with rfl | rfl | rfl <;> rfl
def sepW (s : Int) : List UInt8 := if s = 7 then [95] else sepT s
def lay4 (m1 m2 o s : Int) : List UInt8 := fT m1 m2 (oi 0 o) ++ sepW s ++ fT m1 m2 (oi 1 o) ++ sepW s ++ fT m1 m2 (oi 2 o)
def layS (q0 q1 q2 : Int) : List UInt8 :=
  fT (q0 % 2) (q0.tdiv 2 % 2) (oi 0 (q1 % 6)) ++ sepW (q2 % 8) ++ fT (q0 % 2) (q0.tdiv 2 % 2) (oi 1 (q1 % 6)) ++ sepW (q2 % 8) ++ fT (q0 % 2) (q0.tdiv 2 % 2) (oi 2 (q1 % 6))
/-- with Wild: a wrong one now and then -/
def layC (q0 q1 q2 : Int) (c : Int) : List UInt8 :=
  let f := fun k => fT (q0 % 2) (q0.tdiv 2 % 2) (oi k (q1 % 6))
  let s := sepT (q2 % 8)
  let b := f 0 ++ s ++ f 1 ++ s ++ f 2
  if c = 0 then b ++ [68] else if c = 1 then [89] ++ b else if c = 2 then b ++ [49] else if c = 3 then f 0 ++ s ++ f 1 else if c = 4 then b ++ [10] else if c = 5 then [100, 97, 121, 58, 32] ++ b else if c = 6 then b ++ List.replicate 36 46 else b
def layW (q0 q1 q2 : Int) (wild : Bool) : List UInt8 := if wild then layC q0 q1 q2 (q2.tdiv 8 % 9) else layS q0 q1 q2
theorem layW_false (q0 q1 q2 : Int) : layW q0 q1 q2 false = layS q0 q1 q2 := rfl
theorem layS_eq {q0 q1 q2 o sp m1 m2 hh j0 j1 j2 : Int} {x : List UInt8} (h1 : q1 % 6 = o) (h2 : q2 % 8 = sp) (h3 : q0 % 2 = m1) (h4 : hh % 2 = m2) (h5 : hh = q0.tdiv 2) (h6 : oi 0 o = j0 ∧ oi 1 o = j1 ∧ oi 2 o = j2) (h7 : sepW sp = x) :
    layS q0 q1 q2 = fT m1 m2 j0 ++ x ++ fT m1 m2 j1 ++ x ++ fT m1 m2 j2 := by
  subst h5
  unfold layS
  rw [h1, h2, h3, h4, h6.1, h6.2.1, h6.2.2, h7]
theorem str_append2 (a b : List UInt8) : (⟨a.toArray⟩ : ByteArray) ++ ⟨b.toArray⟩ = ⟨(a ++ b).toArray⟩ := by
  apply ByteArray.ext
  simp
theorem str5 (a b c d e : List UInt8) : Ending.returned (.string ((⟨a.toArray⟩ : ByteArray) ++ ⟨b.toArray⟩ ++ ⟨c.toArray⟩ ++ ⟨d.toArray⟩ ++ ⟨e.toArray⟩)) = .returned (.string ⟨(a ++ b ++ c ++ d ++ e).toArray⟩) := by
  rw [str_append2, str_append2, str_append2, str_append2]
theorem layW_true {q0 q1 q2 c : Int} (h : q2.tdiv 8 % 9 = c) : layW q0 q1 q2 true = layC q0 q1 q2 c := by subst h; rfl
def wildT (c : Int) (a x b d : List UInt8) : List UInt8 :=
  if c = 0 then a ++ x ++ b ++ x ++ d ++ [68] else if c = 1 then [89] ++ (a ++ x ++ b ++ x ++ d) else if c = 2 then a ++ x ++ b ++ x ++ d ++ [49] else if c = 3 then a ++ x ++ b else if c = 4 then a ++ x ++ b ++ x ++ d ++ [10] else if c = 5 then [100, 97, 121, 58, 32] ++ (a ++ x ++ b ++ x ++ d) else if c = 6 then a ++ x ++ b ++ x ++ d ++ List.replicate 36 46 else a ++ x ++ b ++ x ++ d
theorem layC_eq {q0 q1 q2 o sp m1 m2 hh j0 j1 j2 c : Int} {x : List UInt8} (h1 : q1 % 6 = o) (h2 : q2 % 8 = sp) (h3 : q0 % 2 = m1) (h4 : hh % 2 = m2) (h5 : hh = q0.tdiv 2) (h6 : oi 0 o = j0 ∧ oi 1 o = j1 ∧ oi 2 o = j2) (h7 : sepT sp = x) :
    layC q0 q1 q2 c = wildT c (fT m1 m2 j0) x (fT m1 m2 j1) (fT m1 m2 j2) := by
  subst h5
  unfold layC wildT
  simp only [h1, h2, h3, h4, h6.1, h6.2.1, h6.2.2, h7]
theorem str6 (a b c d e f : List UInt8) : Ending.returned (.string ((⟨a.toArray⟩ : ByteArray) ++ ⟨b.toArray⟩ ++ ⟨c.toArray⟩ ++ ⟨d.toArray⟩ ++ ⟨e.toArray⟩ ++ ⟨f.toArray⟩)) = .returned (.string ⟨(a ++ b ++ c ++ d ++ e ++ f).toArray⟩) := by
  rw [str_append2, str_append2, str_append2, str_append2, str_append2]
theorem str6l (p a b c d e : List UInt8) : Ending.returned (.string ((⟨p.toArray⟩ : ByteArray) ++ (⟨a.toArray⟩ ++ ⟨b.toArray⟩ ++ ⟨c.toArray⟩ ++ ⟨d.toArray⟩ ++ ⟨e.toArray⟩))) = .returned (.string ⟨(p ++ (a ++ b ++ c ++ d ++ e)).toArray⟩) := by
  rw [str_append2, str_append2, str_append2, str_append2, str_append2]
theorem str3 (a b c : List UInt8) : Ending.returned (.string ((⟨a.toArray⟩ : ByteArray) ++ ⟨b.toArray⟩ ++ ⟨c.toArray⟩)) = .returned (.string ⟨(a ++ b ++ c).toArray⟩) := by
  rw [str_append2, str_append2]
theorem getD_none {listed : Array Bool} {i : Nat} (h : listed.getD i true = false) : listed.getD i false = false := by
  rcases Nat.lt_or_ge i listed.size with h' | h'
  · simp [h'] at h ⊢; exact h
  · simp [Array.getElem?_eq_none h'] at h
theorem cell_tab2 {w : World} {b : Nat} {m : Int} {t : TypeId} (h : w.heap[b]? = some (.cells #[.string ⟨#[77, 77]⟩, .string ⟨#[77]⟩] t (0, 0))) (hm : m = 0 ∨ m = 1) : w.cell? ⟨b, m.toNat, none⟩ = some (.string ⟨(layM m).toArray⟩) := by
  rw [Lib.cell_of_heap h]; rcases hm with rfl | rfl <;> rfl
theorem cell_tab2d {w : World} {b : Nat} {m : Int} {t : TypeId} (h : w.heap[b]? = some (.cells #[.string ⟨#[68, 68]⟩, .string ⟨#[68]⟩] t (0, 0))) (hm : m = 0 ∨ m = 1) : w.cell? ⟨b, m.toNat, none⟩ = some (.string ⟨(layD m).toArray⟩) := by
  rw [Lib.cell_of_heap h]; rcases hm with rfl | rfl <;> rfl
def Fr15 (q0 q1 q2 : Int) (wild : Bool) (bx : Nat) (s : Nat → Value) : Array Value := #[.agg #[.int .i64 q0, .int .i64 q1, .int .i64 q2], .bool wild, .pointer (some ⟨bx, 0, none⟩), undef, .string ⟨#[]⟩, s 14, undef, undef, undef, undef, s 0, s 1, s 2, s 3, s 4, s 5, s 6, s 7, s 8, s 9, s 10, s 11, s 12, s 13, undef, undef, undef, undef, undef, undef, undef, undef, undef, undef, undef, undef, undef, undef, undef, undef, undef, undef, undef, undef, undef, undef, undef, undef, undef, undef, undef, undef, undef, undef, undef, undef, undef, undef, undef, undef, undef, undef, undef, undef, undef, undef, undef, undef, undef, undef, undef, undef, undef, undef, undef, undef, undef, undef, undef, undef, undef, undef, undef, undef, undef, undef, undef, undef, undef, undef, undef, undef, undef, undef, undef, undef, undef, undef, undef, undef, undef, undef, undef, undef, undef, undef, undef, undef, undef, undef, undef, undef, undef, undef, undef, undef, undef, undef, undef, undef]
def FI (q0 q1 q2 hh m1 m2 : Int) (wild : Bool) (bx : Nat) (W0 : World) (listed : Array Bool) (a : Act) (w : World) : Prop :=
  ∃ (s : Nat → Value) (b10 b16 b23 : Nat), listed.size = 15 ∧ a = { tmps := Fr15 q0 q1 q2 wild bx s, defers := [] } ∧
    (listed.getD 0 false = true → s 0 = .slice (some ⟨b10, 0, none⟩) 2 2) ∧
    (listed.getD 1 false = true → s 1 = .pointer (some ⟨bx, 0, none⟩)) ∧
    (listed.getD 2 false = true → s 2 = .int .i64 q0) ∧
    (listed.getD 3 false = true → s 3 = .int .i64 m1) ∧
    (listed.getD 4 false = true → (listed.getD 0 false = true ∧ s 4 = .pointer (some ⟨b10, m1.toNat, none⟩))) ∧
    (listed.getD 5 false = true → s 5 = .string ⟨(layM m1).toArray⟩) ∧
    (listed.getD 6 false = true → s 6 = .slice (some ⟨b16, 0, none⟩) 2 2) ∧
    (listed.getD 7 false = true → s 7 = .pointer (some ⟨bx, 0, none⟩)) ∧
    (listed.getD 8 false = true → s 8 = .int .i64 q0) ∧
    (listed.getD 9 false = true → s 9 = .int .i64 hh) ∧
    (listed.getD 10 false = true → s 10 = .int .i64 m2) ∧
    (listed.getD 11 false = true → (listed.getD 6 false = true ∧ s 11 = .pointer (some ⟨b16, m2.toNat, none⟩))) ∧
    (listed.getD 12 false = true → s 12 = .string ⟨(layD m2).toArray⟩) ∧
    (listed.getD 13 false = true → s 13 = .slice (some ⟨b23, 0, none⟩) 3 3) ∧
    (listed.getD 14 false = true → (listed.getD 13 false = true ∧ s 14 = .slice (some ⟨b23, 0, none⟩) 3 3)) ∧
    (listed.getD 0 false = true → w.heap[b10]? = some (.cells #[.string ⟨#[77, 77]⟩, .string ⟨#[77]⟩] 9 (0, 0))) ∧ (listed.getD 6 false = true → w.heap[b16]? = some (.cells #[.string ⟨#[68, 68]⟩, .string ⟨#[68]⟩] 9 (0, 0))) ∧
    (listed.getD 13 false = true → w.heap[b23]? = some (.cells #[.string ⟨yyyy.toArray⟩, .string ⟨(layM m1).toArray⟩, .string ⟨(layD m2).toArray⟩] 9 (0, 0))) ∧ w.heap[bx]? = some (.cells #[.int .i64 q0, .int .i64 q1, .int .i64 q2] 22 (0, 0)) ∧ Below W0.heap.size W0 w
set_option maxHeartbeats 4000000 in
set_option maxRecDepth 100000 in
theorem Layout_any (q0 q1 q2 : Int) (wild : Bool) (w : World) (l0 : -9223372036854775808 ≤ q0) (l1 : q0 ≤ 9223372036854775807) (l2 : -9223372036854775808 ≤ q1) (l3 : q1 ≤ 9223372036854775807) (l4 : -9223372036854775808 ≤ q2) (l5 : q2 ≤ 9223372036854775807) :
    Calls Try.prog 21 #[.agg #[.int .i64 q0, .int .i64 q1, .int .i64 q2], .bool wild] w (Gives w (.string ⟨(layW q0 q1 q2 wild).toArray⟩)) := by
  have hwq : IntKind.i64.wrap (q0.tdiv 2) = q0.tdiv 2 := by
    rw [IntKind.wrap_i64]
    have : q0.tdiv 2 = if 0 ≤ q0 ∨ 2 ∣ q0 then q0 / 2 else q0 / 2 + 1 := by rw [Int.tdiv_eq_ediv]; split <;> simp
    rw [this]; split <;> omega
  have hq1 : -9223372036854775808 ≤ q0.tdiv 2 ∧ q0.tdiv 2 ≤ 9223372036854775807 := by
    have : q0.tdiv 2 = if 0 ≤ q0 ∨ 2 ∣ q0 then q0 / 2 else q0 / 2 + 1 := by rw [Int.tdiv_eq_ediv]; split <;> simp
    rw [this]; split <;> omega
  have hc1 : q0 % 2 = 0 ∨ q0 % 2 = 1 := by omega
  have hc2 : q0.tdiv 2 % 2 = 0 ∨ q0.tdiv 2 % 2 = 1 := by omega
  obtain ⟨hh, hhh⟩ : ∃ hh, hh = q0.tdiv 2 := ⟨_, rfl⟩
  rw [← hhh] at hwq hq1 hc2
  have hde : q0.tdiv 2 = hh := hhh.symm
  have HHH := Lib.hid hhh
  clear hhh
  obtain ⟨l6, l7⟩ := hq1
  have HC1 := Lib.hid hc1; have HC2 := Lib.hid hc2
  clear hc1 hc2
  go_enter Try.func21, Try.ntmps21
  go_wp2_with fail
  obtain ⟨W0, hW0⟩ : ∃ W0, w.alloc (.cells #[.int .i64 q0, .int .i64 q1, .int .i64 q2] 22) = W0 := ⟨_, rfl⟩
  have hc : W0.heap[w.heap.size]? = some (.cells #[.int .i64 q0, .int .i64 q1, .int .i64 q2] 22 (0, 0)) := by rw [← hW0]; exact heap_alloc_new w _
  have HB0 := Lib.hid (show Below w.heap.size w W0 by rw [← hW0]; exact (Below.refl _ w).alloc (Nat.le_refl _) _)
  have c0 : W0.cell? ⟨w.heap.size, 0, none⟩ = some (.int .i64 q0) := by rw [Lib.cell_of_heap hc]; rfl
  have hnn := World.new_ne W0 _ c0
  have hlt0 : w.heap.size < W0.heap.size := (Array.getElem?_eq_some_iff.1 hc).1
  rw [hW0]
  have HCC := Lib.hid hc
  clear hc hW0
  obtain ⟨m1, hm1'⟩ : ∃ m1, q0 % 2 = m1 := ⟨_, rfl⟩
  obtain ⟨m2, hm2'⟩ : ∃ m2, hh % 2 = m2 := ⟨_, rfl⟩
  have HM1 := Lib.hid hm1'; have HM2 := Lib.hid hm2'
  have hm1 : m1 = 0 ∨ m1 = 1 := by omega
  have hm2 : m2 = 0 ∨ m2 = 1 := by omega
  obtain ⟨bx, hbx⟩ : ∃ bx, bx = w.heap.size := ⟨_, rfl⟩
  have m1a : 0 ≤ m1 := by omega
  have m1b : m1 < 2 := by omega
  have m2a : 0 ≤ m2 := by omega
  have m2b : m2 < 2 := by omega
  rw [← hbx] at HCC ⊢
  clear hm1' hm2' hbx c0 hnn hlt0
  go_cut [5] (fun f wx => ∃ b : Nat, f = .slice (some ⟨b, 0, none⟩) 3 3 ∧ wx.heap[b]? = some (.cells #[.string ⟨yyyy.toArray⟩, .string ⟨(layM m1).toArray⟩, .string ⟨(layD m2).toArray⟩] 9 (0, 0)) ∧ wx.heap[bx]? = some (.cells #[.int .i64 q0, .int .i64 q1, .int .i64 q2] 22 (0, 0)) ∧ Below W0.heap.size W0 wx)
  case first =>
    refine wp_region_inv (FI q0 q1 q2 hh m1 m2 wild bx W0) (by kernel_rfl) ?h0 ?hstep ?hdone
    case h0 => exact ⟨fun _ => undef, 0, 0, 0, rfl, rfl, (fun h => absurd h (by simp)), (fun h => absurd h (by simp)), (fun h => absurd h (by simp)), (fun h => absurd h (by simp)), (fun h => absurd h (by simp)), (fun h => absurd h (by simp)), (fun h => absurd h (by simp)), (fun h => absurd h (by simp)), (fun h => absurd h (by simp)), (fun h => absurd h (by simp)), (fun h => absurd h (by simp)), (fun h => absurd h (by simp)), (fun h => absurd h (by simp)), (fun h => absurd h (by simp)), (fun h => absurd h (by simp)), (fun h => absurd h (by simp)), (fun h => absurd h (by simp)), (fun h => absurd h (by simp)), HCC.out, (Below.refl _ _).drew⟩
    case hstep =>
      rintro listed a w ⟨s, b10, b16, b23, hsz, rfl, c0, c1, c2, c3, c4, c5, c6, c7, c8, c9, c10, c11, c12, c13, c14, c16m, c16d, c16f, cbx, cbl⟩ i o ho hun hall
      have hun' : listed.getD i false = false := getD_none hun
      have hi : i < 15 := (Array.getElem?_eq_some_iff.1 ho).1
      have hii : i = 0 ∨ i = 1 ∨ i = 2 ∨ i = 3 ∨ i = 4 ∨ i = 5 ∨ i = 6 ∨ i = 7 ∨ i = 8 ∨ i = 9 ∨ i = 10 ∨ i = 11 ∨ i = 12 ∨ i = 13 ∨ i = 14 := by omega
      rcases hii with rfl | rfl | rfl | rfl | rfl | rfl | rfl | rfl | rfl | rfl | rfl | rfl | rfl | rfl | rfl
      · simp at ho
        subst ho
        refine wpOp_step rfl (fun K' hK => ?_)
        simp only [Fr15]
        go_simp
        refine hK _ _ ⟨fun j => if j = 0 then .slice (some ⟨w.heap.size, 0, none⟩) 2 2 else s j, w.heap.size, b16, b23, by simpa using hsz, by simp [Fr15], fun _ => by simp, fun h => by rw [getD_set_ne false (by decide)] at h; simpa using c1 h, fun h => by rw [getD_set_ne false (by decide)] at h; simpa using c2 h, fun h => by rw [getD_set_ne false (by decide)] at h; simpa using c3 h, fun h => by rw [getD_set_ne false (by decide)] at h; exact absurd (c4 h).1 (by rw [hun']; simp), fun h => by rw [getD_set_ne false (by decide)] at h; simpa using c5 h, fun h => by rw [getD_set_ne false (by decide)] at h; simpa using c6 h, fun h => by rw [getD_set_ne false (by decide)] at h; simpa using c7 h, fun h => by rw [getD_set_ne false (by decide)] at h; simpa using c8 h, fun h => by rw [getD_set_ne false (by decide)] at h; simpa using c9 h, fun h => by rw [getD_set_ne false (by decide)] at h; simpa using c10 h, fun h => by rw [getD_set_ne false (by decide)] at h; exact ⟨getD_set_true (c11 h).1, by simpa using (c11 h).2⟩, fun h => by rw [getD_set_ne false (by decide)] at h; simpa using c12 h, fun h => by rw [getD_set_ne false (by decide)] at h; simpa using c13 h, fun h => by rw [getD_set_ne false (by decide)] at h; exact ⟨getD_set_true (c14 h).1, by simpa using (c14 h).2⟩, fun _ => heap_alloc_new w _, fun h => by rw [getD_set_ne false (by decide)] at h; exact (Below.heap_alloc _ _ _ (Array.getElem?_eq_some_iff.1 (c16d h)).1).trans (c16d h), fun h => by rw [getD_set_ne false (by decide)] at h; exact (Below.heap_alloc _ _ _ (Array.getElem?_eq_some_iff.1 (c16f h)).1).trans (c16f h), (Below.heap_alloc _ _ _ (Array.getElem?_eq_some_iff.1 cbx).1).trans cbx, cbl.alloc cbl.size _⟩
      · simp at ho
        subst ho
        refine wpOp_step rfl (fun K' hK => ?_)
        simp only [Fr15]
        go_simp
        refine hK _ _ ⟨fun j => if j = 1 then .pointer (some ⟨bx, 0, none⟩) else s j, b10, b16, b23, by simpa using hsz, by simp [Fr15], fun h => by rw [getD_set_ne false (by decide)] at h; simpa using c0 h, fun _ => by simp, fun h => by rw [getD_set_ne false (by decide)] at h; simpa using c2 h, fun h => by rw [getD_set_ne false (by decide)] at h; simpa using c3 h, fun h => by rw [getD_set_ne false (by decide)] at h; exact ⟨getD_set_true (c4 h).1, by simpa using (c4 h).2⟩, fun h => by rw [getD_set_ne false (by decide)] at h; simpa using c5 h, fun h => by rw [getD_set_ne false (by decide)] at h; simpa using c6 h, fun h => by rw [getD_set_ne false (by decide)] at h; simpa using c7 h, fun h => by rw [getD_set_ne false (by decide)] at h; simpa using c8 h, fun h => by rw [getD_set_ne false (by decide)] at h; simpa using c9 h, fun h => by rw [getD_set_ne false (by decide)] at h; simpa using c10 h, fun h => by rw [getD_set_ne false (by decide)] at h; exact ⟨getD_set_true (c11 h).1, by simpa using (c11 h).2⟩, fun h => by rw [getD_set_ne false (by decide)] at h; simpa using c12 h, fun h => by rw [getD_set_ne false (by decide)] at h; simpa using c13 h, fun h => by rw [getD_set_ne false (by decide)] at h; exact ⟨getD_set_true (c14 h).1, by simpa using (c14 h).2⟩, fun h => by rw [getD_set_ne false (by decide)] at h; exact c16m h, fun h => by rw [getD_set_ne false (by decide)] at h; exact c16d h, fun h => by rw [getD_set_ne false (by decide)] at h; exact c16f h, cbx, cbl⟩
      · simp at ho
        subst ho
        have u1 : listed.getD 1 false = true := hall ⟨1, .data⟩ (by simp) rfl
        have e1 := c1 u1
        have x0 : w.cell? ⟨bx, 0, none⟩ = some (.int .i64 q0) := by rw [Lib.cell_of_heap cbx]; rfl
        refine wpOp_step rfl (fun K' hK => ?_)
        simp only [Fr15]
        go_simp
        refine hK _ _ ⟨fun j => if j = 2 then .int .i64 q0 else s j, b10, b16, b23, by simpa using hsz, by simp [Fr15, e1], fun h => by rw [getD_set_ne false (by decide)] at h; simpa using c0 h, fun h => by rw [getD_set_ne false (by decide)] at h; simpa using c1 h, fun _ => by simp, fun h => by rw [getD_set_ne false (by decide)] at h; simpa using c3 h, fun h => by rw [getD_set_ne false (by decide)] at h; exact ⟨getD_set_true (c4 h).1, by simpa using (c4 h).2⟩, fun h => by rw [getD_set_ne false (by decide)] at h; simpa using c5 h, fun h => by rw [getD_set_ne false (by decide)] at h; simpa using c6 h, fun h => by rw [getD_set_ne false (by decide)] at h; simpa using c7 h, fun h => by rw [getD_set_ne false (by decide)] at h; simpa using c8 h, fun h => by rw [getD_set_ne false (by decide)] at h; simpa using c9 h, fun h => by rw [getD_set_ne false (by decide)] at h; simpa using c10 h, fun h => by rw [getD_set_ne false (by decide)] at h; exact ⟨getD_set_true (c11 h).1, by simpa using (c11 h).2⟩, fun h => by rw [getD_set_ne false (by decide)] at h; simpa using c12 h, fun h => by rw [getD_set_ne false (by decide)] at h; simpa using c13 h, fun h => by rw [getD_set_ne false (by decide)] at h; exact ⟨getD_set_true (c14 h).1, by simpa using (c14 h).2⟩, fun h => by rw [getD_set_ne false (by decide)] at h; exact c16m h, fun h => by rw [getD_set_ne false (by decide)] at h; exact c16d h, fun h => by rw [getD_set_ne false (by decide)] at h; exact c16f h, cbx, cbl⟩
      · simp at ho
        subst ho
        have u2 : listed.getD 2 false = true := hall ⟨2, .data⟩ (by simp) rfl
        have e2 := c2 u2
        refine wpOp_step rfl (fun K' hK => ?_)
        simp only [Fr15]
        go_simp
        refine (Mod_any _ 2 (by decide) (by decide) (by omega) (by omega) _).mono ?_
        rintro e w' ⟨rfl, rfl⟩
        rw [HM1.out]
        refine hK _ _ ⟨fun j => if j = 3 then .int .i64 m1 else s j, b10, b16, b23, by simpa using hsz, by simp [Fr15, e2], fun h => by rw [getD_set_ne false (by decide)] at h; simpa using c0 h, fun h => by rw [getD_set_ne false (by decide)] at h; simpa using c1 h, fun h => by rw [getD_set_ne false (by decide)] at h; simpa using c2 h, fun _ => by simp, fun h => by rw [getD_set_ne false (by decide)] at h; exact ⟨getD_set_true (c4 h).1, by simpa using (c4 h).2⟩, fun h => by rw [getD_set_ne false (by decide)] at h; simpa using c5 h, fun h => by rw [getD_set_ne false (by decide)] at h; simpa using c6 h, fun h => by rw [getD_set_ne false (by decide)] at h; simpa using c7 h, fun h => by rw [getD_set_ne false (by decide)] at h; simpa using c8 h, fun h => by rw [getD_set_ne false (by decide)] at h; simpa using c9 h, fun h => by rw [getD_set_ne false (by decide)] at h; simpa using c10 h, fun h => by rw [getD_set_ne false (by decide)] at h; exact ⟨getD_set_true (c11 h).1, by simpa using (c11 h).2⟩, fun h => by rw [getD_set_ne false (by decide)] at h; simpa using c12 h, fun h => by rw [getD_set_ne false (by decide)] at h; simpa using c13 h, fun h => by rw [getD_set_ne false (by decide)] at h; exact ⟨getD_set_true (c14 h).1, by simpa using (c14 h).2⟩, fun h => by rw [getD_set_ne false (by decide)] at h; exact c16m h, fun h => by rw [getD_set_ne false (by decide)] at h; exact c16d h, fun h => by rw [getD_set_ne false (by decide)] at h; exact c16f h, cbx, cbl⟩
      · simp at ho
        subst ho
        have u0 : listed.getD 0 false = true := hall ⟨0, .data⟩ (by simp) rfl
        have e0 := c0 u0
        have u3 : listed.getD 3 false = true := hall ⟨3, .data⟩ (by simp) rfl
        have e3 := c3 u3
        refine wpOp_step rfl (fun K' hK => ?_)
        simp only [Fr15]
        go_simp
        refine hK _ _ ⟨fun j => if j = 4 then .pointer (some ⟨b10, m1.toNat, none⟩) else s j, b10, b16, b23, by simpa using hsz, by simp [Fr15, e0, e3], fun h => by rw [getD_set_ne false (by decide)] at h; simpa using c0 h, fun h => by rw [getD_set_ne false (by decide)] at h; simpa using c1 h, fun h => by rw [getD_set_ne false (by decide)] at h; simpa using c2 h, fun h => by rw [getD_set_ne false (by decide)] at h; simpa using c3 h, fun _ => ⟨by rw [getD_set_ne false (by decide)]; exact u0, by simp⟩, fun h => by rw [getD_set_ne false (by decide)] at h; simpa using c5 h, fun h => by rw [getD_set_ne false (by decide)] at h; simpa using c6 h, fun h => by rw [getD_set_ne false (by decide)] at h; simpa using c7 h, fun h => by rw [getD_set_ne false (by decide)] at h; simpa using c8 h, fun h => by rw [getD_set_ne false (by decide)] at h; simpa using c9 h, fun h => by rw [getD_set_ne false (by decide)] at h; simpa using c10 h, fun h => by rw [getD_set_ne false (by decide)] at h; exact ⟨getD_set_true (c11 h).1, by simpa using (c11 h).2⟩, fun h => by rw [getD_set_ne false (by decide)] at h; simpa using c12 h, fun h => by rw [getD_set_ne false (by decide)] at h; simpa using c13 h, fun h => by rw [getD_set_ne false (by decide)] at h; exact ⟨getD_set_true (c14 h).1, by simpa using (c14 h).2⟩, fun h => by rw [getD_set_ne false (by decide)] at h; exact c16m h, fun h => by rw [getD_set_ne false (by decide)] at h; exact c16d h, fun h => by rw [getD_set_ne false (by decide)] at h; exact c16f h, cbx, cbl⟩
      · simp at ho
        subst ho
        have u4 : listed.getD 4 false = true := hall ⟨4, .data⟩ (by simp) rfl
        have e4 := (c4 u4).2
        have x0 := cell_tab2 (c16m (c4 u4).1) hm1
        have e0 := c0 (c4 u4).1
        refine wpOp_step rfl (fun K' hK => ?_)
        simp only [Fr15]
        go_simp
        refine hK _ _ ⟨fun j => if j = 5 then .string ⟨(layM m1).toArray⟩ else s j, b10, b16, b23, by simpa using hsz, by simp [Fr15, e4, e0], fun h => by rw [getD_set_ne false (by decide)] at h; simpa using c0 h, fun h => by rw [getD_set_ne false (by decide)] at h; simpa using c1 h, fun h => by rw [getD_set_ne false (by decide)] at h; simpa using c2 h, fun h => by rw [getD_set_ne false (by decide)] at h; simpa using c3 h, fun h => by rw [getD_set_ne false (by decide)] at h; exact ⟨getD_set_true (c4 h).1, by simpa using (c4 h).2⟩, fun _ => by simp, fun h => by rw [getD_set_ne false (by decide)] at h; simpa using c6 h, fun h => by rw [getD_set_ne false (by decide)] at h; simpa using c7 h, fun h => by rw [getD_set_ne false (by decide)] at h; simpa using c8 h, fun h => by rw [getD_set_ne false (by decide)] at h; simpa using c9 h, fun h => by rw [getD_set_ne false (by decide)] at h; simpa using c10 h, fun h => by rw [getD_set_ne false (by decide)] at h; exact ⟨getD_set_true (c11 h).1, by simpa using (c11 h).2⟩, fun h => by rw [getD_set_ne false (by decide)] at h; simpa using c12 h, fun h => by rw [getD_set_ne false (by decide)] at h; simpa using c13 h, fun h => by rw [getD_set_ne false (by decide)] at h; exact ⟨getD_set_true (c14 h).1, by simpa using (c14 h).2⟩, fun h => by rw [getD_set_ne false (by decide)] at h; exact c16m h, fun h => by rw [getD_set_ne false (by decide)] at h; exact c16d h, fun h => by rw [getD_set_ne false (by decide)] at h; exact c16f h, cbx, cbl⟩
      · simp at ho
        subst ho
        refine wpOp_step rfl (fun K' hK => ?_)
        simp only [Fr15]
        go_simp
        refine hK _ _ ⟨fun j => if j = 6 then .slice (some ⟨w.heap.size, 0, none⟩) 2 2 else s j, b10, w.heap.size, b23, by simpa using hsz, by simp [Fr15], fun h => by rw [getD_set_ne false (by decide)] at h; simpa using c0 h, fun h => by rw [getD_set_ne false (by decide)] at h; simpa using c1 h, fun h => by rw [getD_set_ne false (by decide)] at h; simpa using c2 h, fun h => by rw [getD_set_ne false (by decide)] at h; simpa using c3 h, fun h => by rw [getD_set_ne false (by decide)] at h; exact ⟨getD_set_true (c4 h).1, by simpa using (c4 h).2⟩, fun h => by rw [getD_set_ne false (by decide)] at h; simpa using c5 h, fun _ => by simp, fun h => by rw [getD_set_ne false (by decide)] at h; simpa using c7 h, fun h => by rw [getD_set_ne false (by decide)] at h; simpa using c8 h, fun h => by rw [getD_set_ne false (by decide)] at h; simpa using c9 h, fun h => by rw [getD_set_ne false (by decide)] at h; simpa using c10 h, fun h => by rw [getD_set_ne false (by decide)] at h; exact absurd (c11 h).1 (by rw [hun']; simp), fun h => by rw [getD_set_ne false (by decide)] at h; simpa using c12 h, fun h => by rw [getD_set_ne false (by decide)] at h; simpa using c13 h, fun h => by rw [getD_set_ne false (by decide)] at h; exact ⟨getD_set_true (c14 h).1, by simpa using (c14 h).2⟩, fun h => by rw [getD_set_ne false (by decide)] at h; exact (Below.heap_alloc _ _ _ (Array.getElem?_eq_some_iff.1 (c16m h)).1).trans (c16m h), fun _ => heap_alloc_new w _, fun h => by rw [getD_set_ne false (by decide)] at h; exact (Below.heap_alloc _ _ _ (Array.getElem?_eq_some_iff.1 (c16f h)).1).trans (c16f h), (Below.heap_alloc _ _ _ (Array.getElem?_eq_some_iff.1 cbx).1).trans cbx, cbl.alloc cbl.size _⟩
      · simp at ho
        subst ho
        refine wpOp_step rfl (fun K' hK => ?_)
        simp only [Fr15]
        go_simp
        refine hK _ _ ⟨fun j => if j = 7 then .pointer (some ⟨bx, 0, none⟩) else s j, b10, b16, b23, by simpa using hsz, by simp [Fr15], fun h => by rw [getD_set_ne false (by decide)] at h; simpa using c0 h, fun h => by rw [getD_set_ne false (by decide)] at h; simpa using c1 h, fun h => by rw [getD_set_ne false (by decide)] at h; simpa using c2 h, fun h => by rw [getD_set_ne false (by decide)] at h; simpa using c3 h, fun h => by rw [getD_set_ne false (by decide)] at h; exact ⟨getD_set_true (c4 h).1, by simpa using (c4 h).2⟩, fun h => by rw [getD_set_ne false (by decide)] at h; simpa using c5 h, fun h => by rw [getD_set_ne false (by decide)] at h; simpa using c6 h, fun _ => by simp, fun h => by rw [getD_set_ne false (by decide)] at h; simpa using c8 h, fun h => by rw [getD_set_ne false (by decide)] at h; simpa using c9 h, fun h => by rw [getD_set_ne false (by decide)] at h; simpa using c10 h, fun h => by rw [getD_set_ne false (by decide)] at h; exact ⟨getD_set_true (c11 h).1, by simpa using (c11 h).2⟩, fun h => by rw [getD_set_ne false (by decide)] at h; simpa using c12 h, fun h => by rw [getD_set_ne false (by decide)] at h; simpa using c13 h, fun h => by rw [getD_set_ne false (by decide)] at h; exact ⟨getD_set_true (c14 h).1, by simpa using (c14 h).2⟩, fun h => by rw [getD_set_ne false (by decide)] at h; exact c16m h, fun h => by rw [getD_set_ne false (by decide)] at h; exact c16d h, fun h => by rw [getD_set_ne false (by decide)] at h; exact c16f h, cbx, cbl⟩
      · simp at ho
        subst ho
        have u7 : listed.getD 7 false = true := hall ⟨7, .data⟩ (by simp) rfl
        have e7 := c7 u7
        have x0 : w.cell? ⟨bx, 0, none⟩ = some (.int .i64 q0) := by rw [Lib.cell_of_heap cbx]; rfl
        refine wpOp_step rfl (fun K' hK => ?_)
        simp only [Fr15]
        go_simp
        refine hK _ _ ⟨fun j => if j = 8 then .int .i64 q0 else s j, b10, b16, b23, by simpa using hsz, by simp [Fr15, e7], fun h => by rw [getD_set_ne false (by decide)] at h; simpa using c0 h, fun h => by rw [getD_set_ne false (by decide)] at h; simpa using c1 h, fun h => by rw [getD_set_ne false (by decide)] at h; simpa using c2 h, fun h => by rw [getD_set_ne false (by decide)] at h; simpa using c3 h, fun h => by rw [getD_set_ne false (by decide)] at h; exact ⟨getD_set_true (c4 h).1, by simpa using (c4 h).2⟩, fun h => by rw [getD_set_ne false (by decide)] at h; simpa using c5 h, fun h => by rw [getD_set_ne false (by decide)] at h; simpa using c6 h, fun h => by rw [getD_set_ne false (by decide)] at h; simpa using c7 h, fun _ => by simp, fun h => by rw [getD_set_ne false (by decide)] at h; simpa using c9 h, fun h => by rw [getD_set_ne false (by decide)] at h; simpa using c10 h, fun h => by rw [getD_set_ne false (by decide)] at h; exact ⟨getD_set_true (c11 h).1, by simpa using (c11 h).2⟩, fun h => by rw [getD_set_ne false (by decide)] at h; simpa using c12 h, fun h => by rw [getD_set_ne false (by decide)] at h; simpa using c13 h, fun h => by rw [getD_set_ne false (by decide)] at h; exact ⟨getD_set_true (c14 h).1, by simpa using (c14 h).2⟩, fun h => by rw [getD_set_ne false (by decide)] at h; exact c16m h, fun h => by rw [getD_set_ne false (by decide)] at h; exact c16d h, fun h => by rw [getD_set_ne false (by decide)] at h; exact c16f h, cbx, cbl⟩
      · simp at ho
        subst ho
        have u8 : listed.getD 8 false = true := hall ⟨8, .data⟩ (by simp) rfl
        have e8 := c8 u8
        refine wpOp_step rfl (fun K' hK => ?_)
        simp only [Fr15]
        go_simp
        refine hK _ _ ⟨fun j => if j = 9 then .int .i64 hh else s j, b10, b16, b23, by simpa using hsz, by simp [Fr15, e8], fun h => by rw [getD_set_ne false (by decide)] at h; simpa using c0 h, fun h => by rw [getD_set_ne false (by decide)] at h; simpa using c1 h, fun h => by rw [getD_set_ne false (by decide)] at h; simpa using c2 h, fun h => by rw [getD_set_ne false (by decide)] at h; simpa using c3 h, fun h => by rw [getD_set_ne false (by decide)] at h; exact ⟨getD_set_true (c4 h).1, by simpa using (c4 h).2⟩, fun h => by rw [getD_set_ne false (by decide)] at h; simpa using c5 h, fun h => by rw [getD_set_ne false (by decide)] at h; simpa using c6 h, fun h => by rw [getD_set_ne false (by decide)] at h; simpa using c7 h, fun h => by rw [getD_set_ne false (by decide)] at h; simpa using c8 h, fun _ => by simp, fun h => by rw [getD_set_ne false (by decide)] at h; simpa using c10 h, fun h => by rw [getD_set_ne false (by decide)] at h; exact ⟨getD_set_true (c11 h).1, by simpa using (c11 h).2⟩, fun h => by rw [getD_set_ne false (by decide)] at h; simpa using c12 h, fun h => by rw [getD_set_ne false (by decide)] at h; simpa using c13 h, fun h => by rw [getD_set_ne false (by decide)] at h; exact ⟨getD_set_true (c14 h).1, by simpa using (c14 h).2⟩, fun h => by rw [getD_set_ne false (by decide)] at h; exact c16m h, fun h => by rw [getD_set_ne false (by decide)] at h; exact c16d h, fun h => by rw [getD_set_ne false (by decide)] at h; exact c16f h, cbx, cbl⟩
      · simp at ho
        subst ho
        have u9 : listed.getD 9 false = true := hall ⟨9, .data⟩ (by simp) rfl
        have e9 := c9 u9
        refine wpOp_step rfl (fun K' hK => ?_)
        simp only [Fr15]
        go_simp
        refine (Mod_any _ 2 (by decide) (by decide) (by omega) (by omega) _).mono ?_
        rintro e w' ⟨rfl, rfl⟩
        rw [HM2.out]
        refine hK _ _ ⟨fun j => if j = 10 then .int .i64 m2 else s j, b10, b16, b23, by simpa using hsz, by simp [Fr15, e9], fun h => by rw [getD_set_ne false (by decide)] at h; simpa using c0 h, fun h => by rw [getD_set_ne false (by decide)] at h; simpa using c1 h, fun h => by rw [getD_set_ne false (by decide)] at h; simpa using c2 h, fun h => by rw [getD_set_ne false (by decide)] at h; simpa using c3 h, fun h => by rw [getD_set_ne false (by decide)] at h; exact ⟨getD_set_true (c4 h).1, by simpa using (c4 h).2⟩, fun h => by rw [getD_set_ne false (by decide)] at h; simpa using c5 h, fun h => by rw [getD_set_ne false (by decide)] at h; simpa using c6 h, fun h => by rw [getD_set_ne false (by decide)] at h; simpa using c7 h, fun h => by rw [getD_set_ne false (by decide)] at h; simpa using c8 h, fun h => by rw [getD_set_ne false (by decide)] at h; simpa using c9 h, fun _ => by simp, fun h => by rw [getD_set_ne false (by decide)] at h; exact ⟨getD_set_true (c11 h).1, by simpa using (c11 h).2⟩, fun h => by rw [getD_set_ne false (by decide)] at h; simpa using c12 h, fun h => by rw [getD_set_ne false (by decide)] at h; simpa using c13 h, fun h => by rw [getD_set_ne false (by decide)] at h; exact ⟨getD_set_true (c14 h).1, by simpa using (c14 h).2⟩, fun h => by rw [getD_set_ne false (by decide)] at h; exact c16m h, fun h => by rw [getD_set_ne false (by decide)] at h; exact c16d h, fun h => by rw [getD_set_ne false (by decide)] at h; exact c16f h, cbx, cbl⟩
      · simp at ho
        subst ho
        have u6 : listed.getD 6 false = true := hall ⟨6, .data⟩ (by simp) rfl
        have e6 := c6 u6
        have u10 : listed.getD 10 false = true := hall ⟨10, .data⟩ (by simp) rfl
        have e10 := c10 u10
        refine wpOp_step rfl (fun K' hK => ?_)
        simp only [Fr15]
        go_simp
        refine hK _ _ ⟨fun j => if j = 11 then .pointer (some ⟨b16, m2.toNat, none⟩) else s j, b10, b16, b23, by simpa using hsz, by simp [Fr15, e6, e10], fun h => by rw [getD_set_ne false (by decide)] at h; simpa using c0 h, fun h => by rw [getD_set_ne false (by decide)] at h; simpa using c1 h, fun h => by rw [getD_set_ne false (by decide)] at h; simpa using c2 h, fun h => by rw [getD_set_ne false (by decide)] at h; simpa using c3 h, fun h => by rw [getD_set_ne false (by decide)] at h; exact ⟨getD_set_true (c4 h).1, by simpa using (c4 h).2⟩, fun h => by rw [getD_set_ne false (by decide)] at h; simpa using c5 h, fun h => by rw [getD_set_ne false (by decide)] at h; simpa using c6 h, fun h => by rw [getD_set_ne false (by decide)] at h; simpa using c7 h, fun h => by rw [getD_set_ne false (by decide)] at h; simpa using c8 h, fun h => by rw [getD_set_ne false (by decide)] at h; simpa using c9 h, fun h => by rw [getD_set_ne false (by decide)] at h; simpa using c10 h, fun _ => ⟨by rw [getD_set_ne false (by decide)]; exact u6, by simp⟩, fun h => by rw [getD_set_ne false (by decide)] at h; simpa using c12 h, fun h => by rw [getD_set_ne false (by decide)] at h; simpa using c13 h, fun h => by rw [getD_set_ne false (by decide)] at h; exact ⟨getD_set_true (c14 h).1, by simpa using (c14 h).2⟩, fun h => by rw [getD_set_ne false (by decide)] at h; exact c16m h, fun h => by rw [getD_set_ne false (by decide)] at h; exact c16d h, fun h => by rw [getD_set_ne false (by decide)] at h; exact c16f h, cbx, cbl⟩
      · simp at ho
        subst ho
        have u11 : listed.getD 11 false = true := hall ⟨11, .data⟩ (by simp) rfl
        have e11 := (c11 u11).2
        have x0 := cell_tab2d (c16d (c11 u11).1) hm2
        have e6 := c6 (c11 u11).1
        refine wpOp_step rfl (fun K' hK => ?_)
        simp only [Fr15]
        go_simp
        refine hK _ _ ⟨fun j => if j = 12 then .string ⟨(layD m2).toArray⟩ else s j, b10, b16, b23, by simpa using hsz, by simp [Fr15, e11, e6], fun h => by rw [getD_set_ne false (by decide)] at h; simpa using c0 h, fun h => by rw [getD_set_ne false (by decide)] at h; simpa using c1 h, fun h => by rw [getD_set_ne false (by decide)] at h; simpa using c2 h, fun h => by rw [getD_set_ne false (by decide)] at h; simpa using c3 h, fun h => by rw [getD_set_ne false (by decide)] at h; exact ⟨getD_set_true (c4 h).1, by simpa using (c4 h).2⟩, fun h => by rw [getD_set_ne false (by decide)] at h; simpa using c5 h, fun h => by rw [getD_set_ne false (by decide)] at h; simpa using c6 h, fun h => by rw [getD_set_ne false (by decide)] at h; simpa using c7 h, fun h => by rw [getD_set_ne false (by decide)] at h; simpa using c8 h, fun h => by rw [getD_set_ne false (by decide)] at h; simpa using c9 h, fun h => by rw [getD_set_ne false (by decide)] at h; simpa using c10 h, fun h => by rw [getD_set_ne false (by decide)] at h; exact ⟨getD_set_true (c11 h).1, by simpa using (c11 h).2⟩, fun _ => by simp, fun h => by rw [getD_set_ne false (by decide)] at h; simpa using c13 h, fun h => by rw [getD_set_ne false (by decide)] at h; exact ⟨getD_set_true (c14 h).1, by simpa using (c14 h).2⟩, fun h => by rw [getD_set_ne false (by decide)] at h; exact c16m h, fun h => by rw [getD_set_ne false (by decide)] at h; exact c16d h, fun h => by rw [getD_set_ne false (by decide)] at h; exact c16f h, cbx, cbl⟩
      · simp at ho
        subst ho
        have u5 : listed.getD 5 false = true := hall ⟨5, .data⟩ (by simp) rfl
        have e5 := c5 u5
        have u12 : listed.getD 12 false = true := hall ⟨12, .data⟩ (by simp) rfl
        have e12 := c12 u12
        refine wpOp_step rfl (fun K' hK => ?_)
        simp only [Fr15]
        go_simp
        refine hK _ _ ⟨fun j => if j = 13 then .slice (some ⟨w.heap.size, 0, none⟩) 3 3 else s j, b10, b16, w.heap.size, by simpa using hsz, by simp [Fr15, e5, e12], fun h => by rw [getD_set_ne false (by decide)] at h; simpa using c0 h, fun h => by rw [getD_set_ne false (by decide)] at h; simpa using c1 h, fun h => by rw [getD_set_ne false (by decide)] at h; simpa using c2 h, fun h => by rw [getD_set_ne false (by decide)] at h; simpa using c3 h, fun h => by rw [getD_set_ne false (by decide)] at h; exact ⟨getD_set_true (c4 h).1, by simpa using (c4 h).2⟩, fun h => by rw [getD_set_ne false (by decide)] at h; simpa using c5 h, fun h => by rw [getD_set_ne false (by decide)] at h; simpa using c6 h, fun h => by rw [getD_set_ne false (by decide)] at h; simpa using c7 h, fun h => by rw [getD_set_ne false (by decide)] at h; simpa using c8 h, fun h => by rw [getD_set_ne false (by decide)] at h; simpa using c9 h, fun h => by rw [getD_set_ne false (by decide)] at h; simpa using c10 h, fun h => by rw [getD_set_ne false (by decide)] at h; exact ⟨getD_set_true (c11 h).1, by simpa using (c11 h).2⟩, fun h => by rw [getD_set_ne false (by decide)] at h; simpa using c12 h, fun _ => by simp, fun h => by rw [getD_set_ne false (by decide)] at h; exact absurd (c14 h).1 (by rw [hun']; simp), fun h => by rw [getD_set_ne false (by decide)] at h; exact (Below.heap_alloc _ _ _ (Array.getElem?_eq_some_iff.1 (c16m h)).1).trans (c16m h), fun h => by rw [getD_set_ne false (by decide)] at h; exact (Below.heap_alloc _ _ _ (Array.getElem?_eq_some_iff.1 (c16d h)).1).trans (c16d h), fun _ => heap_alloc_new w _, (Below.heap_alloc _ _ _ (Array.getElem?_eq_some_iff.1 cbx).1).trans cbx, cbl.alloc cbl.size _⟩
      · simp at ho
        subst ho
        have u13 : listed.getD 13 false = true := hall ⟨13, .data⟩ (by simp) rfl
        have e13 := c13 u13
        refine wpOp_step rfl (fun K' hK => ?_)
        simp only [Fr15]
        go_simp
        refine hK _ _ ⟨fun j => if j = 14 then .slice (some ⟨b23, 0, none⟩) 3 3 else s j, b10, b16, b23, by simpa using hsz, by simp [Fr15, e13], fun h => by rw [getD_set_ne false (by decide)] at h; simpa using c0 h, fun h => by rw [getD_set_ne false (by decide)] at h; simpa using c1 h, fun h => by rw [getD_set_ne false (by decide)] at h; simpa using c2 h, fun h => by rw [getD_set_ne false (by decide)] at h; simpa using c3 h, fun h => by rw [getD_set_ne false (by decide)] at h; exact ⟨getD_set_true (c4 h).1, by simpa using (c4 h).2⟩, fun h => by rw [getD_set_ne false (by decide)] at h; simpa using c5 h, fun h => by rw [getD_set_ne false (by decide)] at h; simpa using c6 h, fun h => by rw [getD_set_ne false (by decide)] at h; simpa using c7 h, fun h => by rw [getD_set_ne false (by decide)] at h; simpa using c8 h, fun h => by rw [getD_set_ne false (by decide)] at h; simpa using c9 h, fun h => by rw [getD_set_ne false (by decide)] at h; simpa using c10 h, fun h => by rw [getD_set_ne false (by decide)] at h; exact ⟨getD_set_true (c11 h).1, by simpa using (c11 h).2⟩, fun h => by rw [getD_set_ne false (by decide)] at h; simpa using c12 h, fun h => by rw [getD_set_ne false (by decide)] at h; simpa using c13 h, fun _ => ⟨by rw [getD_set_ne false (by decide)]; exact u13, by simp⟩, fun h => by rw [getD_set_ne false (by decide)] at h; exact c16m h, fun h => by rw [getD_set_ne false (by decide)] at h; exact c16d h, fun h => by rw [getD_set_ne false (by decide)] at h; exact c16f h, cbx, cbl⟩
    case hdone =>
      rintro listed a w ⟨s, b10, b16, b23, hsz, rfl, c0, c1, c2, c3, c4, c5, c6, c7, c8, c9, c10, c11, c12, c13, c14, c16m, c16d, c16f, cbx, cbl⟩ hr
      have hup := fun j => all_done (md := .any) (by kernel_rfl) hsz hr j
      have e14 := (c14 (hup 14 (by decide))).2
      have M := c16f (hup 13 (by decide))
      clear c0 c1 c2 c3 c4 c5 c6 c7 c8 c9 c10 c11 c12 c13 c14 c16m c16d c16f hup hr
      simp only [Fr15]
      rw [e14]
      go_wp2_with fail
      go_meet
      exact ⟨b23, rfl, M, cbx, cbl⟩
  obtain ⟨bf, rfl, hF, hQ, hBB⟩ := hcut
  go_upto_region 3 with fail
  have hsix := six wc #[.int .i64 0, .int .i64 1, .int .i64 2] #[.int .i64 0, .int .i64 2, .int .i64 1] #[.int .i64 1, .int .i64 0, .int .i64 2] #[.int .i64 1, .int .i64 2, .int .i64 0] #[.int .i64 2, .int .i64 0, .int .i64 1] #[.int .i64 2, .int .i64 1, .int .i64 0]
    #[.slice (some ⟨wc.heap.size, 0, none⟩) 3 3, .slice (some ⟨wc.heap.size + 1, 0, none⟩) 3 3, .slice (some ⟨wc.heap.size + 1 + 1, 0, none⟩) 3 3, .slice (some ⟨wc.heap.size + 1 + 1 + 1, 0, none⟩) 3 3, .slice (some ⟨wc.heap.size + 1 + 1 + 1 + 1, 0, none⟩) 3 3, .slice (some ⟨wc.heap.size + 1 + 1 + 1 + 1 + 1, 0, none⟩) 3 3] 3 25
  obtain ⟨W2, hW2⟩ : ∃ W2, W2 = (((((((wc.alloc (.cells #[.int .i64 0, .int .i64 1, .int .i64 2] 3)).alloc (.cells #[.int .i64 0, .int .i64 2, .int .i64 1] 3)).alloc (.cells #[.int .i64 1, .int .i64 0, .int .i64 2] 3)).alloc (.cells #[.int .i64 1, .int .i64 2, .int .i64 0] 3)).alloc (.cells #[.int .i64 2, .int .i64 0, .int .i64 1] 3)).alloc (.cells #[.int .i64 2, .int .i64 1, .int .i64 0] 3)).alloc
    (.cells #[.slice (some ⟨wc.heap.size, 0, none⟩) 3 3, .slice (some ⟨wc.heap.size + 1, 0, none⟩) 3 3, .slice (some ⟨wc.heap.size + 1 + 1, 0, none⟩) 3 3, .slice (some ⟨wc.heap.size + 1 + 1 + 1, 0, none⟩) 3 3, .slice (some ⟨wc.heap.size + 1 + 1 + 1 + 1, 0, none⟩) 3 3, .slice (some ⟨wc.heap.size + 1 + 1 + 1 + 1 + 1, 0, none⟩) 3 3] 25)) := ⟨_, rfl⟩
  rw [← hW2] at hsix ⊢
  clear hW2
  obtain ⟨s0, s1, s2, s3, s4, s5, s6, sb, sk⟩ := hsix
  have hF2 := sk _ _ hF
  have hQ2 := sk _ _ hQ
  obtain ⟨o, ho⟩ : ∃ o, q1 % 6 = o := ⟨_, rfl⟩
  have ho0 : 0 ≤ o := by omega
  have ho6 : o < 6 := by omega
  obtain ⟨bo, hbo, hBo⟩ : ∃ bo, W2.cell? ⟨wc.heap.size + 1 + 1 + 1 + 1 + 1 + 1, o.toNat, none⟩ = some (.slice (some ⟨bo, 0, none⟩) 3 3) ∧ W2.heap[bo]? = some (.cells #[.int .i64 (oi 0 o), .int .i64 (oi 1 o), .int .i64 (oi 2 o)] 3 (0, 0)) := by
    have : o = 0 ∨ o = 1 ∨ o = 2 ∨ o = 3 ∨ o = 4 ∨ o = 5 := by omega
    rw [Lib.cell_of_heap s6]
    rcases this with rfl | rfl | rfl | rfl | rfl | rfl
    · exact ⟨_, rfl, s0⟩
    · exact ⟨_, rfl, s1⟩
    · exact ⟨_, rfl, s2⟩
    · exact ⟨_, rfl, s3⟩
    · exact ⟨_, rfl, s4⟩
    · exact ⟨_, rfl, s5⟩
  have HO := Lib.hid ho
  have x1 : W2.cell? ⟨bx, 1, none⟩ = some (.int .i64 q1) := by rw [Lib.cell_of_heap hQ2]; rfl
  have HF2 := Lib.hid hF2; have HQ2 := Lib.hid hQ2; have HBO := Lib.hid hBo
  have HW2 := Lib.hid ((HB0.out.trans (hBB.mono HB0.out.size)).trans (sb.mono (Nat.le_trans HB0.out.size hBB.size)))
  clear s0 s1 s2 s3 s4 s5 s6 sb sk hF hQ hBB hF2 hQ2 hBo ho
  go_wp2_with fail
  refine (Mod_any _ 6 (by decide) (by decide) (by omega) (by omega) _).mono ?_
  rintro e w' ⟨rfl, rfl⟩
  rw [HO.out]
  obtain ⟨sp, hsp⟩ : ∃ sp, q2 % 8 = sp := ⟨_, rfl⟩
  have hs0 : 0 ≤ sp := by omega
  have hs8 : sp < 8 := by omega
  have HSP := Lib.hid hsp
  have x2 : W2.cell? ⟨bx, 2, none⟩ = some (.int .i64 q2) := by rw [Lib.cell_of_heap HQ2.out]; rfl
  have hbl : bx < W2.heap.size := (Array.getElem?_eq_some_iff.1 HQ2.out).1
  have x3 : (W2.alloc (.cells #[.string ⟨#[45]⟩, .string ⟨#[46]⟩, .string ⟨#[47]⟩, .string ⟨#[32]⟩, .string ⟨#[44, 32]⟩, .string ⟨#[120]⟩, .string ⟨#[32, 111, 102, 32]⟩, .string ⟨#[]⟩] 9)).cell? ⟨W2.heap.size, sp.toNat, none⟩ = some (.string ⟨(sepT sp).toArray⟩) := by
    rw [Lib.cell_of_heap (heap_alloc_new W2 _)]
    have : sp = 0 ∨ sp = 1 ∨ sp = 2 ∨ sp = 3 ∨ sp = 4 ∨ sp = 5 ∨ sp = 6 ∨ sp = 7 := by omega
    rcases this with rfl | rfl | rfl | rfl | rfl | rfl | rfl | rfl <;> rfl
  clear hsp
  go_wp2_with fail
  refine (Mod_any _ 8 (by decide) (by decide) (by omega) (by omega) _).mono ?_
  rintro e w' ⟨rfl, rfl⟩
  rw [HSP.out]
  obtain ⟨W3, hW3⟩ : ∃ W3, (W2.alloc (.cells #[.string ⟨#[45]⟩, .string ⟨#[46]⟩, .string ⟨#[47]⟩, .string ⟨#[32]⟩, .string ⟨#[44, 32]⟩, .string ⟨#[120]⟩, .string ⟨#[32, 111, 102, 32]⟩, .string ⟨#[]⟩] 9)) = W3 := ⟨_, rfl⟩
  rw [hW3] at x3 ⊢
  have HB3 := Lib.hid (show Below w.heap.size w W3 by rw [← hW3]; exact HW2.out.alloc HW2.out.size _)
  have hF3 : W3.heap[bf]? = some (.cells #[.string ⟨yyyy.toArray⟩, .string ⟨(layM m1).toArray⟩, .string ⟨(layD m2).toArray⟩] 9 (0, 0)) := by
    rw [← hW3, Below.heap_alloc _ _ _ (Array.getElem?_eq_some_iff.1 HF2.out).1]; exact HF2.out
  have hO3 : W3.heap[bo]? = some (.cells #[.int .i64 (oi 0 o), .int .i64 (oi 1 o), .int .i64 (oi 2 o)] 3 (0, 0)) := by
    rw [← hW3, Below.heap_alloc _ _ _ (Array.getElem?_eq_some_iff.1 HBO.out).1]; exact HBO.out
  have hQ3 : W3.heap[bx]? = some (.cells #[.int .i64 q0, .int .i64 q1, .int .i64 q2] 22 (0, 0)) := by
    rw [← hW3, Below.heap_alloc _ _ _ (Array.getElem?_eq_some_iff.1 HQ2.out).1]; exact HQ2.out
  have y0 : W3.cell? ⟨bo, 0, none⟩ = some (.int .i64 (oi 0 o)) := by rw [Lib.cell_of_heap hO3]; rfl
  have y1 : W3.cell? ⟨bo, 1, none⟩ = some (.int .i64 (oi 1 o)) := by rw [Lib.cell_of_heap hO3]; rfl
  have y2 : W3.cell? ⟨bo, 2, none⟩ = some (.int .i64 (oi 2 o)) := by rw [Lib.cell_of_heap hO3]; rfl
  have p0 := oi_bd 0 ho0 ho6
  have p1 := oi_bd 1 ho0 ho6
  have p2 := oi_bd 2 ho0 ho6
  have z0 := cell_fT (m1 := m1) (m2 := m2) hF3 p0
  have z1 := cell_fT (m1 := m1) (m2 := m2) hF3 p1
  have z2 := cell_fT (m1 := m1) (m2 := m2) hF3 p2
  obtain ⟨j0, hj0⟩ : ∃ j, oi 0 o = j := ⟨_, rfl⟩
  obtain ⟨j1, hj1⟩ : ∃ j, oi 1 o = j := ⟨_, rfl⟩
  obtain ⟨j2, hj2⟩ : ∃ j, oi 2 o = j := ⟨_, rfl⟩
  rw [hj0] at y0 z0 p0
  rw [hj1] at y1 z1 p1
  rw [hj2] at y2 z2 p2
  obtain ⟨p00, p01⟩ := p0
  obtain ⟨p10, p11⟩ := p1
  obtain ⟨p20, p21⟩ := p2
  have lf0 := fT_len m1 m2 j0
  have lf1 := fT_len m1 m2 j1
  have lf2 := fT_len m1 m2 j2
  have lsp := sepT_len sp
  have HJ := Lib.hid (show oi 0 o = j0 ∧ oi 1 o = j1 ∧ oi 2 o = j2 from ⟨hj0, hj1, hj2⟩)
  clear hW3 hF3 hO3 hj0 hj1 hj2 x1 x2
  have hqq : -9223372036854775808 ≤ q2.tdiv 8 ∧ q2.tdiv 8 ≤ 9223372036854775807 := by
    have : q2.tdiv 8 = if 0 ≤ q2 ∨ 8 ∣ q2 then q2 / 8 else q2 / 8 + 1 := by rw [Int.tdiv_eq_ediv]; split <;> simp
    rw [this]; split <;> omega
  obtain ⟨qq0, qq1⟩ := hqq
  have hcw : wild = false ∨ wild = true := by cases wild <;> simp
  rcases hcw with rfl | rfl
  · by_cases h7 : sp = 7
    · subst h7
      have e7 : sepT 7 = [] := rfl
      rw [e7] at x3
      have x4 : W3.cell? ⟨W2.heap.size, 7, none⟩ = some (.string ⟨#[]⟩) := x3
      clear x3
      go_wp2_with fail
      go_quiet (fail)
      go_wp2_with fail
      go_ret
      refine ⟨?_, below_drewN HB3.out _⟩
      rw [layW_false, layS_eq HO.out HSP.out HM1.out HM2.out HHH.out HJ.out (show sepW 7 = [95] from rfl)]
      exact str5 _ _ _ _ _
    · have hse : (sepT sp == []) = false := sepT_ne hs0 hs8 h7
      have hse2 : (sepT sp).isEmpty = false := by cases h : sepT sp <;> simp [h] at hse ⊢
      go_wp2_with fail
      go_quiet (fail)
      go_wp2_with fail
      go_ret
      refine ⟨?_, below_drewN HB3.out _⟩
      rw [layW_false, layS_eq HO.out HSP.out HM1.out HM2.out HHH.out HJ.out (show sepW sp = sepT sp by simp [sepW, h7])]
      exact str5 _ _ _ _ _
  · have x2' : W3.cell? ⟨bx, 2, none⟩ = some (.int .i64 q2) := by rw [Lib.cell_of_heap hQ3]; rfl
    by_cases h7 : sp = 7
    · subst h7
      have e7 : sepT 7 = [] := rfl
      rw [e7] at x3
      have x4 : W3.cell? ⟨W2.heap.size, 7, none⟩ = some (.string ⟨#[]⟩) := x3
      clear x3
      go_wp2_with fail
      go_quiet (fail)
      go_wp2_with fail
      refine (Mod_any (q2.tdiv 8) 9 (by decide) (by decide) qq0 qq1 _).mono ?_
      rintro e w' ⟨rfl, rfl⟩
      obtain ⟨c, hc⟩ : ∃ c, q2.tdiv 8 % 9 = c := ⟨_, rfl⟩
      have hcc : c = 0 ∨ c = 1 ∨ c = 2 ∨ c = 3 ∨ c = 4 ∨ c = 5 ∨ c = 6 ∨ c = 7 ∨ c = 8 := by omega
      rw [hc]
      have HC := Lib.hid hc
      clear hc
      rcases hcc with rfl | rfl | rfl | rfl | rfl | rfl | rfl | rfl | rfl
      · go_wp2_with fail
        go_ret
        refine ⟨?_, below_drewN HB3.out _⟩
        rw [layW_true HC.out, layC_eq HO.out HSP.out HM1.out HM2.out HHH.out HJ.out (show sepT 7 = [] from rfl)]
        exact str6 _ _ _ _ _ [68]
      · go_wp2_with fail
        go_ret
        refine ⟨?_, below_drewN HB3.out _⟩
        rw [layW_true HC.out, layC_eq HO.out HSP.out HM1.out HM2.out HHH.out HJ.out (show sepT 7 = [] from rfl)]
        exact str6l [89] _ _ _ _ _
      · go_wp2_with fail
        go_ret
        refine ⟨?_, below_drewN HB3.out _⟩
        rw [layW_true HC.out, layC_eq HO.out HSP.out HM1.out HM2.out HHH.out HJ.out (show sepT 7 = [] from rfl)]
        exact str6 _ _ _ _ _ [49]
      · go_wp2_with fail
        go_quiet (fail)
        go_wp2_with fail
        go_ret
        refine ⟨?_, below_drewN (below_drewN HB3.out _) _⟩
        rw [layW_true HC.out, layC_eq HO.out HSP.out HM1.out HM2.out HHH.out HJ.out (show sepT 7 = [] from rfl)]
        exact str3 _ _ _
      · go_wp2_with fail
        go_ret
        refine ⟨?_, below_drewN HB3.out _⟩
        rw [layW_true HC.out, layC_eq HO.out HSP.out HM1.out HM2.out HHH.out HJ.out (show sepT 7 = [] from rfl)]
        exact str6 _ _ _ _ _ [10]
      · go_wp2_with fail
        go_ret
        refine ⟨?_, below_drewN HB3.out _⟩
        rw [layW_true HC.out, layC_eq HO.out HSP.out HM1.out HM2.out HHH.out HJ.out (show sepT 7 = [] from rfl)]
        exact str6l [100, 97, 121, 58, 32] _ _ _ _ _
      · go_wp2_with fail
        go_ret
        refine ⟨?_, below_drewN HB3.out _⟩
        rw [layW_true HC.out, layC_eq HO.out HSP.out HM1.out HM2.out HHH.out HJ.out (show sepT 7 = [] from rfl)]
        exact str6 _ _ _ _ _ (List.replicate 36 46)
      · go_wp2_with fail
        go_ret
        refine ⟨?_, below_drewN HB3.out _⟩
        rw [layW_true HC.out, layC_eq HO.out HSP.out HM1.out HM2.out HHH.out HJ.out (show sepT 7 = [] from rfl)]
        exact str5 _ _ _ _ _
      · go_wp2_with fail
        go_ret
        refine ⟨?_, below_drewN HB3.out _⟩
        rw [layW_true HC.out, layC_eq HO.out HSP.out HM1.out HM2.out HHH.out HJ.out (show sepT 7 = [] from rfl)]
        exact str5 _ _ _ _ _
    · have hse : (sepT sp == []) = false := sepT_ne hs0 hs8 h7
      have hse2 : (sepT sp).isEmpty = false := by cases h : sepT sp <;> simp [h] at hse ⊢
      go_wp2_with fail
      go_quiet (fail)
      go_wp2_with fail
      refine (Mod_any (q2.tdiv 8) 9 (by decide) (by decide) qq0 qq1 _).mono ?_
      rintro e w' ⟨rfl, rfl⟩
      obtain ⟨c, hc⟩ : ∃ c, q2.tdiv 8 % 9 = c := ⟨_, rfl⟩
      have hcc : c = 0 ∨ c = 1 ∨ c = 2 ∨ c = 3 ∨ c = 4 ∨ c = 5 ∨ c = 6 ∨ c = 7 ∨ c = 8 := by omega
      rw [hc]
      have HC := Lib.hid hc
      clear hc
      rcases hcc with rfl | rfl | rfl | rfl | rfl | rfl | rfl | rfl | rfl
      · go_wp2_with fail
        go_ret
        refine ⟨?_, below_drewN HB3.out _⟩
        rw [layW_true HC.out, layC_eq HO.out HSP.out HM1.out HM2.out HHH.out HJ.out (show sepT sp = sepT sp from rfl)]
        exact str6 _ _ _ _ _ [68]
      · go_wp2_with fail
        go_ret
        refine ⟨?_, below_drewN HB3.out _⟩
        rw [layW_true HC.out, layC_eq HO.out HSP.out HM1.out HM2.out HHH.out HJ.out (show sepT sp = sepT sp from rfl)]
        exact str6l [89] _ _ _ _ _
      · go_wp2_with fail
        go_ret
        refine ⟨?_, below_drewN HB3.out _⟩
        rw [layW_true HC.out, layC_eq HO.out HSP.out HM1.out HM2.out HHH.out HJ.out (show sepT sp = sepT sp from rfl)]
        exact str6 _ _ _ _ _ [49]
      · go_wp2_with fail
        go_quiet (fail)
        go_wp2_with fail
        go_ret
        refine ⟨?_, below_drewN (below_drewN HB3.out _) _⟩
        rw [layW_true HC.out, layC_eq HO.out HSP.out HM1.out HM2.out HHH.out HJ.out (show sepT sp = sepT sp from rfl)]
        exact str3 _ _ _
      · go_wp2_with fail
        go_ret
        refine ⟨?_, below_drewN HB3.out _⟩
        rw [layW_true HC.out, layC_eq HO.out HSP.out HM1.out HM2.out HHH.out HJ.out (show sepT sp = sepT sp from rfl)]
        exact str6 _ _ _ _ _ [10]
      · go_wp2_with fail
        go_ret
        refine ⟨?_, below_drewN HB3.out _⟩
        rw [layW_true HC.out, layC_eq HO.out HSP.out HM1.out HM2.out HHH.out HJ.out (show sepT sp = sepT sp from rfl)]
        exact str6l [100, 97, 121, 58, 32] _ _ _ _ _
      · go_wp2_with fail
        go_ret
        refine ⟨?_, below_drewN HB3.out _⟩
        rw [layW_true HC.out, layC_eq HO.out HSP.out HM1.out HM2.out HHH.out HJ.out (show sepT sp = sepT sp from rfl)]
        exact str6 _ _ _ _ _ (List.replicate 36 46)
      · go_wp2_with fail
        go_ret
        refine ⟨?_, below_drewN HB3.out _⟩
        rw [layW_true HC.out, layC_eq HO.out HSP.out HM1.out HM2.out HHH.out HJ.out (show sepT sp = sepT sp from rfl)]
        exact str5 _ _ _ _ _
      · go_wp2_with fail
        go_ret
        refine ⟨?_, below_drewN HB3.out _⟩
        rw [layW_true HC.out, layC_eq HO.out HSP.out HM1.out HM2.out HHH.out HJ.out (show sepT sp = sepT sp from rfl)]
        exact str5 _ _ _ _ _
end Go.Proofs.Ytfoifnhakmfefaa
