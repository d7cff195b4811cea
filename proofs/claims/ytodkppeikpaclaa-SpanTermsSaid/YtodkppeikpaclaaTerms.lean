/- 'tithinglaw05.SpanTerms' returns true at every input: the walk, the row. -/
import Derived.Test.YtodkppeikpaclaaSpnS
import Derived.Test.YtodkppeikpaclaaSpnR
import Derived.Test.YtodkppeikpaclaaSpnM
import Derived.Test.YtodkppeikpaclaaArr
import Derived.Test.YtodkppeikpaclaaSpnQ
namespace Go.Proofs.Ytodkppeikpaclaa.spanTerms
open Go.ChangeShapes Go.Shelf Go.WideShapes Go.ChangeAt Go.RowKit
open Spn Go.Sort
set_option linter.unusedVariables false

theorem made_term {l : List Sp} (h : ∀ s ∈ l, madeP s) {d n : Int} (d0 : 0 ≤ d) (d1 : d ≤ 1000) (n0 : 0 ≤ n) (n1 : n ≤ 1000) :
    cntOk l d n = true ∧ cntN l d n = cntN l d n ∧ Term l d n (cntN l d n) ∧ d ≤ cntN l d n ∧ cntN l d n ≤ d + 70 + n := by
  have ht := endT_term l (d := d) n0
  have hn := end_near h ht d0 (by omega) n0 (by omega)
  obtain ⟨a, b⟩ := cnt_have (l := l) (d := d) (n := n) (by omega) (by omega) (by omega)
  rw [b]
  exact ⟨a, rfl, ht, ht.le, hn⟩
/-- l has the days of a, and is made of made spans -/
def moreS (a l : List Sp) : Prop := (∀ d, hasB a d = true → hasB l d = true) ∧ ∀ s ∈ l, madeP s
theorem moreS_append {a b : List Sp} (ha : ∀ s ∈ a, madeP s) (hb : ∀ s ∈ b, madeP s) : moreS a (a ++ b) :=
  ⟨fun d h => by rw [hasB_append, h]; rfl, fun s hs => (List.mem_append.1 hs).elim (ha s) (hb s)⟩
def FrT (B bm : Nat) (va : Value) (la : List Sp) (F p mid m0 m1 : Int) (t0 t1 t2 t5 t6 t7 t11 t12 t13 t14 t15 t16 t17 t18 t19 t22 t23 t24 t25 t26 t27 t28 t29 t30 t31 t32 t33 t34 t35 t36 t37 t38 t39 t40 t41 t42 t43 t44 t45 t46 t47 t48 t49 t50 t51 t52 t53 t54 t55 t56 t57 t58 t59 t60 t61 t62 t63 t64 t65 t66 t67 t68 t69 t70 t71 t72 t73 t74 t75 t76 t77 t78 t79 t80 t81 t82 : Value) (s : Nat → Value) : Array Value := #[t0, t1, t2, undef, .pointer (some ⟨bm, 0, none⟩), t5, t6, t7, va, .int .i64 F, .int .i64 p, t11, t12, t13, t14, t15, t16, t17, t18, t19, s 13, s 14, t22, t23, t24, t25, t26, t27, t28, t29, t30, t31, t32, t33, t34, t35, t36, t37, t38, t39, t40, t41, t42, t43, t44, t45, t46, t47, t48, t49, t50, t51, t52, t53, t54, t55, t56, t57, t58, t59, t60, t61, t62, t63, t64, t65, t66, t67, t68, t69, t70, t71, t72, t73, t74, t75, t76, t77, t78, t79, t80, t81, t82, s 10, s 0, s 1, s 2, s 3, s 4, s 5, s 6, s 7, s 8, s 9, s 11, s 12, undef, undef, undef, undef, undef, undef, undef, undef, undef, undef, undef, undef, undef, undef, undef, undef, undef, undef, undef, undef, undef, undef]
def InT (B bm : Nat) (va : Value) (la : List Sp) (F p mid m0 m1 : Int) (t0 t1 t2 t5 t6 t7 t11 t12 t13 t14 t15 t16 t17 t18 t19 t22 t23 t24 t25 t26 t27 t28 t29 t30 t31 t32 t33 t34 t35 t36 t37 t38 t39 t40 t41 t42 t43 t44 t45 t46 t47 t48 t49 t50 t51 t52 t53 t54 t55 t56 t57 t58 t59 t60 t61 t62 t63 t64 t65 t66 t67 t68 t69 t70 t71 t72 t73 t74 t75 t76 t77 t78 t79 t80 t81 t82 : Value) (W0 : World) (listed : Array Bool) (a : Act) (w : World) : Prop :=
  ∃ (s : Nat → Value) (b0 b4 : Nat), listed.size = 15 ∧ a = { tmps := FrT B bm va la F p mid m0 m1 t0 t1 t2 t5 t6 t7 t11 t12 t13 t14 t15 t16 t17 t18 t19 t22 t23 t24 t25 t26 t27 t28 t29 t30 t31 t32 t33 t34 t35 t36 t37 t38 t39 t40 t41 t42 t43 t44 t45 t46 t47 t48 t49 t50 t51 t52 t53 t54 t55 t56 t57 t58 t59 t60 t61 t62 t63 t64 t65 t66 t67 t68 t69 t70 t71 t72 t73 t74 t75 t76 t77 t78 t79 t80 t81 t82 s, defers := [] } ∧
    (listed.getD 0 false = true → s 0 = .slice (some ⟨b0, 0, none⟩) 0 0) ∧
    (listed.getD 0 false = true → listed.getD 2 false = false → (w.heap[b0]? = some (.cells #[] 33 (0, 0)) ∧ B ≤ b0)) ∧
    (listed.getD 1 false = true → s 1 = va) ∧
    (listed.getD 2 false = true → listed.getD 6 false = false → w.ownsRow B 33 2 (s 2) la.length (cells2 la)) ∧
    (listed.getD 3 false = true → s 3 = .agg #[.int .i64 m0, .int .i64 m1]) ∧
    (listed.getD 4 false = true → s 4 = .slice (some ⟨b4, 0, none⟩) 1 1) ∧
    (listed.getD 4 false = true → listed.getD 5 false = false → w.heap[b4]? = some (.cells #[.int .i64 m0, .int .i64 m1] 30 (0, 0))) ∧
    (listed.getD 5 false = true → listed.getD 6 false = false → (∃ l, Lst w (s 5) l ∧ l.length ≤ 8 ∧ ∀ x ∈ l, madeP x)) ∧
    (listed.getD 6 false = true → listed.getD 9 false = false → (∃ l, Lst w (s 6) l ∧ l.length ≤ 16 ∧ moreS la l)) ∧
    (listed.getD 7 false = true → s 7 = .int .i64 F) ∧
    (listed.getD 8 false = true → s 8 = .int .i64 p) ∧
    (listed.getD 9 false = true → (∃ y, s 9 = .tuple #[.int .i64 y, .bool true] ∧ mid ≤ y ∧ y ≤ 3652058)) ∧
    (listed.getD 10 false = true → (∃ y, s 10 = .tuple #[.int .i64 y, .bool true] ∧ mid ≤ y ∧ y ≤ 3652058)) ∧
    (listed.getD 11 false = true → (∃ y, s 11 = .int .i64 y ∧ mid ≤ y ∧ y ≤ 3652058)) ∧
    (listed.getD 12 false = true → s 12 = .bool true) ∧
    (listed.getD 13 false = true → (∃ y, s 13 = .int .i64 y ∧ mid ≤ y ∧ y ≤ 3652058)) ∧
    (listed.getD 14 false = true → s 14 = .bool true) ∧
    (listed.getD 5 false = true → listed.getD 2 false = true) ∧
    (listed.getD 6 false = true → listed.getD 2 false = true) ∧
    (listed.getD 6 false = true → listed.getD 5 false = true) ∧
    w.heap[bm]? = some (.cells #[.int .i64 m0, .int .i64 m1] 30 (0, 0)) ∧
    Below B W0 w
set_option maxHeartbeats 4000000 in
set_option maxRecDepth 100000 in
theorem walk (x : Value) (m0 m1 n0 n1 n2 n3 : Int) (w : World) (ha : ArgP w x) (g0 : inI m0) (g1 : inI m1) (h0 : inI n0) (h1 : inI n1) (h2 : inI n2) (h3 : inI n3) : Calls Try.prog 10 #[x, .agg #[.int .i64 m0, .int .i64 m1], .agg #[.int .i64 n0, .int .i64 n1, .int .i64 n2, .int .i64 n3]] w fun e w' => e = .returned (.bool true) ∧ Below w.heap.size w w' := by
  have b1 := (Below.refl w.heap.size w).alloc (Nat.le_refl _) (.cells #[.int .i64 m0, .int .i64 m1] 30)
  have b2 := b1.alloc (Nat.le_trans (Nat.le_refl _) b1.size) (.cells #[.int .i64 n0, .int .i64 n1, .int .i64 n2, .int .i64 n3] 44)
  have HA := Lib.hid (ha.up b2)
  have HB := Lib.hid b2
  have KM : Hid (((w.alloc (.cells #[.int .i64 m0, .int .i64 m1] 30)).alloc (.cells #[.int .i64 n0, .int .i64 n1, .int .i64 n2, .int .i64 n3] 44)).heap[w.heap.size]? = some (.cells #[.int .i64 m0, .int .i64 m1] 30 (0, 0))) := Lib.hid (al_old (heap_alloc_new w _))
  have KN : Hid (((w.alloc (.cells #[.int .i64 m0, .int .i64 m1] 30)).alloc (.cells #[.int .i64 n0, .int .i64 n1, .int .i64 n2, .int .i64 n3] 44)).heap[w.heap.size + 1]? = some (.cells #[.int .i64 n0, .int .i64 n1, .int .i64 n2, .int .i64 n3] 44 (0, 0))) := Lib.hid (al_new (by simp))
  have l0 := h0.1; have u0 := h0.2
  have l1 := h1.1; have u1 := h1.2
  have l2 := h2.1; have u2 := h2.2
  have l3 := h3.1; have u3 := h3.2
  clear b1 b2 ha h0 h1 h2 h3
  go_enter Try.func10, Try.ntmps10
  go_wp2_with fail
  refine (sanity_any _).mono ?_
  rintro e w1 ⟨rfl, hb⟩
  have HB := Lib.hid (HB.out.trans (hb.mono HB.out.size))
  have HA := Lib.hid (HA.out.up hb)
  have KM := Lib.hid (heap_up hb KM.out)
  have KN := Lib.hid (heap_up hb KN.out)
  clear hb
  go_wp2_with fail
  refine (Made_any _ _ HA.out).mono ?_
  rintro e w2 ⟨va, la, rfl, hl, hna8, hm, hb⟩
  have HB := Lib.hid (HB.out.trans (hb.mono HB.out.size))
  have HA := Lib.hid (HA.out.up hb)
  have KM := Lib.hid (heap_up hb KM.out)
  have KN := Lib.hid (heap_up hb KN.out)
  have HX := Lib.hid hl; have HMA := Lib.hid hm
  have hna : la.length ≤ 10000 := by omega
  clear hl hm HA
  clear hb
  have c0 : w2.cell? ⟨w.heap.size + 1, 0, none⟩ = some (.int .i64 n0) := by rw [Lib.cell_of_heap KN.out]; rfl
  have c1 : w2.cell? ⟨w.heap.size + 1, 1, none⟩ = some (.int .i64 n1) := by rw [Lib.cell_of_heap KN.out]; rfl
  have c2 : w2.cell? ⟨w.heap.size + 1, 2, none⟩ = some (.int .i64 n2) := by rw [Lib.cell_of_heap KN.out]; rfl
  have c3 : w2.cell? ⟨w.heap.size + 1, 3, none⟩ = some (.int .i64 n3) := by rw [Lib.cell_of_heap KN.out]; rfl
  have F0 : 0 ≤ n3 % 100 := by omega
  have F1 : n3 % 100 < 100 := by omega
  obtain ⟨F, hF⟩ : ∃ x, n3 % 100 = x := ⟨_, rfl⟩
  rw [hF] at F0 F1
  have HF := Lib.hid hF
  clear hF
  have p0 : 0 ≤ n0 % 40 := by omega
  have p1 : n0 % 40 < 40 := by omega
  obtain ⟨p, hp⟩ : ∃ x, n0 % 40 = x := ⟨_, rfl⟩
  rw [hp] at p0 p1
  have Hp := Lib.hid hp
  clear hp
  have q0 : 0 ≤ n1 % 40 := by omega
  have q1 : n1 % 40 < 40 := by omega
  obtain ⟨q, hq⟩ : ∃ x, n1 % 40 = x := ⟨_, rfl⟩
  rw [hq] at q0 q1
  have Hq := Lib.hid hq
  clear hq
  have r0 : 0 ≤ n2 % 40 := by omega
  have r1 : n2 % 40 < 40 := by omega
  obtain ⟨r, hr⟩ : ∃ x, n2 % 40 = x := ⟨_, rfl⟩
  rw [hr] at r0 r1
  have Hr := Lib.hid hr
  clear hr
  go_wp2_with fail
  refine (rMod_any n3 100 (by decide) (by decide) l3 u3 _).mono ?_
  rintro e w9 ⟨rfl, rfl⟩
  rw [HF.out]
  go_wp2_with fail
  refine (rMod_any n0 40 (by decide) (by decide) l0 u0 _).mono ?_
  rintro e w9 ⟨rfl, rfl⟩
  rw [Hp.out]
  go_wp2_with fail
  refine (rMod_any n1 40 (by decide) (by decide) l1 u1 _).mono ?_
  rintro e w9 ⟨rfl, rfl⟩
  rw [Hq.out]
  obtain ⟨mid, HM⟩ : ∃ y, Hid (cntOk la F p = true ∧ cntN la F p = y ∧ Term la F p y ∧ F ≤ y ∧ y ≤ F + 70 + p) := ⟨_, Lib.hid (made_term HMA.out (by omega) (by omega) (by omega) (by omega))⟩
  have hm0 := HM.out.2.2.2.1; have hm1 := HM.out.2.2.2.2
  obtain ⟨fin, HE⟩ : ∃ y, Hid (cntOk la mid q = true ∧ cntN la mid q = y ∧ Term la mid q y ∧ mid ≤ y ∧ y ≤ mid + 70 + q) := ⟨_, Lib.hid (made_term HMA.out (by omega) (by omega) (by omega) (by omega))⟩
  have he0 := HE.out.2.2.2.1; have he1 := HE.out.2.2.2.2
  have HW : Hid (cntOk la F (p + q) = true ∧ cntN la F (p + q) = fin) := Lib.hid (by
    obtain ⟨a1, a2, a3, -, -⟩ := made_term (n := p + q) HMA.out F0 (by omega) (by omega) (by omega)
    exact ⟨a1, a3.same (HM.out.2.2.1.cut HE.out.2.2.1)⟩)
  obtain ⟨lat, HL⟩ : ∃ y, Hid (cntOk la (F + r) p = true ∧ cntN la (F + r) p = y ∧ Term la (F + r) p y ∧ F + r ≤ y ∧ y ≤ F + r + 70 + p) := ⟨_, Lib.hid (made_term HMA.out (by omega) (by omega) (by omega) (by omega))⟩
  have hl0 : mid ≤ lat := HM.out.2.2.1.later HL.out.2.2.1 (by omega)
  have hl1 := HL.out.2.2.2.2
  have HMORE : Hid (∀ l, moreS la l → cntOk l F p = true ∧ mid ≤ cntN l F p ∧ cntN l F p ≤ 3652058) := Lib.hid (fun l hl => by
    obtain ⟨a1, a2, a3, a4, a5⟩ := made_term (n := p) hl.2 F0 (by omega) (by omega) (by omega)
    exact ⟨a1, HM.out.2.2.1.more a3 hl.1, by omega⟩)
  go_wp2_with fail
  refine (Count_any _ la F p _ hna HX.out).mono ?_
  rintro e w21 ⟨rfl, hb⟩
  have HB := Lib.hid (HB.out.trans (hb.mono HB.out.size))
  have HX := Lib.hid (HX.out.up hb)
  have KM := Lib.hid (heap_up hb KM.out)
  have KN := Lib.hid (heap_up hb KN.out)
  rw [HM.out.1, HM.out.2.1]
  clear hb
  go_wp2_with fail
  refine (Count_any _ la mid q _ hna HX.out).mono ?_
  rintro e w22 ⟨rfl, hb⟩
  have HB := Lib.hid (HB.out.trans (hb.mono HB.out.size))
  have HX := Lib.hid (HX.out.up hb)
  have KM := Lib.hid (heap_up hb KM.out)
  have KN := Lib.hid (heap_up hb KN.out)
  rw [HE.out.1, HE.out.2.1]
  clear hb
  go_wp2_with fail
  refine (Count_any _ la F (p + q) _ hna HX.out).mono ?_
  rintro e w23 ⟨rfl, hb⟩
  have HB := Lib.hid (HB.out.trans (hb.mono HB.out.size))
  have HX := Lib.hid (HX.out.up hb)
  have KM := Lib.hid (heap_up hb KM.out)
  have KN := Lib.hid (heap_up hb KN.out)
  rw [HW.out.1, HW.out.2]
  clear hb
  have c2 : w23.cell? ⟨w.heap.size + 1, 2, none⟩ = some (.int .i64 n2) := by rw [Lib.cell_of_heap KN.out]; rfl
  go_wp2_with fail
  refine (rMod_any n2 40 (by decide) (by decide) l2 u2 _).mono ?_
  rintro e w9 ⟨rfl, rfl⟩
  rw [Hr.out]
  go_wp2_with fail
  refine (Count_any _ la (F + r) p _ hna HX.out).mono ?_
  rintro e w24 ⟨rfl, hb⟩
  have HB := Lib.hid (HB.out.trans (hb.mono HB.out.size))
  have HX := Lib.hid (HX.out.up hb)
  have KM := Lib.hid (heap_up hb KM.out)
  have KN := Lib.hid (heap_up hb KN.out)
  rw [HL.out.1, HL.out.2.1]
  clear hb
  go_wp2_with fail
  clear c2
  have KM := KM.out
  have hlt : w.heap.size < w24.heap.size := (Array.getElem?_eq_some_iff.1 KM).1
  obtain ⟨B, hBe⟩ : ∃ B, w24.heap.size = B := ⟨_, rfl⟩
  obtain ⟨bm, hbme⟩ : ∃ b, w.heap.size = b := ⟨_, rfl⟩
  have hBW : B ≤ w24.heap.size := Nat.le_of_eq hBe.symm
  have M0 := g0; have M1 := g1
  have BMK : w24.heap[bm]? = some (.cells #[.int .i64 m0, .int .i64 m1] 30 (0, 0)) := by rw [← hbme]; exact KM
  have hbB : bm < B := by omega
  have HFB := Lib.hid HB.out
  rw [hbme]
  refine wp_region_inv (InT B bm va la F p mid m0 m1 (x) (Value.agg #[Value.int IntKind.i64 m0, Value.int IntKind.i64 m1]) (.agg #[.int .i64 n0, .int .i64 n1, .int .i64 n2, .int .i64 n3]) (Value.pointer (some ⟨bm + 1, 0, Option.none⟩)) (Value.bool false) (Value.bool true) (Value.int IntKind.i64 q) (Value.int IntKind.i64 mid) (Value.bool true) (Value.int IntKind.i64 fin) (Value.bool true) (Value.int IntKind.i64 fin) (Value.bool true) (Value.int IntKind.i64 lat) (Value.bool true) (Value.bool true) (x) (va) (Value.pointer (some ⟨bm + 1, 3, Option.none⟩)) (Value.int IntKind.i64 n3) (Value.int IntKind.i64 F) (Value.pointer (some ⟨bm + 1, 0, Option.none⟩)) (Value.int IntKind.i64 n0) (Value.int IntKind.i64 p) (Value.pointer (some ⟨bm + 1, 1, Option.none⟩)) (Value.int IntKind.i64 n1) (Value.int IntKind.i64 q) (Value.tuple #[Value.int IntKind.i64 mid, Value.bool true]) (va) (Value.int IntKind.i64 F) (Value.int IntKind.i64 p) (Value.tuple #[Value.int IntKind.i64 mid, Value.bool true]) (Value.int IntKind.i64 mid) (Value.bool true) (Value.tuple #[Value.int IntKind.i64 fin, Value.bool true]) (va) (Value.int IntKind.i64 mid) (Value.int IntKind.i64 q) (Value.tuple #[Value.int IntKind.i64 fin, Value.bool true]) (Value.int IntKind.i64 fin) (Value.bool true) (Value.tuple #[Value.int IntKind.i64 fin, Value.bool true]) (va) (Value.int IntKind.i64 F) (Value.int IntKind.i64 p) (Value.int IntKind.i64 q) (Value.int IntKind.i64 (p + q)) (Value.tuple #[Value.int IntKind.i64 fin, Value.bool true]) (Value.int IntKind.i64 fin) (Value.bool true) (Value.bool true) (Value.bool false) (Value.bool false) (Value.bool true) (Value.bool false) (Value.bool false) (Value.bool false) (Value.bool true) (Value.bool false) (Value.bool false) (Value.bool false) (Value.int IntKind.i64 fin) (Value.int IntKind.i64 fin) (Value.bool false) (Value.bool false) (Value.tuple #[Value.int IntKind.i64 lat, Value.bool true]) (va) (Value.int IntKind.i64 F) (Value.pointer (some ⟨bm + 1, 2, Option.none⟩)) (Value.int IntKind.i64 n2) (Value.int IntKind.i64 r) (Value.int IntKind.i64 (F + r)) (Value.int IntKind.i64 p) (Value.tuple #[Value.int IntKind.i64 lat, Value.bool true]) (Value.int IntKind.i64 lat) (Value.bool true) w24) (by kernel_rfl) ?h0 ?hstep ?hdone
  case h0 => exact ⟨fun _ => undef, 0, 0, rfl, rfl, (fun h => absurd h (by simp)), (fun h => absurd h (by simp)), (fun h => absurd h (by simp)), (fun h => absurd h (by simp)), (fun h => absurd h (by simp)), (fun h => absurd h (by simp)), (fun h => absurd h (by simp)), (fun h => absurd h (by simp)), (fun h => absurd h (by simp)), (fun h => absurd h (by simp)), (fun h => absurd h (by simp)), (fun h => absurd h (by simp)), (fun h => absurd h (by simp)), (fun h => absurd h (by simp)), (fun h => absurd h (by simp)), (fun h => absurd h (by simp)), (fun h => absurd h (by simp)), (fun h => absurd h (by simp)), (fun h => absurd h (by simp)), (fun h => absurd h (by simp)), BMK, by rw [← hBe]; exact (Below.refl _ _).drew⟩
  case hstep =>
    rintro listed a w ⟨s, b0, b4, hsz, rfl, f0, f0h, f1, f2, f3, f4, f4h, f5, f6, f7, f8, f9, f10, f11, f12, f13, f14, n5_2, n6_2, n6_5, gm, cbl⟩ i o ho hun hall
    have hun' : listed.getD i false = false := getD_none hun
    have hi : i < 15 := (Array.getElem?_eq_some_iff.1 ho).1
    have hii : i = 0 ∨ i = 1 ∨ i = 2 ∨ i = 3 ∨ i = 4 ∨ i = 5 ∨ i = 6 ∨ i = 7 ∨ i = 8 ∨ i = 9 ∨ i = 10 ∨ i = 11 ∨ i = 12 ∨ i = 13 ∨ i = 14 := by omega
    rcases hii with rfl | rfl | rfl | rfl | rfl | rfl | rfl | rfl | rfl | rfl | rfl | rfl | rfl | rfl | rfl
    · simp at ho
      subst ho
      refine wpOp_step rfl (fun K' hK => ?_)
      simp only [FrT]
      go_simp
      refine hK _ _ ⟨fun j => if j = 0 then .slice (some ⟨w.heap.size, 0, none⟩) 0 0 else s j, w.heap.size, b4, by simpa using hsz, by simp [FrT], fun _ => by simp, fun _ _ => ⟨heap_alloc_new w _, (Nat.le_trans hBW cbl.size)⟩, fun h => by rw [getD_set_ne false (by decide)] at h; simpa using (f1 h), fun h h' => by rw [getD_set_ne false (by decide)] at h h'; simpa using (f2 h h').alloc _, fun h => by rw [getD_set_ne false (by decide)] at h; simpa using (f3 h), fun h => by rw [getD_set_ne false (by decide)] at h; simpa using (f4 h), fun h h' => by rw [getD_set_ne false (by decide)] at h h'; exact al_old (f4h h h'), fun h h' => by rw [getD_set_ne false (by decide)] at h h'; obtain ⟨l, a1, a2, a3⟩ := (f5 h h'); exact ⟨l, by simpa using a1.up ((Below.refl _ _).alloc (Nat.le_refl _) _), a2, a3⟩, fun h h' => by rw [getD_set_ne false (by decide)] at h h'; obtain ⟨l, a1, a2, a3⟩ := (f6 h h'); exact ⟨l, by simpa using a1.up ((Below.refl _ _).alloc (Nat.le_refl _) _), a2, a3⟩, fun h => by rw [getD_set_ne false (by decide)] at h; simpa using (f7 h), fun h => by rw [getD_set_ne false (by decide)] at h; simpa using (f8 h), fun h => by rw [getD_set_ne false (by decide)] at h; simpa using (f9 h), fun h => by rw [getD_set_ne false (by decide)] at h; simpa using (f10 h), fun h => by rw [getD_set_ne false (by decide)] at h; simpa using (f11 h), fun h => by rw [getD_set_ne false (by decide)] at h; simpa using (f12 h), fun h => by rw [getD_set_ne false (by decide)] at h; simpa using (f13 h), fun h => by rw [getD_set_ne false (by decide)] at h; simpa using (f14 h), fun h => by rw [getD_set_ne false (by decide)] at h; exact getD_set_true (n5_2 h), fun h => by rw [getD_set_ne false (by decide)] at h; exact getD_set_true (n6_2 h), fun h => by rw [getD_set_ne false (by decide)] at h; exact getD_set_true (n6_5 h), al_old gm, cbl.alloc (Nat.le_trans hBW cbl.size) _⟩
    · simp at ho
      subst ho
      refine wpOp_step rfl (fun K' hK => ?_)
      simp only [FrT]
      go_simp
      refine hK _ _ ⟨fun j => if j = 1 then va else s j, b0, b4, by simpa using hsz, by simp [FrT], fun h => by rw [getD_set_ne false (by decide)] at h; simpa using (f0 h), fun h h' => by rw [getD_set_ne false (by decide)] at h h'; simpa using (f0h h h'), fun _ => by simp, fun h h' => by rw [getD_set_ne false (by decide)] at h h'; simpa using (f2 h h'), fun h => by rw [getD_set_ne false (by decide)] at h; simpa using (f3 h), fun h => by rw [getD_set_ne false (by decide)] at h; simpa using (f4 h), fun h h' => by rw [getD_set_ne false (by decide)] at h h'; simpa using (f4h h h'), fun h h' => by rw [getD_set_ne false (by decide)] at h h'; simpa using (f5 h h'), fun h h' => by rw [getD_set_ne false (by decide)] at h h'; simpa using (f6 h h'), fun h => by rw [getD_set_ne false (by decide)] at h; simpa using (f7 h), fun h => by rw [getD_set_ne false (by decide)] at h; simpa using (f8 h), fun h => by rw [getD_set_ne false (by decide)] at h; simpa using (f9 h), fun h => by rw [getD_set_ne false (by decide)] at h; simpa using (f10 h), fun h => by rw [getD_set_ne false (by decide)] at h; simpa using (f11 h), fun h => by rw [getD_set_ne false (by decide)] at h; simpa using (f12 h), fun h => by rw [getD_set_ne false (by decide)] at h; simpa using (f13 h), fun h => by rw [getD_set_ne false (by decide)] at h; simpa using (f14 h), fun h => by rw [getD_set_ne false (by decide)] at h; exact getD_set_true (n5_2 h), fun h => by rw [getD_set_ne false (by decide)] at h; exact getD_set_true (n6_2 h), fun h => by rw [getD_set_ne false (by decide)] at h; exact getD_set_true (n6_5 h), gm, cbl⟩
    · simp at ho
      subst ho
      have u0 : listed.getD 0 false = true := hall ⟨0, .data⟩ (by simp) rfl
      have u1 : listed.getD 1 false = true := hall ⟨1, .data⟩ (by simp) rfl
      have e0 := f0 u0
      have e1 := f1 u1
      refine wpOp_step rfl (fun K' hK => ?_)
      rw [if_pos (by rfl)]
      obtain ⟨b0h, hB0⟩ := f0h u0 hun'
      refine wp_append_lst _ _ rfl B (.slice (some ⟨b0, 0, none⟩) 0 0) va [] la (show _ = _ from e0) (own_none b0h hB0) (show _ = _ from e1) (HX.out.up (cbl.mono (by rw [← hBe]; exact Nat.le_refl _))) (by simp) (by omega) (Nat.le_trans hBW cbl.size) ?_
      intro v' w' hown hg
      rw [List.nil_append] at hown
      refine hK _ _ ⟨fun j => if j = 2 then v' else s j, b0, b4, by simpa using hsz, by simp [FrT, Act.put], fun h => by rw [getD_set_ne false (by decide)] at h; simpa using (f0 h), fun _ h => by simp [hsz] at h, fun h => by rw [getD_set_ne false (by decide)] at h; simpa using (f1 h), fun _ _ => by simpa using hown, fun h => by rw [getD_set_ne false (by decide)] at h; simpa using (f3 h), fun h => by rw [getD_set_ne false (by decide)] at h; simpa using (f4 h), fun h h' => by rw [getD_set_ne false (by decide)] at h h'; exact block_grown (xs := [.int .i64 m1]) b0h (f4h h h') hg, fun h h' => by rw [getD_set_ne false (by decide)] at h h'; exact absurd (n5_2 h) (by rw [hun']; decide), fun h h' => by rw [getD_set_ne false (by decide)] at h h'; exact absurd (n6_2 h) (by rw [hun']; decide), fun h => by rw [getD_set_ne false (by decide)] at h; simpa using (f7 h), fun h => by rw [getD_set_ne false (by decide)] at h; simpa using (f8 h), fun h => by rw [getD_set_ne false (by decide)] at h; simpa using (f9 h), fun h => by rw [getD_set_ne false (by decide)] at h; simpa using (f10 h), fun h => by rw [getD_set_ne false (by decide)] at h; simpa using (f11 h), fun h => by rw [getD_set_ne false (by decide)] at h; simpa using (f12 h), fun h => by rw [getD_set_ne false (by decide)] at h; simpa using (f13 h), fun h => by rw [getD_set_ne false (by decide)] at h; simpa using (f14 h), fun _ => by simp [hsz], fun _ => by simp [hsz], fun h => by rw [getD_set_ne false (by decide)] at h; exact getD_set_true (n6_5 h), (hg.block bm (Array.getElem?_eq_some_iff.1 gm).1 (by intro hh; simp [Value.ownBlock] at hh; omega)).trans gm, cbl.grown hg (Nat.le_trans hBW cbl.size) (fun k hk => by simp [Value.ownBlock] at hk; omega)⟩
    · simp at ho
      subst ho
      have x0 : w.cell? ⟨bm, 0, none⟩ = some (.int .i64 m0) := by rw [Lib.cell_of_heap gm]; rfl
      have x1 : w.cell? ⟨bm, 1, none⟩ = some (.int .i64 m1) := by rw [Lib.cell_of_heap gm]; rfl
      refine wpOp_step rfl (fun K' hK => ?_)
      simp only [FrT]
      go_simp
      refine hK _ _ ⟨fun j => if j = 3 then .agg #[.int .i64 m0, .int .i64 m1] else s j, b0, b4, by simpa using hsz, by simp [FrT], fun h => by rw [getD_set_ne false (by decide)] at h; simpa using (f0 h), fun h h' => by rw [getD_set_ne false (by decide)] at h h'; simpa using (f0h h h'), fun h => by rw [getD_set_ne false (by decide)] at h; simpa using (f1 h), fun h h' => by rw [getD_set_ne false (by decide)] at h h'; simpa using (f2 h h'), fun _ => by simp, fun h => by rw [getD_set_ne false (by decide)] at h; simpa using (f4 h), fun h h' => by rw [getD_set_ne false (by decide)] at h h'; simpa using (f4h h h'), fun h h' => by rw [getD_set_ne false (by decide)] at h h'; simpa using (f5 h h'), fun h h' => by rw [getD_set_ne false (by decide)] at h h'; simpa using (f6 h h'), fun h => by rw [getD_set_ne false (by decide)] at h; simpa using (f7 h), fun h => by rw [getD_set_ne false (by decide)] at h; simpa using (f8 h), fun h => by rw [getD_set_ne false (by decide)] at h; simpa using (f9 h), fun h => by rw [getD_set_ne false (by decide)] at h; simpa using (f10 h), fun h => by rw [getD_set_ne false (by decide)] at h; simpa using (f11 h), fun h => by rw [getD_set_ne false (by decide)] at h; simpa using (f12 h), fun h => by rw [getD_set_ne false (by decide)] at h; simpa using (f13 h), fun h => by rw [getD_set_ne false (by decide)] at h; simpa using (f14 h), fun h => by rw [getD_set_ne false (by decide)] at h; exact getD_set_true (n5_2 h), fun h => by rw [getD_set_ne false (by decide)] at h; exact getD_set_true (n6_2 h), fun h => by rw [getD_set_ne false (by decide)] at h; exact getD_set_true (n6_5 h), gm, cbl⟩
    · simp at ho
      subst ho
      have u3 : listed.getD 3 false = true := hall ⟨3, .data⟩ (by simp) rfl
      have e3 := f3 u3
      refine wpOp_step rfl (fun K' hK => ?_)
      simp only [FrT]
      go_simp
      refine hK _ _ ⟨fun j => if j = 4 then .slice (some ⟨w.heap.size, 0, none⟩) 1 1 else s j, b0, w.heap.size, by simpa using hsz, by simp [FrT, e3], fun h => by rw [getD_set_ne false (by decide)] at h; simpa using (f0 h), fun h h' => by rw [getD_set_ne false (by decide)] at h h'; exact ⟨al_old (f0h h h').1, (f0h h h').2⟩, fun h => by rw [getD_set_ne false (by decide)] at h; simpa using (f1 h), fun h h' => by rw [getD_set_ne false (by decide)] at h h'; simpa using (f2 h h').alloc _, fun h => by rw [getD_set_ne false (by decide)] at h; simpa using (f3 h), fun _ => by simp, fun _ _ => heap_alloc_new w _, fun h h' => by rw [getD_set_ne false (by decide)] at h h'; obtain ⟨l, a1, a2, a3⟩ := (f5 h h'); exact ⟨l, by simpa using a1.up ((Below.refl _ _).alloc (Nat.le_refl _) _), a2, a3⟩, fun h h' => by rw [getD_set_ne false (by decide)] at h h'; obtain ⟨l, a1, a2, a3⟩ := (f6 h h'); exact ⟨l, by simpa using a1.up ((Below.refl _ _).alloc (Nat.le_refl _) _), a2, a3⟩, fun h => by rw [getD_set_ne false (by decide)] at h; simpa using (f7 h), fun h => by rw [getD_set_ne false (by decide)] at h; simpa using (f8 h), fun h => by rw [getD_set_ne false (by decide)] at h; simpa using (f9 h), fun h => by rw [getD_set_ne false (by decide)] at h; simpa using (f10 h), fun h => by rw [getD_set_ne false (by decide)] at h; simpa using (f11 h), fun h => by rw [getD_set_ne false (by decide)] at h; simpa using (f12 h), fun h => by rw [getD_set_ne false (by decide)] at h; simpa using (f13 h), fun h => by rw [getD_set_ne false (by decide)] at h; simpa using (f14 h), fun h => by rw [getD_set_ne false (by decide)] at h; exact getD_set_true (n5_2 h), fun h => by rw [getD_set_ne false (by decide)] at h; exact getD_set_true (n6_2 h), fun h => by rw [getD_set_ne false (by decide)] at h; exact getD_set_true (n6_5 h), al_old gm, cbl.alloc (Nat.le_trans hBW cbl.size) _⟩
    · simp at ho
      subst ho
      have u4 : listed.getD 4 false = true := hall ⟨4, .data⟩ (by simp) rfl
      have u2 : listed.getD 2 false = true := hall ⟨2, .chain⟩ (by simp) rfl
      have e4 := f4 u4
      refine wpOp_step rfl (fun K' hK => ?_)
      simp only [FrT]
      go_simp
      refine (Made_any _ _ (arg_lit M0 M1 (f4h u4 hun'))).mono ?_
      rintro e w' ⟨v', l', rfl, hl, hn8, hm, hb⟩
      refine hK _ _ ⟨fun j => if j = 5 then v' else s j, b0, b4, by simpa using hsz, by simp [FrT, e4], fun h => by rw [getD_set_ne false (by decide)] at h; simpa using (f0 h), fun h h' => by rw [getD_set_ne false (by decide)] at h h'; exact ⟨heap_up hb (f0h h h').1, (f0h h h').2⟩, fun h => by rw [getD_set_ne false (by decide)] at h; simpa using (f1 h), fun h h' => by rw [getD_set_ne false (by decide)] at h h'; simpa using own_up (f2 h h') hb, fun h => by rw [getD_set_ne false (by decide)] at h; simpa using (f3 h), fun h => by rw [getD_set_ne false (by decide)] at h; simpa using (f4 h), fun _ h => by simp [hsz] at h, fun _ _ => ⟨l', by simpa using hl, hn8, hm⟩, fun h h' => by rw [getD_set_ne false (by decide)] at h h'; exact absurd (n6_5 h) (by rw [hun']; decide), fun h => by rw [getD_set_ne false (by decide)] at h; simpa using (f7 h), fun h => by rw [getD_set_ne false (by decide)] at h; simpa using (f8 h), fun h => by rw [getD_set_ne false (by decide)] at h; simpa using (f9 h), fun h => by rw [getD_set_ne false (by decide)] at h; simpa using (f10 h), fun h => by rw [getD_set_ne false (by decide)] at h; simpa using (f11 h), fun h => by rw [getD_set_ne false (by decide)] at h; simpa using (f12 h), fun h => by rw [getD_set_ne false (by decide)] at h; simpa using (f13 h), fun h => by rw [getD_set_ne false (by decide)] at h; simpa using (f14 h), fun _ => by rw [getD_set_ne false (by decide)]; exact u2, fun h => by rw [getD_set_ne false (by decide)] at h; exact getD_set_true (n6_2 h), fun _ => by simp [hsz], heap_up hb gm, cbl.trans (hb.mono (Nat.le_trans hBW cbl.size))⟩
    · simp at ho
      subst ho
      have u2 : listed.getD 2 false = true := hall ⟨2, .data⟩ (by simp) rfl
      have u5 : listed.getD 5 false = true := hall ⟨5, .data⟩ (by simp) rfl
      refine wpOp_step rfl (fun K' hK => ?_)
      rw [if_pos (by rfl)]
      obtain ⟨l', hl, hn8, hm⟩ := f5 u5 hun'
      have hown0 := f2 u2 hun'
      refine wp_append_lst _ _ rfl B (s 2) (s 5) la l' rfl hown0 rfl hl (by omega) (by omega) (Nat.le_trans hBW cbl.size) ?_
      intro v' w' hown hg
      refine hK _ _ ⟨fun j => if j = 6 then v' else s j, b0, b4, by simpa using hsz, by simp [FrT, Act.put], fun h => by rw [getD_set_ne false (by decide)] at h; simpa using (f0 h), fun h h' => by rw [getD_set_ne false (by decide)] at h h'; exact absurd h' (by rw [u2]; decide), fun h => by rw [getD_set_ne false (by decide)] at h; simpa using (f1 h), fun _ h => by simp [hsz] at h, fun h => by rw [getD_set_ne false (by decide)] at h; simpa using (f3 h), fun h => by rw [getD_set_ne false (by decide)] at h; simpa using (f4 h), fun h h' => by rw [getD_set_ne false (by decide)] at h h'; exact absurd h' (by rw [u5]; decide), fun _ h => by simp [hsz] at h, fun _ _ => ⟨la ++ l', by simpa using own_lst hown (by simp; omega), by simp; omega, moreS_append HMA.out hm⟩, fun h => by rw [getD_set_ne false (by decide)] at h; simpa using (f7 h), fun h => by rw [getD_set_ne false (by decide)] at h; simpa using (f8 h), fun h => by rw [getD_set_ne false (by decide)] at h; simpa using (f9 h), fun h => by rw [getD_set_ne false (by decide)] at h; simpa using (f10 h), fun h => by rw [getD_set_ne false (by decide)] at h; simpa using (f11 h), fun h => by rw [getD_set_ne false (by decide)] at h; simpa using (f12 h), fun h => by rw [getD_set_ne false (by decide)] at h; simpa using (f13 h), fun h => by rw [getD_set_ne false (by decide)] at h; simpa using (f14 h), fun h => by rw [getD_set_ne false (by decide)] at h; exact getD_set_true (n5_2 h), fun _ => by rw [getD_set_ne false (by decide)]; exact u2, fun _ => by rw [getD_set_ne false (by decide)]; exact u5, (hg.block bm (Array.getElem?_eq_some_iff.1 gm).1 (by intro hh; have := (hown0.lt bm hh.symm).1; omega)).trans gm, cbl.grown hg (Nat.le_trans hBW cbl.size) (fun k hk => (hown0.lt k hk).1)⟩
    · simp at ho
      subst ho
      refine wpOp_step rfl (fun K' hK => ?_)
      simp only [FrT]
      go_simp
      refine hK _ _ ⟨fun j => if j = 7 then .int .i64 F else s j, b0, b4, by simpa using hsz, by simp [FrT], fun h => by rw [getD_set_ne false (by decide)] at h; simpa using (f0 h), fun h h' => by rw [getD_set_ne false (by decide)] at h h'; simpa using (f0h h h'), fun h => by rw [getD_set_ne false (by decide)] at h; simpa using (f1 h), fun h h' => by rw [getD_set_ne false (by decide)] at h h'; simpa using (f2 h h'), fun h => by rw [getD_set_ne false (by decide)] at h; simpa using (f3 h), fun h => by rw [getD_set_ne false (by decide)] at h; simpa using (f4 h), fun h h' => by rw [getD_set_ne false (by decide)] at h h'; simpa using (f4h h h'), fun h h' => by rw [getD_set_ne false (by decide)] at h h'; simpa using (f5 h h'), fun h h' => by rw [getD_set_ne false (by decide)] at h h'; simpa using (f6 h h'), fun _ => by simp, fun h => by rw [getD_set_ne false (by decide)] at h; simpa using (f8 h), fun h => by rw [getD_set_ne false (by decide)] at h; simpa using (f9 h), fun h => by rw [getD_set_ne false (by decide)] at h; simpa using (f10 h), fun h => by rw [getD_set_ne false (by decide)] at h; simpa using (f11 h), fun h => by rw [getD_set_ne false (by decide)] at h; simpa using (f12 h), fun h => by rw [getD_set_ne false (by decide)] at h; simpa using (f13 h), fun h => by rw [getD_set_ne false (by decide)] at h; simpa using (f14 h), fun h => by rw [getD_set_ne false (by decide)] at h; exact getD_set_true (n5_2 h), fun h => by rw [getD_set_ne false (by decide)] at h; exact getD_set_true (n6_2 h), fun h => by rw [getD_set_ne false (by decide)] at h; exact getD_set_true (n6_5 h), gm, cbl⟩
    · simp at ho
      subst ho
      refine wpOp_step rfl (fun K' hK => ?_)
      simp only [FrT]
      go_simp
      refine hK _ _ ⟨fun j => if j = 8 then .int .i64 p else s j, b0, b4, by simpa using hsz, by simp [FrT], fun h => by rw [getD_set_ne false (by decide)] at h; simpa using (f0 h), fun h h' => by rw [getD_set_ne false (by decide)] at h h'; simpa using (f0h h h'), fun h => by rw [getD_set_ne false (by decide)] at h; simpa using (f1 h), fun h h' => by rw [getD_set_ne false (by decide)] at h h'; simpa using (f2 h h'), fun h => by rw [getD_set_ne false (by decide)] at h; simpa using (f3 h), fun h => by rw [getD_set_ne false (by decide)] at h; simpa using (f4 h), fun h h' => by rw [getD_set_ne false (by decide)] at h h'; simpa using (f4h h h'), fun h h' => by rw [getD_set_ne false (by decide)] at h h'; simpa using (f5 h h'), fun h h' => by rw [getD_set_ne false (by decide)] at h h'; simpa using (f6 h h'), fun h => by rw [getD_set_ne false (by decide)] at h; simpa using (f7 h), fun _ => by simp, fun h => by rw [getD_set_ne false (by decide)] at h; simpa using (f9 h), fun h => by rw [getD_set_ne false (by decide)] at h; simpa using (f10 h), fun h => by rw [getD_set_ne false (by decide)] at h; simpa using (f11 h), fun h => by rw [getD_set_ne false (by decide)] at h; simpa using (f12 h), fun h => by rw [getD_set_ne false (by decide)] at h; simpa using (f13 h), fun h => by rw [getD_set_ne false (by decide)] at h; simpa using (f14 h), fun h => by rw [getD_set_ne false (by decide)] at h; exact getD_set_true (n5_2 h), fun h => by rw [getD_set_ne false (by decide)] at h; exact getD_set_true (n6_2 h), fun h => by rw [getD_set_ne false (by decide)] at h; exact getD_set_true (n6_5 h), gm, cbl⟩
    · simp at ho
      subst ho
      have u6 : listed.getD 6 false = true := hall ⟨6, .data⟩ (by simp) rfl
      have u7 : listed.getD 7 false = true := hall ⟨7, .data⟩ (by simp) rfl
      have u8 : listed.getD 8 false = true := hall ⟨8, .data⟩ (by simp) rfl
      have e7 := f7 u7
      have e8 := f8 u8
      obtain ⟨l, hl, hn16, hmo⟩ := f6 u6 hun'
      obtain ⟨a1, a2, a3⟩ := HMORE.out l hmo
      refine wpOp_step rfl (fun K' hK => ?_)
      simp only [FrT]
      go_simp
      refine (Count_any _ l F p _ (by omega) hl).mono ?_
      rintro e w' ⟨rfl, hb⟩
      rw [a1]
      refine hK _ _ ⟨fun j => if j = 9 then .tuple #[.int .i64 (cntN l F p), .bool true] else s j, b0, b4, by simpa using hsz, by simp [FrT, e7, e8], fun h => by rw [getD_set_ne false (by decide)] at h; simpa using (f0 h), fun h h' => by rw [getD_set_ne false (by decide)] at h h'; exact ⟨heap_up hb (f0h h h').1, (f0h h h').2⟩, fun h => by rw [getD_set_ne false (by decide)] at h; simpa using (f1 h), fun h h' => by rw [getD_set_ne false (by decide)] at h h'; simpa using own_up (f2 h h') hb, fun h => by rw [getD_set_ne false (by decide)] at h; simpa using (f3 h), fun h => by rw [getD_set_ne false (by decide)] at h; simpa using (f4 h), fun h h' => by rw [getD_set_ne false (by decide)] at h h'; exact absurd h' (by rw [n6_5 u6]; decide), fun h h' => by rw [getD_set_ne false (by decide)] at h h'; exact absurd h' (by rw [u6]; decide), fun _ h => by simp [hsz] at h, fun h => by rw [getD_set_ne false (by decide)] at h; simpa using (f7 h), fun h => by rw [getD_set_ne false (by decide)] at h; simpa using (f8 h), fun _ => ⟨cntN l F p, by simp, a2, a3⟩, fun h => by rw [getD_set_ne false (by decide)] at h; simpa using (f10 h), fun h => by rw [getD_set_ne false (by decide)] at h; simpa using (f11 h), fun h => by rw [getD_set_ne false (by decide)] at h; simpa using (f12 h), fun h => by rw [getD_set_ne false (by decide)] at h; simpa using (f13 h), fun h => by rw [getD_set_ne false (by decide)] at h; simpa using (f14 h), fun h => by rw [getD_set_ne false (by decide)] at h; exact getD_set_true (n5_2 h), fun h => by rw [getD_set_ne false (by decide)] at h; exact getD_set_true (n6_2 h), fun h => by rw [getD_set_ne false (by decide)] at h; exact getD_set_true (n6_5 h), heap_up hb gm, cbl.trans (hb.mono (Nat.le_trans hBW cbl.size))⟩
    · simp at ho
      subst ho
      have u9 : listed.getD 9 false = true := hall ⟨9, .data⟩ (by simp) rfl
      refine wpOp_step rfl (fun K' hK => ?_)
      simp only [FrT]
      go_simp
      refine hK _ _ ⟨fun j => if j = 10 then s 9 else s j, b0, b4, by simpa using hsz, by simp [FrT], fun h => by rw [getD_set_ne false (by decide)] at h; simpa using (f0 h), fun h h' => by rw [getD_set_ne false (by decide)] at h h'; simpa using (f0h h h'), fun h => by rw [getD_set_ne false (by decide)] at h; simpa using (f1 h), fun h h' => by rw [getD_set_ne false (by decide)] at h h'; simpa using (f2 h h'), fun h => by rw [getD_set_ne false (by decide)] at h; simpa using (f3 h), fun h => by rw [getD_set_ne false (by decide)] at h; simpa using (f4 h), fun h h' => by rw [getD_set_ne false (by decide)] at h h'; simpa using (f4h h h'), fun h h' => by rw [getD_set_ne false (by decide)] at h h'; simpa using (f5 h h'), fun h h' => by rw [getD_set_ne false (by decide)] at h h'; simpa using (f6 h h'), fun h => by rw [getD_set_ne false (by decide)] at h; simpa using (f7 h), fun h => by rw [getD_set_ne false (by decide)] at h; simpa using (f8 h), fun h => by rw [getD_set_ne false (by decide)] at h; simpa using (f9 h), fun _ => by simpa using f9 u9, fun h => by rw [getD_set_ne false (by decide)] at h; simpa using (f11 h), fun h => by rw [getD_set_ne false (by decide)] at h; simpa using (f12 h), fun h => by rw [getD_set_ne false (by decide)] at h; simpa using (f13 h), fun h => by rw [getD_set_ne false (by decide)] at h; simpa using (f14 h), fun h => by rw [getD_set_ne false (by decide)] at h; exact getD_set_true (n5_2 h), fun h => by rw [getD_set_ne false (by decide)] at h; exact getD_set_true (n6_2 h), fun h => by rw [getD_set_ne false (by decide)] at h; exact getD_set_true (n6_5 h), gm, cbl⟩
    · simp at ho
      subst ho
      have u10 : listed.getD 10 false = true := hall ⟨10, .data⟩ (by simp) rfl
      obtain ⟨y, ey, y1, y2⟩ := f10 u10
      refine wpOp_step rfl (fun K' hK => ?_)
      simp only [FrT]
      go_simp
      refine hK _ _ ⟨fun j => if j = 11 then .int .i64 y else s j, b0, b4, by simpa using hsz, by simp [FrT, ey], fun h => by rw [getD_set_ne false (by decide)] at h; simpa using (f0 h), fun h h' => by rw [getD_set_ne false (by decide)] at h h'; simpa using (f0h h h'), fun h => by rw [getD_set_ne false (by decide)] at h; simpa using (f1 h), fun h h' => by rw [getD_set_ne false (by decide)] at h h'; simpa using (f2 h h'), fun h => by rw [getD_set_ne false (by decide)] at h; simpa using (f3 h), fun h => by rw [getD_set_ne false (by decide)] at h; simpa using (f4 h), fun h h' => by rw [getD_set_ne false (by decide)] at h h'; simpa using (f4h h h'), fun h h' => by rw [getD_set_ne false (by decide)] at h h'; simpa using (f5 h h'), fun h h' => by rw [getD_set_ne false (by decide)] at h h'; simpa using (f6 h h'), fun h => by rw [getD_set_ne false (by decide)] at h; simpa using (f7 h), fun h => by rw [getD_set_ne false (by decide)] at h; simpa using (f8 h), fun h => by rw [getD_set_ne false (by decide)] at h; simpa using (f9 h), fun h => by rw [getD_set_ne false (by decide)] at h; simpa using (f10 h), fun _ => ⟨y, by simp, y1, y2⟩, fun h => by rw [getD_set_ne false (by decide)] at h; simpa using (f12 h), fun h => by rw [getD_set_ne false (by decide)] at h; simpa using (f13 h), fun h => by rw [getD_set_ne false (by decide)] at h; simpa using (f14 h), fun h => by rw [getD_set_ne false (by decide)] at h; exact getD_set_true (n5_2 h), fun h => by rw [getD_set_ne false (by decide)] at h; exact getD_set_true (n6_2 h), fun h => by rw [getD_set_ne false (by decide)] at h; exact getD_set_true (n6_5 h), gm, cbl⟩
    · simp at ho
      subst ho
      have u10 : listed.getD 10 false = true := hall ⟨10, .data⟩ (by simp) rfl
      obtain ⟨y, ey, y1, y2⟩ := f10 u10
      refine wpOp_step rfl (fun K' hK => ?_)
      simp only [FrT]
      go_simp
      refine hK _ _ ⟨fun j => if j = 12 then .bool true else s j, b0, b4, by simpa using hsz, by simp [FrT, ey], fun h => by rw [getD_set_ne false (by decide)] at h; simpa using (f0 h), fun h h' => by rw [getD_set_ne false (by decide)] at h h'; simpa using (f0h h h'), fun h => by rw [getD_set_ne false (by decide)] at h; simpa using (f1 h), fun h h' => by rw [getD_set_ne false (by decide)] at h h'; simpa using (f2 h h'), fun h => by rw [getD_set_ne false (by decide)] at h; simpa using (f3 h), fun h => by rw [getD_set_ne false (by decide)] at h; simpa using (f4 h), fun h h' => by rw [getD_set_ne false (by decide)] at h h'; simpa using (f4h h h'), fun h h' => by rw [getD_set_ne false (by decide)] at h h'; simpa using (f5 h h'), fun h h' => by rw [getD_set_ne false (by decide)] at h h'; simpa using (f6 h h'), fun h => by rw [getD_set_ne false (by decide)] at h; simpa using (f7 h), fun h => by rw [getD_set_ne false (by decide)] at h; simpa using (f8 h), fun h => by rw [getD_set_ne false (by decide)] at h; simpa using (f9 h), fun h => by rw [getD_set_ne false (by decide)] at h; simpa using (f10 h), fun h => by rw [getD_set_ne false (by decide)] at h; simpa using (f11 h), fun _ => by simp, fun h => by rw [getD_set_ne false (by decide)] at h; simpa using (f13 h), fun h => by rw [getD_set_ne false (by decide)] at h; simpa using (f14 h), fun h => by rw [getD_set_ne false (by decide)] at h; exact getD_set_true (n5_2 h), fun h => by rw [getD_set_ne false (by decide)] at h; exact getD_set_true (n6_2 h), fun h => by rw [getD_set_ne false (by decide)] at h; exact getD_set_true (n6_5 h), gm, cbl⟩
    · simp at ho
      subst ho
      have u11 : listed.getD 11 false = true := hall ⟨11, .data⟩ (by simp) rfl
      refine wpOp_step rfl (fun K' hK => ?_)
      simp only [FrT]
      go_simp
      refine hK _ _ ⟨fun j => if j = 13 then s 11 else s j, b0, b4, by simpa using hsz, by simp [FrT], fun h => by rw [getD_set_ne false (by decide)] at h; simpa using (f0 h), fun h h' => by rw [getD_set_ne false (by decide)] at h h'; simpa using (f0h h h'), fun h => by rw [getD_set_ne false (by decide)] at h; simpa using (f1 h), fun h h' => by rw [getD_set_ne false (by decide)] at h h'; simpa using (f2 h h'), fun h => by rw [getD_set_ne false (by decide)] at h; simpa using (f3 h), fun h => by rw [getD_set_ne false (by decide)] at h; simpa using (f4 h), fun h h' => by rw [getD_set_ne false (by decide)] at h h'; simpa using (f4h h h'), fun h h' => by rw [getD_set_ne false (by decide)] at h h'; simpa using (f5 h h'), fun h h' => by rw [getD_set_ne false (by decide)] at h h'; simpa using (f6 h h'), fun h => by rw [getD_set_ne false (by decide)] at h; simpa using (f7 h), fun h => by rw [getD_set_ne false (by decide)] at h; simpa using (f8 h), fun h => by rw [getD_set_ne false (by decide)] at h; simpa using (f9 h), fun h => by rw [getD_set_ne false (by decide)] at h; simpa using (f10 h), fun h => by rw [getD_set_ne false (by decide)] at h; simpa using (f11 h), fun h => by rw [getD_set_ne false (by decide)] at h; simpa using (f12 h), fun _ => by simpa using f11 u11, fun h => by rw [getD_set_ne false (by decide)] at h; simpa using (f14 h), fun h => by rw [getD_set_ne false (by decide)] at h; exact getD_set_true (n5_2 h), fun h => by rw [getD_set_ne false (by decide)] at h; exact getD_set_true (n6_2 h), fun h => by rw [getD_set_ne false (by decide)] at h; exact getD_set_true (n6_5 h), gm, cbl⟩
    · simp at ho
      subst ho
      have u12 : listed.getD 12 false = true := hall ⟨12, .data⟩ (by simp) rfl
      have e12 := f12 u12
      refine wpOp_step rfl (fun K' hK => ?_)
      simp only [FrT]
      go_simp
      refine hK _ _ ⟨fun j => if j = 14 then .bool true else s j, b0, b4, by simpa using hsz, by simp [FrT, e12], fun h => by rw [getD_set_ne false (by decide)] at h; simpa using (f0 h), fun h h' => by rw [getD_set_ne false (by decide)] at h h'; simpa using (f0h h h'), fun h => by rw [getD_set_ne false (by decide)] at h; simpa using (f1 h), fun h h' => by rw [getD_set_ne false (by decide)] at h h'; simpa using (f2 h h'), fun h => by rw [getD_set_ne false (by decide)] at h; simpa using (f3 h), fun h => by rw [getD_set_ne false (by decide)] at h; simpa using (f4 h), fun h h' => by rw [getD_set_ne false (by decide)] at h h'; simpa using (f4h h h'), fun h h' => by rw [getD_set_ne false (by decide)] at h h'; simpa using (f5 h h'), fun h h' => by rw [getD_set_ne false (by decide)] at h h'; simpa using (f6 h h'), fun h => by rw [getD_set_ne false (by decide)] at h; simpa using (f7 h), fun h => by rw [getD_set_ne false (by decide)] at h; simpa using (f8 h), fun h => by rw [getD_set_ne false (by decide)] at h; simpa using (f9 h), fun h => by rw [getD_set_ne false (by decide)] at h; simpa using (f10 h), fun h => by rw [getD_set_ne false (by decide)] at h; simpa using (f11 h), fun h => by rw [getD_set_ne false (by decide)] at h; simpa using (f12 h), fun h => by rw [getD_set_ne false (by decide)] at h; simpa using (f13 h), fun _ => by simp, fun h => by rw [getD_set_ne false (by decide)] at h; exact getD_set_true (n5_2 h), fun h => by rw [getD_set_ne false (by decide)] at h; exact getD_set_true (n6_2 h), fun h => by rw [getD_set_ne false (by decide)] at h; exact getD_set_true (n6_5 h), gm, cbl⟩
  case hdone =>
    rintro listed a w ⟨s, b0, b4, hsz, rfl, f0, f0h, f1, f2, f3, f4, f4h, f5, f6, f7, f8, f9, f10, f11, f12, f13, f14, n5_2, n6_2, n6_5, gm, cbl⟩ hr
    have hup := fun j => all_done2 (by kernel_rfl) hsz hr j
    obtain ⟨y, ey, y1, y2⟩ := f13 (hup 13 (by decide))
    have e14 := f14 (hup 14 (by decide))
    clear f0 f0h f1 f2 f3 f4 f4h f5 f6 f7 f8 f9 f10 f11 f12 f13 f14 hup hr n5_2 n6_2 n6_5
    simp only [FrT]
    rw [ey, e14]
    have HFIN := Lib.hid (HFB.out.trans (by rw [← hBe] at cbl; exact cbl.mono HFB.out.size))
    clear gm cbl BMK hBe hbB hbme hlt
    go_wp2_with fail
    go_ret
    exact ⟨by simp, HFIN.out⟩

/-! ### THE ROW's STEP -/
theorem cel1 : Try.prog.cellsOf 3 = 1 := by kernel_rfl
theorem arr1 : Try.prog.cellsOf 30 = 2 := by kernel_rfl
theorem cel2 : Try.prog.cellsOf 3 = 1 := by kernel_rfl
theorem arr2 : Try.prog.cellsOf 44 = 4 := by kernel_rfl
set_option maxRecDepth 100000 in
theorem lifted (os : Os) (started : os.Started) (H : Type) (enc : TypeId × Value → H) :
    ReturnsInHanded {} Try.checked os 10 .any (Rows.spanTermsSpec.pre6 enc Try.prog Try.f10 Rows.spanTermsRow.domain false) (Rows.spanTermsSpec.post enc Try.prog Try.f10 false true false false) := by
  refine returnsInHanded_of_change (C := Try.checked) own started (by kernel_rfl) Try.func10
    (ChangeSpec.witness6 (enc := enc) (C := Try.checked) false ⟨#[], #[.slice none 0 0, .agg #[.int .i64 0, .int .i64 0], .agg #[.int .i64 0, .int .i64 0, .int .i64 0, .int .i64 0]], []⟩ 8 (by kernel_rfl) (by kernel_rfl) (by kernel_rfl) (by kernel_rfl)) ?_
  intro W base args ds gs before hval0 hW hcnd _
  have hval : ∀ (j : Nat) t v, Try.f10.params[j]? = some t → args[j]? = some v → Value.okWide Try.prog W .any base t v := hval0
  have hW' := hW
  obtain ⟨p, q, hA0, hV, rfl, hfz, hnd⟩ := hW
  have hA : DataW.TrodAll enc Try.prog W 0 (fun _ => true) true Try.f10.params.toList args.toList ds p := hA0
  rw [Try.params10] at hA hval
  obtain ⟨v0, vs0, d0, ds0, p0, q0, hargs, rfl, rfl, h0, r0⟩ := trodAll_cons hA
  obtain ⟨v1, vs1, d1, ds1, p1, q1, rfl, rfl, rfl, h1, r1⟩ := trodAll_cons r0
  obtain ⟨v2, vs2, d2, ds2, p2, q2, rfl, rfl, rfl, h2, r2⟩ := trodAll_cons r1
  obtain ⟨rfl, rfl, rfl⟩ := trodAll_nil r2
  obtain rfl : args = #[v0, v1, v2] := by cases args; simp_all
  obtain ⟨rfl, rfl⟩ := trodVars_none hV
  have a0 : ArgP W v0 := arg_arrays Try.underlying22 Try.underlying30 Try.underlying3 (by kernel_rfl) (by kernel_rfl) (hval 0 22 v0 rfl rfl) h0
  have lt0 : ∀ x ∈ p0, x.block < W.heap.size := fun x hx => hW'.lt x (by simp [hx])
  obtain ⟨xs1, hl1, rfl, rfl, rfl, w1⟩ := open_ints Try.underlying30 Try.underlying3 cel1 arr1 (hval 1 30 v1 rfl rfl) h1
  obtain ⟨x1_0, x1_1, rfl⟩ := list2 xs1 hl1
  obtain ⟨xs2, hl2, rfl, rfl, rfl, w2⟩ := open_ints Try.underlying44 Try.underlying3 cel2 arr2 (hval 2 44 v2 rfl rfl) h2
  obtain ⟨x2_0, x2_1, x2_2, x2_3, rfl⟩ := list4 xs2 hl2
  clear hA0 hval0
  simp only [List.append_nil] at hW'
  refine (walk v0 x1_0 x1_1 x2_0 x2_1 x2_2 x2_3 W a0 (wf_in (w1 _ (by simp))) (wf_in (w1 _ (by simp))) (wf_in (w2 _ (by simp))) (wf_in (w2 _ (by simp))) (wf_in (w2 _ (by simp))) (wf_in (w2 _ (by simp)))).mono fun e W' ⟨he, hb⟩ => ?_
  subst he
  exact ⟨_, rfl, post_of_below (pv := []) hW' (fun _ _ _ => (trodAll_cons_mk (shut_bool Try.underlying4 _) trodAll_mk0)) (fun sp hsp => (trodAll_cons_mk (WideElems.Trod_stays (by kernel_rfl) (by kernel_rfl) (of_decide_eq_true (by kernel_rfl)) h0 (fun x hx => hb.same (lt0 x hx)) (fun x hx => hsp x (by simp [hx]))) (trodAll_cons_mk (shut_ints Try.underlying30 Try.underlying3 cel1 arr1 hl1 w1) (trodAll_cons_mk (shut_ints Try.underlying44 Try.underlying3 cel2 arr2 hl2 w2) trodAll_mk0)))) (fun _ _ => rfl) (by simp)
    hb (ok_one (by kernel_rfl) rfl (okWide_bool_mk Try.underlying4 _))⟩

theorem over : Rows.spanTermsRow.holds Try.pinned (OpenSpec.ofChange Rows.spanTermsSpec) :=
  OpenClaim.holds_of_wide 10 Try.f10 rfl rfl rfl rfl rfl rfl rfl ⟨rfl, rfl, rfl, rfl, rfl⟩ rfl rfl rfl rfl rfl (by kernel_rfl) Try.func10 (by kernel_rfl)
    (of_decide_eq_true (by kernel_rfl)) (by unfold Func.isWrapper; first | (rw [if_pos (by decide +kernel)]; kernel_rfl) | (rw [if_neg (by decide +kernel)]; exact ⟨rfl, rfl⟩))
    (fun os started H enc _ => lifted os started H enc)

theorem proved : Rows.SpanTermsSaid :=
  over
#print axioms proved
end Go.Proofs.Ytodkppeikpaclaa.spanTerms
