/- Contracts that the proofs of this seat share. Each theorem names its conditions. -/
import Derived.WalkKit
import Derived.Test.YtabfjecegpaoaaaGreatDoorYb2
import Derived.Test.YtabfjecegpaoaaaGreatDoorYa6
import Derived.Test.YtabfjecegpaoaaaGreatDoorYb1
namespace Go.Proofs.YtabfjecegpaoaaaGreatDoor
open Go.RowKit Go.Shelf
open Dgt
set_option linter.unusedVariables false
theorem results_cell_row2 {P : Program} {fn : Func} {p u : Tmp} {ty : TypeId} (h : fn.results = #[.cell p ty, .tmp u]) (tmps : Array Value) (w : World) (g : Nat) (t : TypeId) (cs : Array Value) (fr : Nat × Nat) (d : TypeDesc)
  (hp : tmps.getD p undef = .pointer (some ⟨g, 0, none⟩)) (hg : w.heap[g]? = some (.cells cs t fr))
  (hu : P.underlying ty = some d) (hd : (match d with | .struct _ | .array _ _ => true | _ => false) = true) (hi : (P.info? ty).map (·.size) = some cs.size) :
  (results fn tmps).run P w = .ok (.tuple #[.agg cs, tmps.getD u undef]) w := by
 rw [results_cell_tmp h, hp];simp [asAddr, run_loadVar_row w g t ty cs fr d hg hu hd hi, Result.andThen]
theorem zeroR_row (w : World) : (w.alloc (.cells #[.bool false, .string ⟨#[]⟩, .string ⟨#[]⟩] 26)).heap[w.heap.size]? = some (.cells #[.bool false, .string ⟨#[]⟩, .string ⟨#[]⟩] 26 (0, 0)) := heap_alloc_new w _
set_option maxHeartbeats 4000000 in
set_option maxRecDepth 100000 in
theorem RatOf_any (n : Int) (w : World) (h1 : -9223372036854775808 ≤ n) (h2 : n ≤ 9223372036854775807) :
  Calls Tryz.prog 59 #[.int .i64 n] w fun e w' => e = .returned (rtV (ofR n)) ∧ Below w.heap.size w w' := by
 by_cases hn : n < 0
 ·have q1 : IntKind.i64.wrap (n + 1) = n + 1 := IntWalk.i64_in _ (by omega);have q2 : IntKind.i64.wrap (-(n + 1)) = -(n + 1) := IntWalk.i64_in _ (by omega);obtain ⟨m, hm⟩ : ∃ m : Nat, -(n + 1) = (m : Int) := ⟨(-(n + 1)).toNat, by omega⟩;rw [hm] at q2;have q5 : wrap64 (-(n + 1)) = (m : Int) := by unfold wrap64; omega
  have HO := Lib.hid (fun w => Of_any (m : Int) w (by omega)); have HO1 := Lib.hid (fun w => Of_any 1 w (by decide));simp only [Int.toNat_natCast] at HO;have hmz : Sz m 8 := Nat.lt_of_lt_of_le (show m < 9223372036854775808 by omega) (by decide);have HA := Lib.hid (fun w => Add_n (numS_encS m) (numS_encS 1) (hmz.enc (by decide)) ((show Sz 1 1 by unfold Sz; decide).enc (by decide)) w);have HE : Hid (ofR n = ⟨true, m + 1, 1⟩) := Lib.hid (by unfold ofR; simp [hn]; omega);rw [HE.out];have q3 : ¬ (0 : Int) ≤ n := by omega
  clear hm hmz h1 h2;go_enter Tryz.func59, Tryz.ntmps59;go_wp2_with fail;refine (HO.out _).mono ?_;rintro e w1 ⟨rfl, hb1⟩;go_wp2_with fail;refine (HO1.out _).mono ?_;rintro e w2 ⟨rfl, hb2⟩;rw [show (1 : Int).toNat = 1 from rfl];go_wp2_with fail;refine (HA.out _).mono ?_;rintro e w3 ⟨rfl, hb3⟩;go_wp2_with fail;refine (HO1.out _).mono ?_;rintro e w4 ⟨rfl, hb4⟩;rw [show (1 : Int).toNat = 1 from rfl];have hr := heap_up hb4 (heap_up hb3 (heap_up hb2 (heap_up hb1 (zeroR_row w))));obtain ⟨⟨c0, c1, c2⟩, hf⟩ := row_cells hr;have hf0 := hf 0; have hf1 := hf 1; have hf2 := hf 2;have HROW := Lib.hid hr;have h12 := hb1.trans (hb2.mono hb1.size);have h13 := h12.trans (hb3.mono h12.size);have h14 := h13.trans (hb4.mono h13.size);have HB := Lib.hid (((Below.refl w.heap.size w).alloc (Nat.le_refl _) (.cells #[.bool false, .string ⟨#[]⟩, .string ⟨#[]⟩] 26)).trans (h14.mono (by simp)))
  clear hr hf hb1 hb2 hb3 hb4 h12 h13 h14;go_wp2_with fail;refine bodyPost_ret (results_cell_row rfl _ _ w.heap.size 26 _ (0, 0) _ rfl (row_set HROW.out _ _ _) Tryz.underlying26 rfl (by kernel_rfl)) rfl ?_;exact ⟨rfl, below_row HB.out (Nat.le_refl _) _ _ _⟩
 ·obtain ⟨m, rfl⟩ : ∃ m : Nat, n = (m : Int) := ⟨n.toNat, by omega⟩;have HO := Lib.hid (fun w => Of_any (m : Int) w (by omega)); have HO1 := Lib.hid (fun w => Of_any 1 w (by decide));simp only [Int.toNat_natCast] at HO;have HE : Hid (ofR (m : Int) = ⟨false, m, 1⟩) := Lib.hid (by unfold ofR; simp);rw [HE.out];have q3 : (0 : Int) ≤ (m : Int) := by omega
  clear h1 h2;go_enter Tryz.func59, Tryz.ntmps59;go_wp2_with fail;refine (HO.out _).mono ?_;rintro e w1 ⟨rfl, hb1⟩;go_wp2_with fail;refine (HO1.out _).mono ?_;rintro e w2 ⟨rfl, hb2⟩;rw [show (1 : Int).toNat = 1 from rfl];have hr := heap_up hb2 (heap_up hb1 (zeroR_row w));obtain ⟨⟨c0, c1, c2⟩, hf⟩ := row_cells hr;have hf0 := hf 0; have hf1 := hf 1; have hf2 := hf 2;have HROW := Lib.hid hr;have h12 := hb1.trans (hb2.mono hb1.size);have HB := Lib.hid (((Below.refl w.heap.size w).alloc (Nat.le_refl _) (.cells #[.bool false, .string ⟨#[]⟩, .string ⟨#[]⟩] 26)).trans (h12.mono (by simp)));clear hr hf hb1 hb2 h12;go_wp2_with fail;refine bodyPost_ret (results_cell_row rfl _ _ w.heap.size 26 _ (0, 0) _ rfl (row_set HROW.out _ _ _) Tryz.underlying26 rfl (by kernel_rfl)) rfl ?_;exact ⟨rfl, below_row HB.out (Nat.le_refl _) _ _ _⟩
theorem ofR_zero : ofR 0 = zeroR := rfl
set_option maxHeartbeats 4000000 in
set_option maxRecDepth 100000 in
theorem value_any (neg : Bool) (n d : ByteArray) (w : World) (sn : n.size ≤ 10000000) (sd : d.size ≤ 10000000) :
  Calls Tryz.prog 99 #[ratV neg n d] w fun e w' => e = .returned (rtV (valQ neg n d)) ∧ Below w.heap.size w w' := by
 have HR := Lib.hid (fun w => RatRight_any neg n d w sn sd);obtain ⟨R, hR⟩ : ∃ R, rightR neg n d = R := ⟨_, rfl⟩;rw [hR] at HR;have HRT := Lib.hid hR;have HO := Lib.hid (fun w => RatOf_any 0 w (by decide) (by decide));clear hR sn sd;unfold ratV at HR ⊢;have hs2 : (w.alloc (.cells #[.bool neg, .string n, .string d] 26)).heap.size = w.heap.size + 1 := by simp
 have h0 := heap_up ((Below.refl _ (w.alloc (.cells #[.bool neg, .string n, .string d] 26))).alloc (Nat.le_refl _) (.cells #[.bool false, .string ⟨#[]⟩, .string ⟨#[]⟩] 26)) (heap_alloc_new w (.cells #[.bool neg, .string n, .string d] 26));have h1 := zeroR_row (w.alloc (.cells #[.bool neg, .string n, .string d] 26));rw [hs2] at h1;have hb := ((Below.refl w.heap.size w).alloc (Nat.le_refl _) (.cells #[.bool neg, .string n, .string d] 26)).alloc (by simp) (.cells #[.bool false, .string ⟨#[]⟩, .string ⟨#[]⟩] 26);obtain ⟨W2, hW2⟩ : ∃ W2, (w.alloc (.cells #[.bool neg, .string n, .string d] 26)).alloc (.cells #[.bool false, .string ⟨#[]⟩, .string ⟨#[]⟩] 26) = W2 := ⟨_, rfl⟩;rw [hW2] at h0 h1 hb;have HB := Lib.hid hb; have H0 := Lib.hid h0; have H1 := Lib.hid h1;obtain ⟨⟨a0, a1, a2⟩, -⟩ := row_cells h0;clear hs2 h0 h1 hb;go_enter Tryz.func99, Tryz.ntmps99;go_wp2_with fail
 refine (HR.out _).mono ?_;rintro e w3 ⟨rfl, hb3⟩;have hr3 := heap_up hb3 H1.out;obtain ⟨⟨b0, b1, b2⟩, -⟩ := row_cells (heap_up hb3 H0.out);obtain ⟨⟨c0, c1, c2⟩, hf⟩ := row_cells hr3;have hf0 := hf 0; have hf1 := hf 1; have hf2 := hf 2;have HB3 := Lib.hid (HB.out.trans (hb3.mono HB.out.size)); have HR3 := Lib.hid hr3;clear hb3 hf hr3;cases R
 ·go_wp2_with fail;refine (HO.out _).mono ?_;rintro e w4 ⟨rfl, hb4⟩;have hr4 := heap_up hb4 HR3.out;obtain ⟨⟨d0, d1, d2⟩, hf⟩ := row_cells hr4;have hg0 := hf 0; have hg1 := hf 1; have hg2 := hf 2;have HR4 := Lib.hid hr4; have HB4 := Lib.hid (HB3.out.trans (hb4.mono HB3.out.size));clear hb4 hf hr4;rw [ofR_zero];unfold rtV;go_wp2_with fail;refine bodyPost_ret (results_cell_row rfl _ _ (w.heap.size + 1) 26 _ (0, 0) _ rfl (row_set HR4.out _ _ _) Tryz.underlying26 rfl (by kernel_rfl)) rfl ?_;refine ⟨?_, below_row HB4.out (by omega) _ _ _⟩;unfold valQ;rw [HRT.out]
  rfl
 ·go_wp2_with fail;refine bodyPost_ret (results_cell_row rfl _ _ (w.heap.size + 1) 26 _ (0, 0) _ rfl (row_set HR3.out _ _ _) Tryz.underlying26 rfl (by kernel_rfl)) rfl ?_;refine ⟨?_, below_row HB3.out (by omega) _ _ _⟩;have := ratV_right HRT.out;unfold ratV at this;rw [this]
end Go.Proofs.YtabfjecegpaoaaaGreatDoor
namespace Go.Proofs.YtabfjecegpaoaaaGreatDoor
open Go Go.RowKit Go.Shelf
open Dgt
set_option linter.unusedVariables false
theorem row_else {W : World} {b g k : Nat} {o : Obj} (h : W.heap[g]? = some o) (hne : b ≠ g) (u : Value) : (W.setCell ⟨b, k, none⟩ u).heap[g]? = some o := by
 simp [World.setCell, Array.getElem?_modify, h, hne]
theorem frz0 {W : World} {b : Nat} {cs : Array Value} {t : TypeId} (h : W.heap[b]? = some (.cells cs t (0, 0))) (i : Nat) : W.frozen? ⟨b, i, none⟩ = false := by
 simp [World.frozen?, h]
def eqR (a b : Rt) : Bool := (a.neg == b.neg) && ((a.num == b.num) && (a.den == b.den))
theorem eqR_iff {a b : Rt} : eqR a b = true ↔ a = b := by
 unfold eqR;simp only [Bool.and_eq_true, beq_iff_eq];exact ⟨fun h => Rt.ext' h.1 h.2.1 h.2.2, fun h => by subst h; exact ⟨rfl, rfl, rfl⟩⟩
theorem eqR_false {a b : Rt} : eqR a b = false ↔ a ≠ b := by
 rw [← Bool.not_eq_true, eqR_iff]
theorem encL_iff {m n : Nat} : (encS m).toList = (encS n).toList ↔ m = n := ⟨fun h => encS_inj (bytes_ext.1 h), fun h => by rw [h]⟩
theorem row_dec (a b : Rt) : (decide (a.neg = b.neg) && (decide ((encS a.num).toList = (encS b.num).toList) && decide ((encS a.den).toList = (encS b.den).toList))) = eqR a b := by
 unfold eqR
 congr 1
 congr 1
 ·by_cases h : a.num = b.num
  ·simp [h]
  ·simp [h, encL_iff]
 ·by_cases h : a.den = b.den
  ·simp [h]
  ·simp [h, encL_iff]
theorem eql3' {x y z : Prop} [Decidable x] [Decidable y] [Decidable z] (w : World) (a b : Value) :
  (if x then if y then if z then Result.ok a w else Result.ok b w else Result.ok b w else Result.ok b w) = Result.ok (bif (decide x && (decide y && decide z)) then a else b) w := by
 by_cases hx : x <;> by_cases hy : y <;> by_cases hz : z <;> simp [hx, hy, hz]
theorem run_neqR {d a : Rt} {E : Bool} (h : eqR d a = E) (w : World) : (binOp .neq 26 (.agg #[.bool d.neg, .string (encS d.num), .string (encS d.den)]) (.agg #[.bool a.neg, .string (encS a.num), .string (encS a.den)])).run Tryz.prog w = .ok (.bool (!E)) w := by
 go_simp;rw [eql3', row_dec, h];cases E <;> rfl
theorem run_eqlR {d a : Rt} {E : Bool} (h : eqR d a = E) (w : World) : (binOp .eql 26 (.agg #[.bool d.neg, .string (encS d.num), .string (encS d.den)]) (.agg #[.bool a.neg, .string (encS a.num), .string (encS a.den)])).run Tryz.prog w = .ok (.bool E) w := by
 go_simp;rw [eql3', row_dec, h];cases E <;> rfl
end Go.Proofs.YtabfjecegpaoaaaGreatDoor
namespace Go.Proofs.YtabfjecegpaoaaaGreatDoor
open Go.RowKit Go.Shelf
open Dgt
set_option linter.unusedVariables false
def InsI (ov : Nat → Rat) (n i : Nat) (s : List Nat) : Prop := ∃ A, s = A ++ List.range' i (n - i) ∧ Ordd ov i A
def InsJ (ov : Nat → Rat) (n i j : Nat) (s : List Nat) : Prop := ∃ A B, s = A ++ i :: (B ++ List.range' (i + 1) (n - (i + 1))) ∧ Ordd ov i (A ++ B) ∧ A.length = j ∧ (∀ b ∈ B, ov b < ov i) ∧ i < n
section
variable {ov : Nat → Rat} {n i j p : Nat} {s : List Nat}
theorem insI_start (h : 1 ≤ n) : InsI ov n 1 (List.range n) := by
 refine ⟨[0], ?_, ⟨List.Perm.refl _, List.pairwise_singleton _ _⟩⟩;obtain ⟨m, rfl⟩ : ∃ m, n = m + 1 := ⟨n - 1, by omega⟩;rw [List.range_eq_range', List.range'_succ]; rfl
theorem insI_end (h : InsI ov n n s) : Ordd ov n s := by
 obtain ⟨A, rfl, h⟩ := h;rw [Nat.sub_self]; simpa using h
theorem insJ_start (h : InsI ov n i s) (hi : i < n) : InsJ ov n i i s := by
 obtain ⟨A, rfl, h⟩ := h;refine ⟨A, [], ?_, by simpa using h, h.len, by simp, hi⟩;rw [List.nil_append];obtain ⟨m, hm⟩ : ∃ m, n - i = m + 1 := ⟨n - i - 1, by omega⟩;rw [hm, List.range'_succ, show n - (i + 1) = m by omega]
theorem insJ_len (h : InsJ ov n i j s) : s.length = n ∧ j ≤ i ∧ i < n := by
 obtain ⟨A, B, rfl, h, hj, -, hi⟩ := h;have := h.len;rw [List.length_append] at this;rw [List.length_append, List.length_cons, List.length_append, List.length_range']; omega
theorem insJ_val (h : InsJ ov n i j s) : s[j]? = some i := by
 obtain ⟨A, B, rfl, h, rfl, -, hi⟩ := h;simp
theorem insJ_lt (h : InsJ ov n i (j + 1) s) (hp : s[j]? = some p) : p < i := by
 obtain ⟨A, B, rfl, h, hj, -, hi⟩ := h;have hjA : j < A.length := by omega
 rw [List.getElem?_append_left hjA, List.getElem?_eq_getElem hjA] at hp;obtain rfl := Option.some.inj hp;exact h.mem.1 (List.mem_append_left _ (List.getElem_mem hjA))
theorem insJ_step (h : InsJ ov n i (j + 1) s) (hp : s[j]? = some p) (hlt : ov p < ov i) : InsJ ov n i j ((s.set (j + 1) p).set j i) := by
 obtain ⟨A, B, rfl, h, hj, hB, hi⟩ := h;have hne : A ≠ [] := fun e => by rw [e] at hj; simp at hj
 obtain ⟨A0, q, rfl⟩ : ∃ A0 q, A = A0 ++ [q] := ⟨A.dropLast, A.getLast hne, (List.dropLast_concat_getLast hne).symm⟩;have hl : A0.length = j := by rw [List.length_append] at hj; simpa using hj
 subst hl;have hq : q = p := by rw [List.append_assoc, List.getElem?_append_right (Nat.le_refl _)] at hp; simpa using hp
 subst hq;refine ⟨A0, q :: B, ?_, by rw [List.append_assoc] at h; exact h, rfl, ?_, hi⟩
 ·simp
 ·intro b hb;rcases List.mem_cons.1 hb with rfl | hb
  ·exact hlt
  ·exact hB b hb
theorem insJ_stop (h : InsJ ov n i j s) (hs : j = 0 ∨ ∃ p, 0 < j ∧ s[j - 1]? = some p ∧ ¬ ov p < ov i) : InsI ov n (i + 1) s := by
 obtain ⟨A, B, rfl, h, hj, hB, hi⟩ := h;refine ⟨A ++ i :: B, by simp, ?_, ?_⟩
 ·refine (List.perm_middle).trans ?_;refine (List.Perm.cons i h.perm).trans ?_;rw [List.range_succ];exact List.perm_append_singleton i _ |>.symm
 ·have hpw := h.pw;rw [List.pairwise_append] at hpw;rw [List.pairwise_append, List.pairwise_cons];refine ⟨hpw.1, ⟨fun b hb => .inl (hB b hb), hpw.2.1⟩, fun a ha x hx => ?_⟩;rcases List.mem_cons.1 hx with rfl | hx
  ·have hai : a < x := h.mem.1 (List.mem_append_left _ ha);rcases hs with h0 | ⟨p, hj0, hp, hn⟩
   ·rw [h0] at hj; rw [List.eq_nil_of_length_eq_zero hj] at ha; cases ha
   ·have hne : A ≠ [] := fun e => by rw [e] at ha; cases ha
    obtain ⟨A0, q, rfl⟩ : ∃ A0 q, A = A0 ++ [q] := ⟨A.dropLast, A.getLast hne, (List.dropLast_concat_getLast hne).symm⟩;have hl : j - 1 = A0.length := by rw [List.length_append] at hj; simp at hj; omega
    have hq : q = p := by rw [hl, List.append_assoc, List.getElem?_append_right (Nat.le_refl _)] at hp; simpa using hp
    subst hq;have hle : ov q ≤ ov a := by
     rcases List.mem_append.1 ha with ha | ha
     ·have h2 := (List.pairwise_append.1 hpw.1).2.2 a ha q (by simp);unfold ahead at h2;rcases h2 with h2 | h2
      ·grind
      ·rw [h2.1]; exact Rat.le_refl
     ·rw [List.mem_singleton.1 ha]; exact Rat.le_refl
    unfold ahead
    by_cases e : ov a = ov x
    ·exact .inr ⟨e, hai⟩
    ·exact .inl (by grind)
  ·exact hpw.2.2 a ha x hx
end
def intsB (s : List Nat) : Array Value := (s.map fun x : Nat => Value.int .i64 (x : Int)).toArray
theorem ints_cell {W : World} {b : Nat} {t : TypeId} {s : List Nat} (h : W.heap[b]? = some (.cells (intsB s) t (0, 0))) {i x : Nat} (hx : s[i]? = some x) : W.cell? ⟨b, i, none⟩ = some (.int .i64 (x : Int)) := by
 rw [Lib.cell_of_heap h]; simp [intsB, hx]
theorem ints_set {W : World} {b : Nat} {t : TypeId} {s : List Nat} (h : W.heap[b]? = some (.cells (intsB s) t (0, 0))) (i x : Nat) : (W.setCell ⟨b, i, none⟩ (.int .i64 (x : Int))).heap[b]? = some (.cells (intsB (s.set i x)) t (0, 0)) := by
 simp [World.setCell, Array.getElem?_modify, h, intsB, List.map_set]
def cel (l : List Rt) : List Value := l.flatMap fun a => [.bool a.neg, .string (encS a.num), .string (encS a.den)]
theorem cel_cons (a : Rt) (l : List Rt) : cel (a :: l) = [.bool a.neg, .string (encS a.num), .string (encS a.den)] ++ cel l := rfl
theorem cel_at : ∀ (l : List Rt) {i : Nat} {a : Rt}, l[i]? = some a → (cel l)[i * 3]? = some (.bool a.neg) ∧ (cel l)[i * 3 + 1]? = some (.string (encS a.num)) ∧ (cel l)[i * 3 + 2]? = some (.string (encS a.den))
 | [], i, a, h => by simp at h
 | x :: l, 0, a, h => by
  obtain rfl : x = a := by simpa using h
  exact ⟨rfl, rfl, rfl⟩
 | x :: l, i + 1, a, h => by
  have := cel_at l (i := i) (a := a) (by simpa using h);rw [cel_cons, show (i + 1) * 3 = 3 + i * 3 by omega];refine ⟨?_, ?_, ?_⟩
  ·rw [List.getElem?_append_right (by simp)]; simpa using this.1
  ·rw [show 3 + i * 3 + 1 = 3 + (i * 3 + 1) by omega, List.getElem?_append_right (by simp)]; simpa using this.2.1
  ·rw [show 3 + i * 3 + 2 = 3 + (i * 3 + 2) by omega, List.getElem?_append_right (by simp)]; simpa using this.2.2
theorem cel_set : ∀ (l : List Rt) {i : Nat} (a : Rt), i < l.length → (((cel l).set (i * 3) (.bool a.neg)).set (i * 3 + 1) (.string (encS a.num))).set (i * 3 + 2) (.string (encS a.den)) = cel (l.set i a)
 | [], i, a, h => absurd h (by simp)
 | x :: l, 0, a, h => rfl
 | x :: l, i + 1, a, h => by
  have := cel_set l (i := i) a (by simpa using h);rw [cel_cons, List.set_cons_succ, cel_cons, ← this];rw [show (i + 1) * 3 = i * 3 + 1 + 1 + 1 by omega]
  rfl
theorem cel_cells {W : World} {b : Nat} {t : TypeId} {l : List Rt} (h : W.heap[b]? = some (.cells (cel l).toArray t (0, 0))) {i : Nat} {a : Rt} (ha : l[i]? = some a) :
  W.cell? ⟨b, i * 3, none⟩ = some (.bool a.neg) ∧ W.cell? ⟨b, i * 3 + 1, none⟩ = some (.string (encS a.num)) ∧ W.cell? ⟨b, i * 3 + 2, none⟩ = some (.string (encS a.den)) := by
 obtain ⟨h1, h2, h3⟩ := cel_at l ha;refine ⟨?_, ?_, ?_⟩ <;> (rw [Lib.cell_of_heap h]; simpa)
theorem cel_store {W : World} {b : Nat} {t : TypeId} {l : List Rt} (h : W.heap[b]? = some (.cells (cel l).toArray t (0, 0))) {i : Nat} (a : Rt) (hi : i < l.length) :
  (((W.setCell ⟨b, i * 3, none⟩ (.bool a.neg)).setCell ⟨b, i * 3 + 1, none⟩ (.string (encS a.num))).setCell ⟨b, i * 3 + 2, none⟩ (.string (encS a.den))).heap[b]? = some (.cells (cel (l.set i a)).toArray t (0, 0)) := by
 rw [← cel_set l a hi];simp [World.setCell, Array.getElem?_modify, h]
end Go.Proofs.YtabfjecegpaoaaaGreatDoor
