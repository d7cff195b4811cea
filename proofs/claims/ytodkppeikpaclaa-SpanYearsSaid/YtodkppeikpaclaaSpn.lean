/- Plain lists of spans of days: the right ones, their bounds, and the two ways to combine two lists. No program in sight. -/
import Derived.Lib.Hide
namespace Go.Proofs.Ytodkppeikpaclaa.Spn
set_option linter.unusedVariables false

abbrev Sp := Int × Int
def rightS (s : Sp) : Bool := decide (0 ≤ s.1) && (decide (s.1 < s.2) && decide (s.2 ≤ 3652059))
def coverS (s : Sp) (d : Int) : Bool := rightS s && (decide (s.1 ≤ d) && decide (d < s.2))
def hasB (l : List Sp) (d : Int) : Bool := l.any fun s => coverS s d
theorem rightS_iff (s : Sp) : rightS s = true ↔ 0 ≤ s.1 ∧ s.1 < s.2 ∧ s.2 ≤ 3652059 := by simp [rightS]
theorem coverS_iff (s : Sp) (d : Int) : coverS s d = true ↔ rightS s = true ∧ s.1 ≤ d ∧ d < s.2 := by simp [coverS]
theorem hasB_iff (l : List Sp) (d : Int) : hasB l d = true ↔ ∃ s ∈ l, rightS s = true ∧ s.1 ≤ d ∧ d < s.2 := by
  simp only [hasB, List.any_eq_true, coverS_iff]
theorem hasB_nil (d : Int) : hasB [] d = false := rfl
theorem hasB_cons (s : Sp) (l : List Sp) (d : Int) : hasB (s :: l) d = (coverS s d || hasB l d) := rfl
theorem hasB_append (l m : List Sp) (d : Int) : hasB (l ++ m) d = (hasB l d || hasB m d) := by simp [hasB]

/-! ### strictly increasing lists -/
def Inc : List Int → Prop
  | [] => True
  | [_] => True
  | a :: b :: r => a < b ∧ Inc (b :: r)
theorem Inc.tail {a : Int} {r : List Int} (h : Inc (a :: r)) : Inc r := by
  cases r with
  | nil => trivial
  | cons b r => exact h.2
theorem Inc.head_lt : ∀ {r : List Int} {a : Int}, Inc (a :: r) → ∀ x ∈ r, a < x
  | [], _, _, x, hx => by simp at hx
  | b :: r, a, h, x, hx => by
    rcases List.mem_cons.1 hx with rfl | hx
    · exact h.1
    · have := Inc.head_lt h.2 x hx
      have := h.1; omega
theorem Inc.cons {a : Int} {r : List Int} (h : ∀ x ∈ r, a < x) (hr : Inc r) : Inc (a :: r) := by
  cases r with
  | nil => trivial
  | cons b r => exact ⟨h b (by simp), hr⟩
theorem Inc.ext : ∀ {l m : List Int}, Inc l → Inc m → (∀ x, x ∈ l ↔ x ∈ m) → l = m
  | [], [], _, _, _ => rfl
  | [], b :: m, _, _, h => by have := (h b).2 (by simp); simp at this
  | a :: l, [], _, _, h => by have := (h a).1 (by simp); simp at this
  | a :: l, b :: m, hl, hm, h => by
    have h1 := (h a).1 (by simp)
    have h2 := (h b).2 (by simp)
    have e : a = b := by
      rcases List.mem_cons.1 h1 with e | h1
      · exact e
      rcases List.mem_cons.1 h2 with e | h2
      · exact e.symm
      have := hm.head_lt a h1
      have := hl.head_lt b h2
      omega
    subst e
    rw [Inc.ext hl.tail hm.tail fun x => ?_]
    constructor
    · intro hx
      rcases List.mem_cons.1 ((h x).1 (by simp [hx])) with e | hx'
      · have := hl.head_lt x hx; omega
      · exact hx'
    · intro hx
      rcases List.mem_cons.1 ((h x).2 (by simp [hx])) with e | hx'
      · have := hm.head_lt x hx; omega
      · exact hx'

/-! ### the bounds of two lists -/
def ends (l : List Sp) : List Int := l.flatMap fun s => if rightS s = true then [s.1, s.2] else []
theorem mem_ends {l : List Sp} {x : Int} : x ∈ ends l ↔ ∃ s ∈ l, rightS s = true ∧ (x = s.1 ∨ x = s.2) := by
  simp only [ends, List.mem_flatMap]
  constructor
  · rintro ⟨s, hs, hx⟩
    by_cases h : rightS s = true
    · rw [if_pos h] at hx
      exact ⟨s, hs, h, by simpa using hx⟩
    · rw [if_neg h] at hx; simp at hx
  · rintro ⟨s, hs, h, hx⟩
    exact ⟨s, hs, by rw [if_pos h]; simpa using hx⟩
def withL : List Int → Int → List Int
  | [], n => [n]
  | x :: r, n => if x < n then x :: withL r n else if n < x then n :: x :: r else x :: r
theorem mem_withL : ∀ {l : List Int} {n x : Int}, x ∈ withL l n ↔ x = n ∨ x ∈ l
  | [], n, x => by simp [withL]
  | y :: r, n, x => by
    unfold withL
    split
    · rw [List.mem_cons, mem_withL, List.mem_cons]
      constructor
      · rintro (h | h | h) <;> simp [h]
      · rintro (h | h | h) <;> simp [h]
    split
    · simp
    · have : y = n := by omega
      subst this
      simp
theorem inc_withL : ∀ {l : List Int} {n : Int}, Inc l → Inc (withL l n)
  | [], n, _ => trivial
  | y :: r, n, h => by
    unfold withL
    split
    · rename_i hy
      refine Inc.cons (fun x hx => ?_) (inc_withL h.tail)
      rcases mem_withL.1 hx with rfl | hx
      · exact hy
      · exact h.head_lt x hx
    split
    · rename_i hn
      exact ⟨hn, h⟩
    · exact h
def addS (c : List Int) (s : Sp) : List Int := if rightS s = true then withL (withL c s.1) s.2 else c
def refB (l : List Sp) : List Int := l.foldl addS []
theorem fold_inc : ∀ (l : List Sp) (c : List Int), Inc c → Inc (l.foldl addS c)
  | [], _, h => h
  | s :: l, c, h => by
    rw [List.foldl_cons]
    refine fold_inc l _ ?_
    unfold addS; split
    · exact inc_withL (inc_withL h)
    · exact h
theorem fold_mem : ∀ (l : List Sp) (c : List Int) (x : Int), x ∈ l.foldl addS c ↔ x ∈ c ∨ x ∈ ends l
  | [], c, x => by simp [ends]
  | s :: l, c, x => by
    rw [List.foldl_cons, fold_mem l]
    have e : ends (s :: l) = (if rightS s = true then [s.1, s.2] else []) ++ ends l := by simp [ends]
    rw [e, List.mem_append]
    unfold addS
    split
    · rw [mem_withL, mem_withL]
      simp only [List.mem_cons, List.not_mem_nil, or_false]
      constructor
      · rintro ((h | h | h) | h) <;> simp [h]
      · rintro (h | (h | h) | h) <;> simp [h]
    · simp
theorem inc_refB (l : List Sp) : Inc (refB l) := fold_inc l [] trivial
theorem mem_refB {l : List Sp} {x : Int} : x ∈ refB l ↔ x ∈ ends l := by rw [refB, fold_mem]; simp
theorem refB_eq {l : List Sp} {c : List Int} (hi : Inc c) (hm : ∀ x, x ∈ c ↔ x ∈ ends l) : refB l = c := Inc.ext (inc_refB l) hi fun x => by rw [mem_refB, hm]
theorem ends_bd {l : List Sp} {x : Int} (h : x ∈ ends l) : 0 ≤ x ∧ x ≤ 3652059 := by
  obtain ⟨s, -, hr, hx⟩ := mem_ends.1 h
  have := (rightS_iff s).1 hr
  rcases hx with rfl | rfl <;> omega
theorem ends_append (a b : List Sp) : ends (a ++ b) = ends a ++ ends b := by simp [ends]

/-! ### the two ways -/
/-- the program's: a span is open from o on (o < 0: none) -/
def run (P : Int → Bool) : Int → List Int → List Sp
  | _, [] => []
  | o, n :: r => if P n = true then (if o < 0 then run P n r else run P o r) else (if o < 0 then run P o r else (o, n) :: run P (-1) r)
/-- the reference's: the last span of the result, and the pieces that follow -/
def pcs (P : Int → Bool) : Option Sp → List Int → List Sp
  | cur, [] => cur.toList
  | cur, [_] => cur.toList
  | cur, n :: n' :: r =>
    if P n = true then
      match cur with
      | none => pcs P (some (n, n')) (n' :: r)
      | some (s, e) => if e = n then pcs P (some (s, n')) (n' :: r) else (s, e) :: pcs P (some (n, n')) (n' :: r)
    else pcs P cur (n' :: r)
/-- no day from the last bound on -/
def Ends (P : Int → Bool) : List Int → Prop
  | [] => True
  | [n] => P n = false
  | _ :: n' :: r => Ends P (n' :: r)
theorem pcs_run (P : Int → Bool) : ∀ (r : List Int) (n : Int), Inc (n :: r) → 0 ≤ n → Ends P (n :: r) →
    (∀ o, 0 ≤ o → pcs P (some (o, n)) (n :: r) = run P o (n :: r)) ∧ pcs P none (n :: r) = run P (-1) (n :: r) ∧ ∀ s e, e < n → pcs P (some (s, e)) (n :: r) = (s, e) :: run P (-1) (n :: r)
  | [], n, _, h0, he => by
    have he : P n = false := he
    refine ⟨fun o ho => ?_, ?_, fun s e hse => ?_⟩
    · simp [pcs, run, he, show ¬ o < 0 by omega]
    · simp [pcs, run, he]
    · simp [pcs, run, he]
  | n' :: r, n, hi, h0, he => by
    obtain ⟨i1, i2, i3⟩ := pcs_run P r n' hi.2 (by have := hi.1; omega) he
    have hlt := hi.1
    cases hp : P n
    · refine ⟨fun o ho => ?_, ?_, fun s e hse => ?_⟩
      · rw [pcs, run, hp]; simp only [Bool.false_eq_true, if_false, if_neg (show ¬ o < 0 by omega)]
        exact i3 o n hlt
      · rw [pcs, run, hp]; simpa using i2
      · rw [pcs, run, hp]
        have := i3 s e (by omega)
        simpa using this
    · refine ⟨fun o ho => ?_, ?_, fun s e hse => ?_⟩
      · rw [pcs, run, hp]; simp only [if_true, if_neg (show ¬ o < 0 by omega)]
        exact i1 o ho
      · rw [pcs, run, hp]; simp only [if_true, show (-1 : Int) < 0 by decide]
        exact i1 n h0
      · rw [pcs, run, hp]; simp only [if_true, show (-1 : Int) < 0 by decide, if_neg (show ¬ e = n by omega)]
        rw [i1 n h0]
theorem pcs_eq {P : Int → Bool} {c : List Int} (hi : Inc c) (h0 : ∀ x ∈ c, 0 ≤ x) (he : Ends P c) : pcs P none c = run P (-1) c := by
  cases c with
  | nil => rfl
  | cons n r => exact (pcs_run P r n hi (h0 n (by simp)) he).2.1
end Go.Proofs.Ytodkppeikpaclaa.Spn
