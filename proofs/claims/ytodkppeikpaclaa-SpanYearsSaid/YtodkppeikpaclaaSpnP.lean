/- Plain: the bounds of a list of spans, sorted and each once; what the combination of two lists covers. -/
import Derived.Test.YtodkppeikpaclaaSpn
import Derived.Lib.SlicesCompact
namespace Go.Proofs.Ytodkppeikpaclaa.Spn
open Go.Lib Go.Sort
set_option linter.unusedVariables false

theorem Inc.snoc : ∀ {c : List Int} {x : Int}, Inc c → (∀ y ∈ c, y < x) → Inc (c ++ [x])
  | [], _, _, _ => trivial
  | [a], x, _, h => ⟨h a (by simp), trivial⟩
  | a :: b :: r, x, hc, h => ⟨hc.1, Inc.snoc (c := b :: r) hc.2 (fun y hy => h y (by simp [hy]))⟩
theorem mem_compactUpTo (d : Array Int) : ∀ (m : Nat) (x : Int), x ∈ compactUpTo d m ↔ ∃ j, j < m ∧ x = d[j]!
  | 0, x => by simp [compactUpTo]
  | m + 1, x => by
    rw [compactUpTo_succ, List.mem_append, mem_compactUpTo d m x]
    constructor
    · rintro (⟨j, hj, rfl⟩ | h)
      · exact ⟨j, by omega, rfl⟩
      · split at h
        · exact ⟨m, by omega, by simpa using h⟩
        · simp at h
    · rintro ⟨j, hj, rfl⟩
      by_cases hjm : j < m
      · exact .inl ⟨j, hjm, rfl⟩
      · have : j = m := by omega
        subst this
        cases hk : keeps d j
        · left
          have hk' : ¬ (j = 0 ∨ d[j]! ≠ d[j - 1]!) := by simpa [keeps] using hk
          have h0 : j ≠ 0 := fun h => hk' (.inl h)
          have he : d[j]! = d[j - 1]! := Classical.byContradiction fun h => hk' (.inr h)
          exact ⟨j - 1, by omega, he⟩
        · right; simp
theorem inc_compactUpTo (d : Array Int) (hs : ∀ i j, i ≤ j → j < d.size → d[i]! ≤ d[j]!) : ∀ m, m ≤ d.size → Inc (compactUpTo d m)
  | 0, _ => by simp [compactUpTo, Inc]
  | m + 1, hm => by
    rw [compactUpTo_succ]
    have ih := inc_compactUpTo d hs m (by omega)
    cases hk : keeps d m
    · simpa using ih
    · simp only [if_true]
      refine ih.snoc fun y hy => ?_
      obtain ⟨j, hj, rfl⟩ := (mem_compactUpTo d m y).1 hy
      have hk' : m = 0 ∨ d[m]! ≠ d[m - 1]! := by simpa [keeps] using hk
      have h1 := hs j (m - 1) (by omega) (by omega)
      have h2 := hs (m - 1) m (by omega) (by omega)
      rcases hk' with h | h
      · omega
      · have : d[m - 1]! ≠ d[m]! := fun e => h e.symm
        omega
def srt (zs : List Int) : List Int := zs.mergeSort fun x y => decide (x ≤ y)
theorem srt_mem {zs : List Int} {x : Int} : x ∈ srt zs ↔ x ∈ zs := (List.mergeSort_perm zs _).mem_iff
theorem srt_len (zs : List Int) : (srt zs).length = zs.length := (List.mergeSort_perm zs _).length_eq
theorem srt_sorted (zs : List Int) : (srt zs).Pairwise (fun x y => x ≤ y) := by
  have h := List.pairwise_mergeSort (le := fun x y : Int => decide (x ≤ y)) (fun a b c h1 h2 => by simp at *; omega) (fun a b => by simp; omega) zs
  exact h.imp fun h => by simpa using h
/-- the bounds of a list of spans, sorted, each once -/
def bnd (l : List Sp) : List Int := Lib.compact (srt (ends l))
theorem mem_bnd {l : List Sp} {x : Int} : x ∈ bnd l ↔ x ∈ ends l := by
  unfold bnd Lib.compact
  rw [mem_compactUpTo, ← srt_mem (zs := ends l)]
  constructor
  · rintro ⟨j, hj, rfl⟩
    have e : (srt (ends l)).toArray[j]! = (srt (ends l))[j] := by rw [getElem!_pos _ j (by simpa using hj)]; simp
    rw [e]
    exact List.getElem_mem hj
  · intro h
    obtain ⟨j, hj, e⟩ := List.getElem_of_mem h
    refine ⟨j, hj, ?_⟩
    rw [getElem!_pos _ j (by simpa using hj)]
    simp [e]
theorem inc_bnd (l : List Sp) : Inc (bnd l) := by
  unfold bnd Lib.compact
  refine inc_compactUpTo _ (fun i j hij hj => ?_) _ (by simp)
  have hj' : j < (srt (ends l)).length := by simpa using hj
  have ei : (srt (ends l)).toArray[i]! = (srt (ends l))[i] := by rw [getElem!_pos _ i (by simp; omega)]; simp
  have ej : (srt (ends l)).toArray[j]! = (srt (ends l))[j] := by rw [getElem!_pos _ j (by simpa using hj)]; simp
  rw [ei, ej]
  rcases Nat.lt_or_ge i j with h | h
  · exact List.pairwise_iff_getElem.1 (srt_sorted _) i j (by omega) hj' h
  · have : i = j := by omega
    subst this; exact Int.le_refl _
theorem bnd_len (l : List Sp) : (bnd l).length ≤ (ends l).length := by
  unfold bnd Lib.compact compactUpTo
  rw [List.length_map]
  refine Nat.le_trans (List.length_filter_le _ _) ?_
  simp [srt_len]
theorem ends_len : ∀ l : List Sp, (ends l).length ≤ 2 * l.length
  | [] => by simp [ends]
  | s :: l => by
    have e : ends (s :: l) = (if rightS s = true then [s.1, s.2] else []) ++ ends l := by simp [ends]
    rw [e, List.length_append, List.length_cons]
    have := ends_len l
    split <;> simp <;> omega
theorem refB_bnd (l : List Sp) : refB l = bnd l := refB_eq (inc_bnd l) fun _ => mem_bnd

/-! ### what is covered -/
theorem cover_last {l : List Sp} {n : Int} (h : ∀ x ∈ ends l, x ≤ n) : hasB l n = false := by
  cases hh : hasB l n
  · rfl
  · exfalso
    obtain ⟨s, hs, hr, h1, h2⟩ := (hasB_iff l n).1 hh
    have := h s.2 (mem_ends.2 ⟨s, hs, hr, .inr rfl⟩)
    omega
theorem hasB_step {l : List Sp} {n n' d : Int} (h : ∀ x ∈ ends l, x ≤ n ∨ n' ≤ x) (h1 : n ≤ d) (h2 : d < n') : hasB l d = hasB l n := by
  have key : ∀ s ∈ l, coverS s d = coverS s n := by
    intro s hs
    cases hr : rightS s
    · simp [coverS, hr]
    · have e1 := h s.1 (mem_ends.2 ⟨s, hs, hr, .inl rfl⟩)
      have e2 := h s.2 (mem_ends.2 ⟨s, hs, hr, .inr rfl⟩)
      have a : decide (s.1 ≤ d) = decide (s.1 ≤ n) := decide_eq_decide.2 (by omega)
      have b : decide (d < s.2) = decide (n < s.2) := decide_eq_decide.2 (by omega)
      simp [coverS, hr, a, b]
  unfold hasB
  rw [Bool.eq_iff_iff, List.any_eq_true, List.any_eq_true]
  constructor
  · rintro ⟨s, hs, h⟩; exact ⟨s, hs, by rw [← key s hs]; exact h⟩
  · rintro ⟨s, hs, h⟩; exact ⟨s, hs, by rw [key s hs]; exact h⟩
/-- which days a rule takes, of two lists -/
def both (f : Bool → Bool → Bool) (a b : List Sp) (d : Int) : Bool := f (hasB a d) (hasB b d)
/-- the combination of two lists by a rule -/
def comb (f : Bool → Bool → Bool) (a b : List Sp) : List Sp := run (both f a b) (-1) (bnd (a ++ b))
theorem Ends.of {P : Int → Bool} : ∀ {c : List Int}, Inc c → (∀ n ∈ c, (∀ x ∈ c, x ≤ n) → P n = false) → Ends P c
  | [], _, _ => trivial
  | [n], _, h => h n (by simp) (by simp)
  | n :: n' :: r, hi, h => Ends.of (c := n' :: r) hi.2 fun x hx hm => h x (by simp [hx]) (fun y hy => by
      rcases List.mem_cons.1 hy with rfl | hy
      · have := hi.head_lt x hx; omega
      · exact hm y hy)
theorem ends_both {f : Bool → Bool → Bool} (hf : f false false = false) (a b : List Sp) : Ends (both f a b) (bnd (a ++ b)) := by
  refine Ends.of (inc_bnd _) fun n hn hm => ?_
  have h : ∀ x ∈ ends a ++ ends b, x ≤ n := fun x hx => hm x (mem_bnd.2 (by rw [ends_append]; exact hx))
  unfold both
  rw [cover_last (l := a) fun x hx => h x (List.mem_append.2 (.inl hx)), cover_last (l := b) fun x hx => h x (List.mem_append.2 (.inr hx)), hf]
theorem bnd_bd {l : List Sp} {x : Int} (h : x ∈ bnd l) : 0 ≤ x ∧ x ≤ 3652059 := ends_bd (mem_bnd.1 h)
/-- the reference's pieces are the program's combination -/
theorem pcs_comb {f : Bool → Bool → Bool} (hf : f false false = false) (a b : List Sp) : pcs (both f a b) none (refB (a ++ b)) = comb f a b := by
  rw [refB_bnd]
  exact pcs_eq (inc_bnd _) (fun x hx => (bnd_bd hx).1) (ends_both hf a b)

def orF (x y : Bool) : Bool := x || y
def andF (x y : Bool) : Bool := x && y
def lessF (x y : Bool) : Bool := x && !y
def norm (l : List Sp) : List Sp := comb orF l []
theorem run_len (P : Int → Bool) : ∀ (c : List Int) (o : Int), (run P o c).length ≤ c.length
  | [], o => by simp [run]
  | n :: r, o => by
    have h1 := run_len P r n
    have h2 := run_len P r o
    have h3 := run_len P r (-1)
    rw [run, List.length_cons]
    split <;> split <;> simp <;> omega
theorem run_mem (P : Int → Bool) : ∀ (c : List Int) (o : Int), ∀ s ∈ run P o c, (s.1 = o ∨ s.1 ∈ c ∨ s.1 = -1) ∧ s.2 ∈ c
  | [], o, s, h => by simp [run] at h
  | n :: r, o, s, h => by
    rw [run] at h
    split at h
    · split at h
      · obtain ⟨h1, h2⟩ := run_mem P r n s h
        refine ⟨?_, by simp [h2]⟩
        rcases h1 with h1 | h1 | h1 <;> simp [h1]
      · obtain ⟨h1, h2⟩ := run_mem P r o s h
        refine ⟨?_, by simp [h2]⟩
        rcases h1 with h1 | h1 | h1 <;> simp [h1]
    · split at h
      · obtain ⟨h1, h2⟩ := run_mem P r o s h
        refine ⟨?_, by simp [h2]⟩
        rcases h1 with h1 | h1 | h1 <;> simp [h1]
      · rcases List.mem_cons.1 h with rfl | h
        · exact ⟨.inl rfl, by simp⟩
        · obtain ⟨h1, h2⟩ := run_mem P r (-1) s h
          refine ⟨?_, by simp [h2]⟩
          rcases h1 with h1 | h1 | h1 <;> simp [h1]
theorem comb_bd (f : Bool → Bool → Bool) (a b : List Sp) : ∀ s ∈ comb f a b, (-1 ≤ s.1 ∧ s.1 ≤ 3652059) ∧ (0 ≤ s.2 ∧ s.2 ≤ 3652059) := by
  intro s hs
  obtain ⟨h1, h2⟩ := run_mem _ _ _ s hs
  have e2 := bnd_bd h2
  refine ⟨?_, e2⟩
  rcases h1 with h1 | h1 | h1
  · omega
  · have := bnd_bd h1; omega
  · omega
theorem comb_len (f : Bool → Bool → Bool) (a b : List Sp) : (comb f a b).length ≤ 2 * (a.length + b.length) := by
  have h1 := run_len (both f a b) (bnd (a ++ b)) (-1)
  have h2 := bnd_len (a ++ b)
  have h3 := ends_len (a ++ b)
  simp at h3
  unfold comb
  omega
theorem norm_bd (l : List Sp) : ∀ s ∈ norm l, (-1 ≤ s.1 ∧ s.1 ≤ 3652059) ∧ (0 ≤ s.2 ∧ s.2 ≤ 3652059) := comb_bd _ _ _
theorem norm_len (l : List Sp) : (norm l).length ≤ 2 * l.length := by have := comb_len orF l []; simpa [norm] using this
/-- the days of a list, one span after the other -/
def daysL (l : List Sp) : Int := l.foldl (fun n s => n + (s.2 - s.1)) 0
theorem daysL_next {l : List Sp} {k : Nat} (h : k < l.length) : daysL (l.take (k + 1)) = daysL (l.take k) + (l[k].2 - l[k].1) := by
  unfold daysL
  rw [List.take_succ_eq_append_getElem h, List.foldl_append]
  rfl
theorem daysL_abs : ∀ (l : List Sp) (a : Int), l.foldl (fun n s => n + (s.2 - s.1)) a = a + daysL l
  | [], a => by simp [daysL]
  | s :: l, a => by
    have e : daysL (s :: l) = l.foldl (fun n s => n + (s.2 - s.1)) (0 + (s.2 - s.1)) := rfl
    rw [List.foldl_cons, daysL_abs l, e, daysL_abs l]; omega
theorem daysL_cons (s : Sp) (l : List Sp) : daysL (s :: l) = (s.2 - s.1) + daysL l := by
  show l.foldl (fun n s => n + (s.2 - s.1)) (0 + (s.2 - s.1)) = _
  rw [daysL_abs]; omega
theorem daysL_bd : ∀ (l : List Sp), (∀ s ∈ l, (-1 ≤ s.1 ∧ s.1 ≤ 3652059) ∧ (0 ≤ s.2 ∧ s.2 ≤ 3652059)) → -(3700000 * (l.length : Int)) ≤ daysL l ∧ daysL l ≤ 3700000 * (l.length : Int)
  | [], _ => by simp [daysL]
  | s :: l, h => by
    have h1 := h s (by simp)
    obtain ⟨h2, h3⟩ := daysL_bd l fun x hx => h x (by simp [hx])
    rw [daysL_cons, List.length_cons]
    constructor <;> (rw [Int.natCast_add]; omega)
/-- how a term runs over the spans of a normal list: the day that is reached and what is left -/
def cntL : List Sp → Int → Int → Int × Int
  | [], d, n => (d, n)
  | s :: r, d, n => if n ≤ max (s.1 - d) 0 then (d, n) else cntL r (max d s.2) (n - max (s.1 - d) 0)
def cntIn (d n : Int) : Bool := decide (0 ≤ d ∧ d ≤ 3652058 ∧ 0 ≤ n ∧ n ≤ 3652058)
def cntOk (l : List Sp) (d n : Int) : Bool := cntIn d n && decide ((cntL (norm l) d n).1 + (cntL (norm l) d n).2 ≤ 3652058)
def cntN (l : List Sp) (d n : Int) : Int := if cntOk l d n = true then (cntL (norm l) d n).1 + (cntL (norm l) d n).2 else 0
theorem cnt_no {l : List Sp} {d n : Int} (h : d < 0 ∨ 3652058 < d ∨ n < 0 ∨ 3652058 < n) : cntOk l d n = false ∧ cntN l d n = 0 := by
  have e : cntIn d n = false := by simp only [cntIn, decide_eq_false_iff_not]; omega
  have : cntOk l d n = false := by simp [cntOk, e]
  exact ⟨this, by simp [cntN, this]⟩
theorem cnt_yes {l : List Sp} {d n : Int} (h : 0 ≤ d ∧ d ≤ 3652058) (h' : 0 ≤ n ∧ n ≤ 3652058) :
    ((cntL (norm l) d n).1 + (cntL (norm l) d n).2 ≤ 3652058 → cntOk l d n = true ∧ cntN l d n = (cntL (norm l) d n).1 + (cntL (norm l) d n).2) ∧
    (3652058 < (cntL (norm l) d n).1 + (cntL (norm l) d n).2 → cntOk l d n = false ∧ cntN l d n = 0) := by
  have e : cntIn d n = true := by simp only [cntIn, decide_eq_true_eq]; omega
  refine ⟨fun h2 => ?_, fun h2 => ?_⟩
  · have : cntOk l d n = true := by simp [cntOk, e, h2]
    exact ⟨this, by simp [cntN, this]⟩
  · have : cntOk l d n = false := by simp [cntOk, e]; omega
    exact ⟨this, by simp [cntN, this]⟩
/-- a span's days are at least one where the span is right -/
theorem rights_days {l : List Sp} (h : ∀ s ∈ l, rightS s = true) : 0 ≤ daysL l ∧ daysL l ≤ 3700000 * l.length := by
  induction l with
  | nil => simp [daysL]
  | cons s l ih =>
    have e : daysL (s :: l) = (s.2 - s.1) + daysL l := by
      show l.foldl (fun n s => n + (s.2 - s.1)) (0 + (s.2 - s.1)) = _
      rw [daysL_abs]; omega
    have h1 := (rightS_iff s).1 (h s (by simp))
    obtain ⟨h2, h3⟩ := ih fun x hx => h x (by simp [hx])
    rw [e, List.length_cons]
    constructor
    · omega
    · rw [Int.natCast_add]; omega
end Go.Proofs.Ytodkppeikpaclaa.Spn
