/- A region that draws its order, and whose last operations come one behind the other, each behind all before it: the first ones in any order, by their facts; the last ones by a plain walk. No program in sight; each theorem names its conditions. -/
import Derived.Test.YtancflpioigjbaaGreatDoorRgs
namespace Go.Proofs.YtancflpioigjbaaGreatDoor
open Go Go.RowKit
set_option linter.unusedVariables false

def wpTail (P : Program) (ops : Array Oper) (Q : Exit → Act → World → Prop) : Nat → Nat → Act → World → Prop
  | 0, _, a, w => Q .normal a w
  | n + 1, i, a, w => wpOp P ops Q i (fun a' w' => wpTail P ops Q n (i + 1) a' w') a w
def tailB (ops : Array Oper) (L : Nat) : Bool := (List.range ops.size).all fun m => decide (m < L) || needB ops m
/-- an operation that waits for all before it -/
theorem all_before {ops : Array Oper} {i : Nat} {o : Oper} {listed : Array Bool} (hneed : needB ops i = true) (ho : ops[i]? = some o) (hall : ∀ e ∈ o.after, Region.binds .any e = true → listed.getD e.on false = true)
    (hcl : ∀ j o, ops[j]? = some o → listed.getD j false = true → ∀ e ∈ o.after, Region.binds .any e = true → listed.getD e.on false = true) : ∀ j, j < i → listed.getD j false = true := by
  have key : ∀ d m, m + d = i → m < i → listed.getD m false = true := by
    intro d
    induction d using Nat.strongRecOn with
    | _ d ih =>
      intro m hm hmi
      have h1 := List.all_eq_true.1 hneed m (by simp; omega)
      obtain ⟨k, hk, h2⟩ := List.any_eq_true.1 h1
      simp only [List.mem_range] at hk
      simp only [Bool.and_eq_true, decide_eq_true_eq] at h2
      obtain ⟨hmk, h3⟩ := h2
      cases hok : ops[k]? with
      | none => rw [hok] at h3; simp at h3
      | some ok =>
        rw [hok] at h3
        obtain ⟨e, he, h4⟩ := Array.any_eq_true'.1 (show (ok.after.any fun e => decide (e.on = m) && Region.binds .any e) = true from h3)
        simp only [Bool.and_eq_true, decide_eq_true_eq] at h4
        by_cases hki : k = i
        · subst hki
          rw [ho] at hok
          obtain rfl := Option.some.inj hok
          have := hall e he h4.2
          rwa [h4.1] at this
        · have := hcl k ok hok (ih (i - k) (by omega) k (by omega) (by omega)) e he h4.2
          rwa [h4.1] at this
  exact fun j hj => key (i - j) j (by omega) hj
theorem dst_extract (ops : Array Oper) (L j : Nat) (hj : j < L) (hL : L ≤ ops.size) : dstOf (ops.extract 0 L) j = dstOf ops j := by
  unfold dstOf
  rw [Array.getElem?_extract, if_pos (by rw [Nat.min_eq_left hL]; omega), Nat.zero_add]
theorem dst_extract_some {ops : Array Oper} {L j d : Nat} (hL : L ≤ ops.size) (h : dstOf (ops.extract 0 L) j = some d) : j < L ∧ dstOf ops j = some d := by
  have hj := dstOf_lt h
  have : j < L := by simp at hj; omega
  exact ⟨this, by rw [← dst_extract ops L j this hL]; exact h⟩
section
variable {P : Program} {ops : Array Oper} {Q : Exit → Act → World → Prop} {T0 : Array Value} {S : Array Bool → Nat → Value → World → Prop} {R : Array Bool → World → Prop}
/-- one operation more -/
theorem RSt.put_one {listed : Array Bool} {a : Act} {w w' : World} {i : Nat} {o : Oper} {v : Value} (hsl : slotsB ops T0.size = true) (hI : RSt ops T0 S R listed a w) (ho : ops[i]? = some o) (hun' : listed.getD i false = false) (hall : ∀ e ∈ o.after, Region.binds .any e = true → listed.getD e.on false = true)
    (hS : S (listed.setIfInBounds i true) i (gives o.dst v) w') (hR : R (listed.setIfInBounds i true) w') (hkeep : ∀ j u, j ≠ i → listed.getD j false = true → S listed j u w → S (listed.setIfInBounds i true) j u w') : RSt ops T0 S R (listed.setIfInBounds i true) (a.put o.dst v) w' := by
  have hio : i < ops.size := (Array.getElem?_eq_some_iff.1 ho).1
  have hdo : dstOf ops i = o.dst := by simp [dstOf, ho]
  refine ⟨by simpa using hI.lsize, by rw [put_size]; exact hI.size, by rw [put_defers]; exact hI.defers, fun t ht => ?_, fun j hj => ?_, hR, fun j oj hoj hj e he hb => ?_⟩
  · have hne : o.dst ≠ some t := fun e => by
      have := ht i (hdo.trans e)
      simp [hI.lsize, hio] at this
    have hb := hI.base t (fun j hj => by
      by_cases hji : j = i
      · subst hji; exact hun'
      · have := ht j hj
        rwa [getD_set_ne false (Ne.symm hji)] at this)
    cases hd : o.dst with
    | none => simpa [Act.put] using hb
    | some d =>
      show (a.tmps.setIfInBounds d v).getD t undef = _
      rw [getD_set, if_neg (fun h => hne (by rw [hd, h.1]))]
      exact hb
  · by_cases hji : j = i
    · subst hji
      have e : inSlot (a.put o.dst v) (dstOf ops j) = gives o.dst v := by
        rw [hdo]
        cases hd : o.dst with
        | none => rfl
        | some d =>
          show (a.tmps.setIfInBounds d v).getD d undef = v
          rw [getD_set, if_pos ⟨rfl, by rw [hI.size]; exact slots_lt hsl (hdo.trans hd)⟩]
      rw [e]; exact hS
    · have hj' : listed.getD j false = true := by rwa [getD_set_ne false (Ne.symm hji)] at hj
      have e : inSlot (a.put o.dst v) (dstOf ops j) = inSlot a (dstOf ops j) := by
        cases hdj : dstOf ops j with
        | none => rfl
        | some c =>
          cases hd : o.dst with
          | none => rfl
          | some d =>
            show (a.tmps.setIfInBounds d v).getD c undef = _
            rw [getD_set, if_neg (fun h => hji (slots_ne hsl hdj (by rw [hdo, hd, h.1])))]
            rfl
      rw [e]
      exact hkeep j _ hji hj' (hI.vals j hj')
  · by_cases hji : j = i
    · subst hji
      rw [ho] at hoj
      obtain rfl := Option.some.inj hoj
      exact getD_set_true (hall e he hb)
    · have hj' : listed.getD j false = true := by rwa [getD_set_ne false (Ne.symm hji)] at hj
      exact getD_set_true (hI.closed j oj hoj hj' e he hb)
/-- the frame, where just the first ones have come up -/
theorem RSt.frame {listed : Array Bool} {a : Act} {w : World} {L : Nat} {b : Nat → Bool} (hL : L ≤ ops.size) (hsl : slotsB (ops.extract 0 L) T0.size = true) (hov : overB (ops.extract 0 L) T0.size b = true) (hI : RSt ops T0 S R listed a w) (hun : ∀ j, L ≤ j → listed.getD j false = false) :
    a = { tmps := (over b (fun d => a.tmps.getD d undef) 0 T0.toList).toArray, defers := [] } := by
  rw [← fill_over hsl hov]
  have hT : a.tmps = fill (ops.extract 0 L) (fun d => a.tmps.getD d undef) (ops.extract 0 L).size T0 := by
    refine arr_ext (by rw [fill_size]; exact hI.size) fun t => ?_
    rw [fill_get _ _ T0 (fun j d h => slots_lt hsl h) t]
    split
    · rfl
    · rename_i hno
      exact hI.base t fun j hj => by
        rcases Nat.lt_or_ge j L with h | h
        · have h2 := (dst_extract ops L j h hL).trans hj
          exact absurd ⟨j, dstOf_lt h2, h2⟩ hno
        · exact hun j h
  obtain ⟨tm, df⟩ := a
  have hd : df = [] := hI.defers
  subst hd
  rw [← hT]
end
section
variable {P : Program} {ops : Array Oper} {Q : Exit → Act → World → Prop} {T0 : Array Value}
/-- **the rule** -/
theorem wp_region_tail {id : Nat} {w : World} (hm : P.follows .mixedOrders = true) (S : Nat → Value → World → Prop) (L : Nat) (b : Nat → Bool) (hL : L ≤ ops.size) (hov : overB (ops.extract 0 L) T0.size b = true) (hsl : slotsB ops T0.size = true) (hsl' : slotsB (ops.extract 0 L) T0.size = true) (hbk : backR ops = true) (htl : tailB ops L = true)
    (hup : ∀ j v w w', Below w.heap.size w w' → S j v w → S j v w')
    (hstep : ∀ i, i < L → ∀ o listed a w', RAt ops T0 (fun j v w => j < L → S j v w) w i o listed a w' →
      ∀ K : Act → World → Prop, (∀ v w'', S i (gives o.dst v) w'' → Below w'.heap.size w' w'' → K (a.put o.dst v) w'') → wpOp P ops Q i K a w')
    (htail : ∀ (s : Nat → Value) w', (∀ j, j < L → S j (match dstOf ops j with | some d => s d | none => undef) w') → Below w.heap.size w w' → wpTail P ops Q (ops.size - L) L { tmps := (over b s 0 T0.toList).toArray, defers := [] } w') :
    (Code.region id ops true).wp P Q { tmps := T0, defers := [] } w := by
  have hnd : ∀ m, L ≤ m → m < ops.size → needB ops m = true := fun m h1 h2 => by
    have := List.all_eq_true.1 htl m (by simpa using h2)
    simp only [Bool.or_eq_true, decide_eq_true_eq] at this
    rcases this with h | h
    · omega
    · exact h
  have hfin : ∀ listed a w', RSt ops T0 (fun _ j v w => j < L → S j v w) (fun _ w' => Below w.heap.size w w') listed a w' → (∀ j, L ≤ j → listed.getD j false = false) → (∀ j, j < L → listed.getD j false = true) → wpTail P ops Q (ops.size - L) L a w' := by
    intro listed a w' hI hun hall
    rw [hI.frame hL hsl' hov hun]
    refine htail _ w' (fun j hj => ?_) hI.glob
    have := hI.vals j (hall j hj) hj
    cases hd : dstOf ops j with
    | none => rw [hd] at this; exact this
    | some d => rw [hd] at this; exact this
  refine wp_region_inv (fun listed a w' => (RSt ops T0 (fun _ j v w => j < L → S j v w) (fun _ w' => Below w.heap.size w w') listed a w' ∧ ∀ j, L ≤ j → listed.getD j false = false) ∨
    (∃ m, L < m ∧ m ≤ ops.size ∧ listed.size = ops.size ∧ (∀ j, j < ops.size → listed.getD j false = decide (j < m)) ∧ wpTail P ops Q (ops.size - m) m a w')) hm ?_ ?_ ?_
  · exact .inl ⟨⟨by simp, rfl, rfl, fun _ _ => rfl, fun j hj => (by rw [getD_falses] at hj; cases hj), (Below.refl _ _).drew, fun j o _ hj => by rw [getD_falses] at hj; cases hj⟩, fun j _ => getD_falses _ _⟩
  · rintro listed a w' hI i o ho hun hall
    have hio : i < ops.size := (Array.getElem?_eq_some_iff.1 ho).1
    have hun' : listed.getD i false = false := by
      rcases Nat.lt_or_ge i listed.size with h' | h'
      · simp [h'] at hun ⊢; exact hun
      · simp [Array.getElem?_eq_none h'] at hun
    have hset : ∀ m, listed.size = ops.size → (∀ j, j < ops.size → listed.getD j false = decide (j < m)) → i = m → ∀ j, j < ops.size → (listed.setIfInBounds i true).getD j false = decide (j < m + 1) := by
      intro m hls hj him j hjs
      subst him
      by_cases hji : j = i
      · subst hji; simp [hls, hio]
      · rw [getD_set_ne false (Ne.symm hji), hj j hjs]
        simp; omega
    rcases hI with ⟨hI, hL'⟩ | ⟨m, hm1, hm2, hls, hlst, htl'⟩
    · by_cases hiL : i < L
      · refine hstep i hiL o listed a w' ⟨ho, hall, fun t ht => hI.base t (fun j hj => absurd hj (free_ne ht)), hI.vals, hI.glob, hun', hI.closed, hI.base⟩ _ fun v w'' h1 h2 => .inl ⟨?_, fun j hj => (getD_set_ne false (by omega)).trans (hL' j hj)⟩
        exact hI.put_one hsl ho hun' hall (fun _ => h1) (hI.glob.trans (h2.mono hI.glob.size)) fun j u _ _ hS hj => hup j u w' w'' h2 (hS hj)
      · have hb := all_before (hnd i (by omega) hio) ho hall hI.closed
        have hiL : i = L := by
          rcases Nat.lt_or_ge L i with h | h
          · have := hb L h
            rw [hL' L (Nat.le_refl _)] at this; cases this
          · omega
        subst hiL
        have h := hfin listed a w' hI hL' hb
        rw [show ops.size - i = (ops.size - (i + 1)) + 1 by omega] at h
        refine wpOp_mono (fun a' w'' h => .inr ⟨i + 1, by omega, by omega, by simpa using hI.lsize, hset i hI.lsize (fun j hj => ?_) rfl, h⟩) h
        by_cases hji : j < i
        · rw [hb j hji]; simp [hji]
        · rw [hL' j (by omega)]; simp [hji]
    · have him : i = m := by
        have h1 := hlst i hio
        rw [hun'] at h1
        have h2 : ¬ i < m := by simpa using h1.symm
        rcases Nat.lt_or_ge m i with h | h
        · have := all_before (hnd i (by omega) hio) ho hall (fun j o ho' hj e he hb => by
            have hjs : j < ops.size := (Array.getElem?_eq_some_iff.1 ho').1
            have h3 := List.all_eq_true.1 hbk j (by simpa using hjs)
            rw [ho'] at h3
            have h4 := Array.all_eq_true'.1 (show (o.after.all fun e => !Region.binds .any e || decide (e.on < j)) = true from h3) e he
            rw [hb] at h4
            have h5 : e.on < j := by simpa using h4
            have h6 := hlst j hjs
            rw [hj] at h6
            have h7 : j < m := by simpa using h6.symm
            rw [hlst e.on (by omega)]; simp; omega) m h
          rw [hlst m (by omega)] at this
          simp at this
        · omega
      subst him
      have h := htl'
      rw [show ops.size - i = (ops.size - (i + 1)) + 1 by omega] at h
      exact wpOp_mono (fun a' w'' h => .inr ⟨i + 1, by omega, by omega, by simpa using hls, hset i hls hlst rfl, h⟩) h
  · rintro listed a w' hI hr
    have hback : ∀ j o, ops[j]? = some o → ∀ e ∈ o.after, Region.binds .any e = true → e.on < j := fun j o ho e he hb => by
      have h1 := List.all_eq_true.1 hbk j (by simpa using (Array.getElem?_eq_some_iff.1 ho).1)
      rw [ho] at h1
      have h2 := Array.all_eq_true'.1 (show (o.after.all fun e => !Region.binds .any e || decide (e.on < j)) = true from h1) e he
      rw [hb] at h2
      simpa using h2
    rcases hI with ⟨hI, hL'⟩ | ⟨m, hm1, hm2, hls, hlst, htl'⟩
    · have hup : ∀ j, j < ops.size → listed.getD j false = true := fun j hj => by
        have := all_up hI.lsize hback hr j hj
        have hs : j < listed.size := by rw [hI.lsize]; exact hj
        simpa [hs] using this
      have hLs : L = ops.size := by
        rcases Nat.lt_or_ge L ops.size with h | h
        · have := hup L h
          rw [hL' L (Nat.le_refl _)] at this; cases this
        · omega
      have h := hfin listed a w' hI hL' (fun j hj => hup j (by omega))
      rw [hLs, Nat.sub_self] at h
      exact h
    · have hms : m = ops.size := by
        rcases Nat.lt_or_ge m ops.size with h | h
        · have := all_up hls hback hr m h
          have hs : m < listed.size := by rw [hls]; exact h
          have h2 := hlst m h
          simp [hs] at this h2
          rw [this] at h2; cases h2
        · omega
      rw [hms, Nat.sub_self] at htl'
      exact htl'
/-- an operation of the tail, without a guard -/
theorem tail_step {n i : Nat} {o : Oper} {a : Act} {w : World} (ho : ops[i]? = some o) (hg : o.guard = none) (h : Oper.wp P o a w (fun a' w' => wpTail P ops Q n (i + 1) a' w') Q) : wpTail P ops Q (n + 1) i a w := plain_step ho hg h
end
end Go.Proofs.YtancflpioigjbaaGreatDoor
