/- A region that draws its order, some of whose facts are used up: the fact of operation j stands until the operation used j has come up; the last operations come one behind the other. No program in sight; each theorem names its conditions. -/
import Derived.Test.YtancflpioigjbaaGreatDoorRgt
namespace Go.Proofs.YtancflpioigjbaaGreatDoor
open Go Go.RowKit
set_option linter.unusedVariables false
section
variable {P : Program} {ops : Array Oper} {Q : Exit → Act → World → Prop} {T0 : Array Value}
theorem wp_region_used {id : Nat} {w : World} (hm : P.follows .mixedOrders = true) (S : Nat → Value → World → Prop) (used : Nat → Option Nat) (L : Nat) (b : Nat → Bool) (hL : L ≤ ops.size) (hov : overB (ops.extract 0 L) T0.size b = true) (hsl : slotsB ops T0.size = true) (hsl' : slotsB (ops.extract 0 L) T0.size = true) (hbk : backR ops = true) (htl : tailB ops L = true)
    (hup : ∀ j v w w', Below w.heap.size w w' → S j v w → S j v w')
    (hstep : ∀ i, i < L → ∀ o listed a w', RAt ops T0 (fun j v w => j < L → (used j = none ∨ used j = some i) → S j v w) w i o listed a w' →
      ∀ K : Act → World → Prop, (∀ v w'', S i (gives o.dst v) w'' → Below w.heap.size w w'' → (∀ j u, j < L → j ≠ i → used j ≠ some i → listed.getD j false = true → (∀ J, used j = some J → listed.getD J false = false) → S j u w' → S j u w'') → K (a.put o.dst v) w'') →
        (∀ v w'', S i (gives o.dst v) w'' → Below w'.heap.size w' w'' → K (a.put o.dst v) w'') → wpOp P ops Q i K a w')
    (htail : ∀ (s : Nat → Value) w', (∀ j, j < L → used j = none → S j (match dstOf ops j with | some d => s d | none => undef) w') → Below w.heap.size w w' → wpTail P ops Q (ops.size - L) L { tmps := (over b s 0 T0.toList).toArray, defers := [] } w') :
    (Code.region id ops true).wp P Q { tmps := T0, defers := [] } w := by
  have hnd : ∀ m, L ≤ m → m < ops.size → needB ops m = true := fun m h1 h2 => by
    have := List.all_eq_true.1 htl m (by simpa using h2)
    simp only [Bool.or_eq_true, decide_eq_true_eq] at this
    rcases this with h | h
    · omega
    · exact h
  have hfin : ∀ listed a w', RSt ops T0 (fun listed j v w => j < L → (∀ J, used j = some J → listed.getD J false = false) → S j v w) (fun _ w' => Below w.heap.size w w') listed a w' → (∀ j, L ≤ j → listed.getD j false = false) → (∀ j, j < L → listed.getD j false = true) → wpTail P ops Q (ops.size - L) L a w' := by
    intro listed a w' hI hun hall
    rw [hI.frame hL hsl' hov hun]
    refine htail _ w' (fun j hj hu => ?_) hI.glob
    have := hI.vals j (hall j hj) hj (fun J hJ => by rw [hu] at hJ; cases hJ)
    cases hd : dstOf ops j with
    | none => rw [hd] at this; exact this
    | some d => rw [hd] at this; exact this
  refine wp_region_inv (fun listed a w' => (RSt ops T0 (fun listed j v w => j < L → (∀ J, used j = some J → listed.getD J false = false) → S j v w) (fun _ w' => Below w.heap.size w w') listed a w' ∧ ∀ j, L ≤ j → listed.getD j false = false) ∨
    (∃ m, L < m ∧ m ≤ ops.size ∧ listed.size = ops.size ∧ (∀ j, j < ops.size → listed.getD j false = decide (j < m)) ∧ wpTail P ops Q (ops.size - m) m a w')) hm ?_ ?_ ?_
  · exact .inl ⟨⟨by simp, rfl, rfl, fun _ _ => rfl, fun j hj => (by rw [getD_falses] at hj; cases hj), (Below.refl _ _).drew, fun j o _ hj => by rw [getD_falses] at hj; cases hj⟩, fun j _ => getD_falses _ _⟩
  · rintro listed a w' hI i o ho hun hall
    have hio : i < ops.size := (Array.getElem?_eq_some_iff.1 ho).1
    have hun' : listed.getD i false = false := by
      rcases Nat.lt_or_ge i listed.size with h' | h'
      · simp [h'] at hun ⊢; exact hun
      · simp [Array.getElem?_eq_none h'] at hun
    have hset : ∀ m, listed.size = ops.size → (∀ j, j < ops.size → listed.getD j false = decide (j < m)) → i = m → ∀ j, j < ops.size → (listed.setIfInBounds i true).getD j false = decide (j < m + 1) := by
      intro m hls hj him j hjs
      subst him
      by_cases hji : j = i
      · subst hji; simp [hls, hio]
      · rw [getD_set_ne false (Ne.symm hji), hj j hjs]
        simp; omega
    rcases hI with ⟨hI, hL'⟩ | ⟨m, hm1, hm2, hls, hlst, htl'⟩
    · by_cases hiL : i < L
      · have hls : i < listed.size := by rw [hI.lsize]; exact hio
        have key : ∀ v w'', S i (gives o.dst v) w'' → Below w.heap.size w w'' → (∀ j u, j < L → j ≠ i → used j ≠ some i → listed.getD j false = true → (∀ J, used j = some J → listed.getD J false = false) → S j u w' → S j u w'') →
            RSt ops T0 (fun listed j v w => j < L → (∀ J, used j = some J → listed.getD J false = false) → S j v w) (fun _ w' => Below w.heap.size w w') (listed.setIfInBounds i true) (a.put o.dst v) w'' := fun v w'' h1 h2 h3 =>
          hI.put_one hsl ho hun' hall (fun _ _ => h1) h2 fun j u hji hjl hS hj hfree => by
            have hne : used j ≠ some i := fun e => by
              have := hfree i e
              simp [hls] at this
            have hfr : ∀ J, used j = some J → listed.getD J false = false := fun J hJ => by
              have h := hfree J hJ
              by_cases e : i = J
              · subst e; exact hun'
              · rwa [getD_set_ne false e] at h
            exact h3 j u hj hji hne hjl hfr (hS hj hfr)
        exact hstep i hiL o listed a w' ⟨ho, hall, fun t ht => hI.base t (fun j hj => absurd hj (free_ne ht)), fun j hj hjL hu => hI.vals j hj hjL (fun J hJ => by
          rcases hu with h | h
          · rw [h] at hJ; cases hJ
          · rw [h] at hJ; obtain rfl := Option.some.inj hJ; exact hun'), hI.glob, hun', hI.closed, hI.base⟩ _
          (fun v w'' h1 h2 h3 => .inl ⟨key v w'' h1 h2 h3, fun j hj => (getD_set_ne false (by omega)).trans (hL' j hj)⟩)
          (fun v w'' h1 h2 => .inl ⟨key v w'' h1 (hI.glob.trans (h2.mono hI.glob.size)) (fun j u _ _ _ _ _ hS => hup j u w' w'' h2 hS), fun j hj => (getD_set_ne false (by omega)).trans (hL' j hj)⟩)
      · have hb := all_before (hnd i (by omega) hio) ho hall hI.closed
        have hiL : i = L := by
          rcases Nat.lt_or_ge L i with h | h
          · have := hb L h
            rw [hL' L (Nat.le_refl _)] at this; cases this
          · omega
        subst hiL
        have h := hfin listed a w' hI hL' hb
        rw [show ops.size - i = (ops.size - (i + 1)) + 1 by omega] at h
        refine wpOp_mono (fun a' w'' h => .inr ⟨i + 1, by omega, by omega, by simpa using hI.lsize, hset i hI.lsize (fun j hj => ?_) rfl, h⟩) h
        by_cases hji : j < i
        · rw [hb j hji]; simp [hji]
        · rw [hL' j (by omega)]; simp [hji]
    · have him : i = m := by
        have h1 := hlst i hio
        rw [hun'] at h1
        have h2 : ¬ i < m := by simpa using h1.symm
        rcases Nat.lt_or_ge m i with h | h
        · have := all_before (hnd i (by omega) hio) ho hall (fun j o ho' hj e he hb => by
            have hjs : j < ops.size := (Array.getElem?_eq_some_iff.1 ho').1
            have h3 := List.all_eq_true.1 hbk j (by simpa using hjs)
            rw [ho'] at h3
            have h4 := Array.all_eq_true'.1 (show (o.after.all fun e => !Region.binds .any e || decide (e.on < j)) = true from h3) e he
            rw [hb] at h4
            have h5 : e.on < j := by simpa using h4
            have h6 := hlst j hjs
            rw [hj] at h6
            have h7 : j < m := by simpa using h6.symm
            rw [hlst e.on (by omega)]; simp; omega) m h
          rw [hlst m (by omega)] at this
          simp at this
        · omega
      subst him
      have h := htl'
      rw [show ops.size - i = (ops.size - (i + 1)) + 1 by omega] at h
      exact wpOp_mono (fun a' w'' h => .inr ⟨i + 1, by omega, by omega, by simpa using hls, hset i hls hlst rfl, h⟩) h
  · rintro listed a w' hI hr
    have hback : ∀ j o, ops[j]? = some o → ∀ e ∈ o.after, Region.binds .any e = true → e.on < j := fun j o ho e he hb => by
      have h1 := List.all_eq_true.1 hbk j (by simpa using (Array.getElem?_eq_some_iff.1 ho).1)
      rw [ho] at h1
      have h2 := Array.all_eq_true'.1 (show (o.after.all fun e => !Region.binds .any e || decide (e.on < j)) = true from h1) e he
      rw [hb] at h2
      simpa using h2
    rcases hI with ⟨hI, hL'⟩ | ⟨m, hm1, hm2, hls, hlst, htl'⟩
    · have hup : ∀ j, j < ops.size → listed.getD j false = true := fun j hj => by
        have := all_up hI.lsize hback hr j hj
        have hs : j < listed.size := by rw [hI.lsize]; exact hj
        simpa [hs] using this
      have hLs : L = ops.size := by
        rcases Nat.lt_or_ge L ops.size with h | h
        · have := hup L h
          rw [hL' L (Nat.le_refl _)] at this; cases this
        · omega
      have h := hfin listed a w' hI hL' (fun j hj => hup j (by omega))
      rw [hLs, Nat.sub_self] at h
      exact h
    · have hms : m = ops.size := by
        rcases Nat.lt_or_ge m ops.size with h | h
        · have := all_up hls hback hr m h
          have hs : m < listed.size := by rw [hls]; exact h
          have h2 := hlst m h
          simp [hs] at this h2
          rw [this] at h2; cases h2
        · omega
      rw [hms, Nat.sub_self] at htl'
      exact htl'
/-- an append whose run is known -/
theorem wp_append_run {o : Oper} {a : Act} {w : World} {K : Act → World → Prop} {Q : Exit → Act → World → Prop} (s x : Operand) (t : TypeId)
    (ho : o.op = .call { callee := .builtin .append, args := #[s, x], argTypes := #[t, t] }) (vs vx v' : Value) (w' : World) (hs : a.eval s = vs) (hx : a.eval x = vx)
    (hr : (Builtin.append_ #[t, t] o.type #[vs, vx]).run P w = .ok v' w') (h : K (a.put o.dst v') w') : o.wp P a w K Q := by
  unfold Oper.wp execOp
  simp only [ho, resolve, invoke, builtin, Sem.run_bind, Sem.run_pure, Result.andThen_ok, List.map_toArray, List.map_cons, List.map_nil, hs, hx, hr]
  exact h
theorem grown_keep {w w' : World} {b : Option Nat} {g : Nat} {o : Obj} (hg : w.grownBy w' b) (h : w.heap[g]? = some o) (hne : b ≠ some g) : w'.heap[g]? = some o := by
  have hl := (Array.getElem?_eq_some_iff.1 h).1
  rw [← h]
  exact hg.block g hl (fun e => hne e.symm)
end
/-- nothing appended -/
theorem append_none {P : Program} (w : World) (t ty e : TypeId) (i : TypeInfo) (ht : P.underlying t = some (.slice e)) (hi : P.info? e = some i) (p : Option Addr) (n c : Nat) (hnc : n ≤ c) :
    (Builtin.append_ #[t, t] ty #[.slice p n c, .slice none 0 0]).run P w = .ok (.slice p n c) w := by
  cases p <;> simp [Builtin.append_, run_underlying ht, sizeOf, typeInfo, hi, Builtin.lenOf, Builtin.firstCells, loadCells, hnc, storeCells]
end Go.Proofs.YtancflpioigjbaaGreatDoor
