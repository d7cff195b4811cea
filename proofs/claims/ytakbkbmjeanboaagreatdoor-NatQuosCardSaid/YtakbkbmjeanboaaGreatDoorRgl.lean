/- A region that draws its order, in which one operation waits for all others, and one more behind it takes its value. No program in sight; each theorem names its conditions. -/
import Derived.Test.YtakbkbmjeanboaaGreatDoorRgn
namespace Go.Proofs.YtakbkbmjeanboaaGreatDoor
open Go Go.RowKit
set_option linter.unusedVariables false
/-- for each operation ahead of L there is a later one, not behind L, that waits for it -/
def needB (ops : Array Oper) (L : Nat) : Bool := (List.range L).all fun j => (List.range (L + 1)).any fun k => decide (j < k) && (ops[k]?).any fun o => o.after.any fun e => decide (e.on = j) && Region.binds .any e
theorem need_up {ops : Array Oper} {L : Nat} (h : needB ops L = true) {listed : Array Bool} (hcl : ∀ j o, ops[j]? = some o → listed.getD j false = true → ∀ e ∈ o.after, Region.binds .any e = true → listed.getD e.on false = true)
    (hL : listed.getD L false = true) : ∀ d j, j + d = L → listed.getD j false = true := by
  intro d
  induction d using Nat.strongRecOn with
  | _ d ih =>
    intro j hj
    rcases Nat.eq_zero_or_pos d with rfl | hd
    · rw [show j = L by omega]; exact hL
    · have h1 := List.all_eq_true.1 h j (by simp; omega)
      obtain ⟨k, hk, h2⟩ := List.any_eq_true.1 h1
      simp only [List.mem_range] at hk
      simp only [Bool.and_eq_true, decide_eq_true_eq] at h2
      obtain ⟨hjk, h3⟩ := h2
      cases ho : ops[k]? with
      | none => rw [ho] at h3; simp at h3
      | some o =>
        rw [ho] at h3
        obtain ⟨e, he, h4⟩ := Array.any_eq_true'.1 (show (o.after.any fun e => decide (e.on = j) && Region.binds .any e) = true from h3)
        simp only [Bool.and_eq_true, decide_eq_true_eq] at h4
        have := hcl k o ho (ih (L - k) (by omega) k (by omega)) e he h4.2
        rwa [h4.1] at this
section
variable {P : Program} {ops : Array Oper} {Q : Exit → Act → World → Prop} {T0 : Array Value}
theorem wp_region_last {id : Nat} {w : World} (hm : P.follows .mixedOrders = true) (S : Nat → Value → World → Prop) (U : Value → World → Prop) (L : Nat) (b : Nat → Bool) (hov : overB ops T0.size b = true) (hsl : slotsB ops T0.size = true) (hbk : backR ops = true)
    (hneed : needB ops L = true) (hnext : needB ops (L + 1) = true) (hsz : ops.size = L + 2)
    (hup : ∀ j v w w', Below w.heap.size w w' → S j v w → S j v w')
    (hstep : ∀ i, i < L → ∀ o listed a w', RAt ops T0 (fun j v w => j < L → S j v w) w i o listed a w' →
      ∀ K : Act → World → Prop, (∀ v w'', S i (gives o.dst v) w'' → Below w'.heap.size w' w'' → K (a.put o.dst v) w'') → wpOp P ops Q i K a w')
    (hlast : ∀ o a w', ops[L]? = some o → (∀ j, j < L → S j (inSlot a (dstOf ops j)) w') → Below w.heap.size w w' → (∀ t, freeB ops t = true → a.tmps.getD t undef = T0.getD t undef) →
      ∀ K : Act → World → Prop, (∀ v w'', U (gives o.dst v) w'' → K (a.put o.dst v) w'') → wpOp P ops Q L K a w')
    (hthen : ∀ o a w', ops[L + 1]? = some o → U (inSlot a (dstOf ops L)) w' → ∀ K : Act → World → Prop, (∀ v, U (gives o.dst v) w' → K (a.put o.dst v) w') → wpOp P ops Q (L + 1) K a w')
    (hdone : ∀ (s : Nat → Value) w', U (match dstOf ops L with | some d => s d | none => undef) w' → U (match dstOf ops (L + 1) with | some d => s d | none => undef) w' → Q .normal { tmps := (over b s 0 T0.toList).toArray, defers := [] } w') :
    (Code.region id ops true).wp P Q { tmps := T0, defers := [] } w := by
  refine wp_region_full (S := fun listed j v w' => (j < L → listed.getD L false = false → S j v w') ∧ (L ≤ j → U v w')) (R := fun listed w' => listed.getD L false = false → Below w.heap.size w w') hm hsl hbk (fun _ => (Below.refl _ _).drew) ?_ ?_
  · intro i o ho listed a w' hI hun hall K hK
    have hio : i < ops.size := (Array.getElem?_eq_some_iff.1 ho).1
    have hdo : dstOf ops i = o.dst := by simp [dstOf, ho]
    have hback : ∀ j, listed.getD (L + 1) false = true → j ≤ L + 1 → listed.getD j false = true := fun j h hj => need_up hnext hI.closed h (L + 1 - j) j (by omega)
    rcases Nat.lt_trichotomy i L with hiL | hiL | hiL
    · have hLu : listed.getD L false = false := by
        cases h : listed.getD L false
        · rfl
        · have := need_up hneed hI.closed h (L - i) i (by omega)
          rw [hun] at this; cases this
      have hLu' : (listed.setIfInBounds i true).getD L false = false := by rw [getD_set_ne false (by omega)]; exact hLu
      refine hstep i hiL o listed a w' ⟨ho, hall, fun t ht => hI.base t (fun j hj => absurd hj (free_ne ht)), fun j hj hjL => (hI.vals j hj).1 hjL hLu, hI.glob hLu, hun, hI.closed, hI.base⟩ K fun v w'' h1 h2 => hK v w'' ⟨fun _ _ => h1, fun h => by omega⟩ (fun _ => (hI.glob hLu).trans (h2.mono (hI.glob hLu).size)) fun j u hji hj hS => ⟨fun hjL _ => hup j u w' w'' h2 (hS.1 hjL hLu), fun hjL => ?_⟩
      exfalso
      have hj2 : j = L ∨ j = L + 1 := by
        have : j < ops.size := by
          rcases Nat.lt_or_ge j listed.size with h' | h'
          · rw [hI.lsize] at h'; exact h'
          · simp [Array.getElem?_eq_none h'] at hj
        omega
      rcases hj2 with rfl | rfl
      · rw [hLu] at hj; cases hj
      · have := hback L hj (by omega); rw [hLu] at this; cases this
    · subst hiL
      have hall' : ∀ j, j < i → listed.getD j false = true := by
        intro j hj
        -- op i waits, through later ones, for all
        have hl2 : ∀ d j, j + d = i → j < i → listed.getD j false = true := by
          intro d
          induction d using Nat.strongRecOn with
          | _ d ih =>
            intro j hjd hji
            have h1 := List.all_eq_true.1 hneed j (by simp; omega)
            obtain ⟨k, hk, h2⟩ := List.any_eq_true.1 h1
            simp only [List.mem_range] at hk
            simp only [Bool.and_eq_true, decide_eq_true_eq] at h2
            obtain ⟨hjk, h3⟩ := h2
            cases hok : ops[k]? with
            | none => rw [hok] at h3; simp at h3
            | some ok =>
              rw [hok] at h3
              obtain ⟨e, he, h4⟩ := Array.any_eq_true'.1 (show (ok.after.any fun e => decide (e.on = j) && Region.binds .any e) = true from h3)
              simp only [Bool.and_eq_true, decide_eq_true_eq] at h4
              rcases (by omega : k = i ∨ k < i) with rfl | hki
              · rw [ho] at hok
                obtain rfl := Option.some.inj hok
                have := hall e he h4.2
                rwa [h4.1] at this
              · have := hI.closed k ok hok (ih (i - k) (by omega) k (by omega) hki) e he h4.2
                rwa [h4.1] at this
        exact hl2 (i - j) j (by omega) hj
      refine hlast o a w' ho (fun j hj => (hI.vals j (hall' j hj)).1 hj hun) (hI.glob hun) (fun t ht => hI.base t (fun j hj => absurd hj (free_ne ht))) K fun v w'' hU => hK v w'' ⟨fun h => by omega, fun _ => hU⟩ (fun h => ?_) fun j u hji hj hS => ⟨fun hjL h => ?_, fun hjL => ?_⟩
      · simp [hI.lsize, hio] at h
      · simp [hI.lsize, hio] at h
      · exfalso
        have : j < ops.size := by
          rcases Nat.lt_or_ge j listed.size with h' | h'
          · rw [hI.lsize] at h'; exact h'
          · simp [Array.getElem?_eq_none h'] at hj
        have hj1 : j = i + 1 := by omega
        subst hj1
        have := hback i hj (by omega); rw [hun] at this; cases this
    · have hi1 : i = L + 1 := by omega
      subst hi1
      have hLl : listed.getD L false = true := by
        have h1 := List.all_eq_true.1 hnext L (by simp)
        obtain ⟨k, hk, h2⟩ := List.any_eq_true.1 h1
        simp only [List.mem_range] at hk
        simp only [Bool.and_eq_true, decide_eq_true_eq] at h2
        obtain ⟨hjk, h3⟩ := h2
        have hk1 : k = L + 1 := by omega
        subst hk1
        rw [ho] at h3
        obtain ⟨e, he, h4⟩ := Array.any_eq_true'.1 (show (o.after.any fun e => decide (e.on = L) && Region.binds .any e) = true from h3)
        simp only [Bool.and_eq_true, decide_eq_true_eq] at h4
        have := hall e he h4.2
        rwa [h4.1] at this
      have hLl' : (listed.setIfInBounds (L + 1) true).getD L false = true := by rw [getD_set_ne false (by omega)]; exact hLl
      refine hthen o a w' ho ((hI.vals L hLl).2 (Nat.le_refl _)) K fun v hU => hK v w' ⟨fun h => by omega, fun _ => hU⟩ (fun h => by rw [hLl'] at h; cases h) fun j u hji hj hS => ⟨fun hjL h => (by rw [hLl'] at h; cases h), hS.2⟩
  · intro s listed w' hl hS hR
    rw [fill_over hsl hov]
    exact hdone s w' ((hS L (by omega)).2 (Nat.le_refl _)) ((hS (L + 1) (by omega)).2 (by omega))
end
end Go.Proofs.YtakbkbmjeanboaaGreatDoor
