/- A region that draws its order, inside a fence, with two new boxes that are stored into at its end, one behind the other. No program in sight; each theorem names its conditions. -/
import Derived.Test.YtakbkbmjeanboaaGreatDoorRgs
import Derived.OwnWalkIn
import Derived.TacticsInMore
namespace Go.Proofs.YtakbkbmjeanboaaGreatDoor
open Go Go.RowKit
set_option linter.unusedVariables false
section
variable {F : Fence} {n : Nat} {P : Program} {ops : Array Oper} {Q : Exit → Act → World → Prop} {T0 : Array Value} {S : Array Bool → Nat → Value → World → Prop} {R : Array Bool → World → Prop}
/-- the rule in full inside a fence, with two slots whose values differ -/
theorem wpIn_region_full_pair {id : Nat} {w : World} (a1 a2 : Nat) (ha12 : a1 ≠ a2) (hm : P.follows .mixedOrders = true) (hsl : slotsB ops T0.size = true) (hbk : backR ops = true)
    (h0 : R (Array.replicate ops.size false) w.drew)
    (hstep : ∀ i o, ops[i]? = some o → ∀ listed a w, RSt ops T0 S R listed a w → (listed.getD a1 false = true → listed.getD a2 false = true → inSlot a (dstOf ops a1) ≠ inSlot a (dstOf ops a2)) → listed.getD i false = false → (∀ e ∈ o.after, Region.binds .any e = true → listed.getD e.on false = true) →
      ∀ K : Act → World → Prop, (∀ v w', S (listed.setIfInBounds i true) i (gives o.dst v) w' → R (listed.setIfInBounds i true) w' →
        (∀ j, j ≠ i → listed.getD j false = true → S listed j (inSlot a (dstOf ops j)) w → S (listed.setIfInBounds i true) j (inSlot a (dstOf ops j)) w') → (i = a1 → listed.getD a2 false = true → gives o.dst v ≠ inSlot a (dstOf ops a2)) → (i = a2 → listed.getD a1 false = true → gives o.dst v ≠ inSlot a (dstOf ops a1)) → K (a.put o.dst v) w') → wpOpIn F n P ops Q i K a w)
    (h1s : a1 < ops.size) (h2s : a2 < ops.size) (hdone : ∀ (s : Nat → Value) listed w, (∀ j, j < ops.size → listed.getD j false = true) → (∀ j, j < ops.size → S listed j (match dstOf ops j with | some d => s d | none => undef) w) → R listed w → ((match dstOf ops a1 with | some d => s d | none => undef) ≠ (match dstOf ops a2 with | some d => s d | none => undef)) → Q .normal { tmps := fill ops s ops.size T0, defers := [] } w) :
    (Code.region id ops true).wpIn F n P Q { tmps := T0, defers := [] } w := by
  refine wpIn_region_inv (fun listed a w => RSt ops T0 S R listed a w ∧ (listed.getD a1 false = true → listed.getD a2 false = true → inSlot a (dstOf ops a1) ≠ inSlot a (dstOf ops a2))) hm ?_ ?_ ?_
  · exact ⟨⟨by simp, rfl, rfl, fun _ _ => rfl, fun j hj => (by rw [getD_falses] at hj; cases hj), h0, fun j o _ hj => by rw [getD_falses] at hj; cases hj⟩, fun hj => by rw [getD_falses] at hj; cases hj⟩
  · rintro listed a w ⟨hI, hG⟩ i o ho hun hall
    have hun' : listed.getD i false = false := getD_none hun
    have hio : i < ops.size := (Array.getElem?_eq_some_iff.1 ho).1
    have hdo : dstOf ops i = o.dst := by simp [dstOf, ho]
    refine hstep i o ho listed a w hI hG hun' hall _ fun v w' hS hR hkeep hp1 hp2 => ?_
    have hput : ∀ j, inSlot (a.put o.dst v) (dstOf ops j) = if j = i then gives o.dst v else inSlot a (dstOf ops j) := fun j => by
      by_cases hji : j = i
      · subst hji
        rw [if_pos rfl, hdo]
        cases hd : o.dst with
        | none => rfl
        | some d =>
          show (a.tmps.setIfInBounds d v).getD d undef = v
          rw [getD_set, if_pos ⟨rfl, by rw [hI.size]; exact slots_lt hsl (hdo.trans hd)⟩]
      · rw [if_neg hji]
        cases hdj : dstOf ops j with
        | none => rfl
        | some c =>
          cases hd : o.dst with
          | none => rfl
          | some d =>
            show (a.tmps.setIfInBounds d v).getD c undef = _
            rw [getD_set, if_neg (fun h => hji (slots_ne hsl hdj (by rw [hdo, hd, h.1])))]
            rfl
    refine ⟨?_, fun hl1 hl2 => ?_⟩
    rotate_left
    · rw [hput a1, hput a2]
      by_cases h1 : a1 = i
      · rw [if_pos h1, if_neg (fun h => ha12 (h1.trans h.symm))]
        exact hp1 h1.symm (by rwa [getD_set_ne false (fun h => ha12 (h1.trans h))] at hl2)
      · rw [if_neg h1]
        rw [getD_set_ne false (Ne.symm h1)] at hl1
        by_cases h2 : a2 = i
        · rw [if_pos h2]; exact fun h => hp2 h2.symm hl1 h.symm
        · rw [if_neg h2]; rw [getD_set_ne false (Ne.symm h2)] at hl2; exact hG hl1 hl2
    refine ⟨by simpa using hI.lsize, by rw [put_size]; exact hI.size, by rw [put_defers]; exact hI.defers, fun t ht => ?_, fun j hj => ?_, hR, fun j oj hoj hj e he hb => ?_⟩
    · have hne : o.dst ≠ some t := fun e => by
        have := ht i (hdo.trans e)
        simp [hI.lsize, hio] at this
      have hb := hI.base t (fun j hj => by
        by_cases hji : j = i
        · subst hji; exact hun'
        · have := ht j hj
          rwa [getD_set_ne false (Ne.symm hji)] at this)
      cases hd : o.dst with
      | none => simpa [Act.put] using hb
      | some d =>
        show (a.tmps.setIfInBounds d v).getD t undef = _
        rw [getD_set, if_neg (fun h => hne (by rw [hd, h.1]))]
        exact hb
    · by_cases hji : j = i
      · subst hji
        have e : inSlot (a.put o.dst v) (dstOf ops j) = gives o.dst v := by
          rw [hdo]
          cases hd : o.dst with
          | none => rfl
          | some d =>
            show (a.tmps.setIfInBounds d v).getD d undef = v
            rw [getD_set, if_pos ⟨rfl, by rw [hI.size]; exact slots_lt hsl (hdo.trans hd)⟩]
        rw [e]; exact hS
      · have hj' : listed.getD j false = true := by rwa [getD_set_ne false (Ne.symm hji)] at hj
        have e : inSlot (a.put o.dst v) (dstOf ops j) = inSlot a (dstOf ops j) := by
          cases hdj : dstOf ops j with
          | none => rfl
          | some c =>
            cases hd : o.dst with
            | none => rfl
            | some d =>
              show (a.tmps.setIfInBounds d v).getD c undef = _
              rw [getD_set, if_neg (fun h => hji (slots_ne hsl hdj (by rw [hdo, hd, h.1])))]
              rfl
        rw [e]
        exact hkeep j hji hj' (hI.vals j hj')
    · by_cases hji : j = i
      · subst hji
        rw [ho] at hoj
        obtain rfl := Option.some.inj hoj
        exact getD_set_true (hall e he hb)
      · have hj' : listed.getD j false = true := by rwa [getD_set_ne false (Ne.symm hji)] at hj
        exact getD_set_true (hI.closed j oj hoj hj' e he hb)
  · rintro listed a w ⟨hI, hG⟩ hr
    have hup : ∀ j, j < ops.size → listed.getD j false = true := fun j hj => by
      have := all_up hI.lsize (fun j o ho e he hb => by
        have h1 := List.all_eq_true.1 hbk j (by simpa using (Array.getElem?_eq_some_iff.1 ho).1)
        rw [ho] at h1
        have h2 := Array.all_eq_true'.1 (show (o.after.all fun e => !Region.binds .any e || decide (e.on < j)) = true from h1) e he
        rw [hb] at h2
        simpa using h2) hr j hj
      have hs : j < listed.size := by rw [hI.lsize]; exact hj
      simpa [hs] using this
    have hT : a.tmps = fill ops (fun d => a.tmps.getD d undef) ops.size T0 := by
      refine arr_ext (by rw [fill_size]; exact hI.size) fun t => ?_
      rw [fill_get ops _ T0 (fun j d h => slots_lt hsl h) t]
      split
      · rfl
      · rename_i hno
        exact hI.base t fun j hj => absurd ⟨j, dstOf_lt hj, hj⟩ hno
    have ha : a = { tmps := fill ops (fun d => a.tmps.getD d undef) ops.size T0, defers := [] } := by
      obtain ⟨tm, df⟩ := a
      have hd : df = [] := hI.defers
      subst hd
      rw [← hT]
    rw [ha]
    refine hdone _ listed w hup (fun j hj => ?_) hI.glob (by
      have h := hG (hup a1 h1s) (hup a2 h2s)
      cases hd1 : dstOf ops a1 <;> cases hd2 : dstOf ops a2 <;> rw [hd1, hd2] at h <;> exact h)
    have := hI.vals j (hup j hj)
    cases hd : dstOf ops j with
    | none => rw [hd] at this; exact this
    | some d => rw [hd] at this; exact this
end
section
variable {F : Fence} {n : Nat} {P : Program} {ops : Array Oper} {Q : Exit → Act → World → Prop} {T0 : Array Value}
/-- **two new boxes, stored into at the end** -/
theorem wpIn_region_box2 {id : Nat} {w : World} (hm : P.follows .mixedOrders = true) (S : Nat → Value → World → Prop) (U1 U2 : Value → World → Prop) (a1 a2 L : Nat) (z : Value) (t : TypeId) (b : Nat → Bool) (hov : overB ops T0.size b = true) (hsl : slotsB ops T0.size = true) (hbk : backR ops = true)
    (hneed : needB ops L = true) (hnext : needB ops (L + 1) = true) (hsz : ops.size = L + 2) (h1L : a1 < L) (h2L : a2 < L) (h12 : a1 ≠ a2) (d1 d2 : Nat) (hd1 : dstOf ops a1 = some d1) (hd2 : dstOf ops a2 = some d2)
    (hup : ∀ j v w w', Below w.heap.size w w' → S j v w → S j v w') (hup1 : ∀ v w w', Below w.heap.size w w' → U1 v w → U1 v w') (hup2 : ∀ v w w', Below w.heap.size w w' → U2 v w → U2 v w')
    (hbox : ∀ b0 j v w u, w.heap[b0]? = some (.cells #[z] t (0, 0)) → S j v w → S j v (w.setCell ⟨b0, 0, none⟩ u))
    (hbox1 : ∀ b0 v w u, w.heap[b0]? = some (.cells #[z] t (0, 0)) → U1 v w → U1 v (w.setCell ⟨b0, 0, none⟩ u)) (hbox2 : ∀ b0 v w u, w.heap[b0]? = some (.cells #[z] t (0, 0)) → U2 v w → U2 v (w.setCell ⟨b0, 0, none⟩ u))
    (hstep : ∀ i, i < L → i ≠ a1 → i ≠ a2 → ∀ o listed a w', RAt ops T0 (fun j v w => j < L → j ≠ a1 → j ≠ a2 → S j v w) w i o listed a w' →
      ∀ K : Act → World → Prop, (∀ v w'', S i (gives o.dst v) w'' → Below w'.heap.size w' w'' → K (a.put o.dst v) w'') → wpOpIn F n P ops Q i K a w')
    (halloc : ∀ i, i = a1 ∨ i = a2 → ∀ o a w', ops[i]? = some o → ∀ K : Act → World → Prop, K (a.put o.dst (.pointer (some ⟨w'.heap.size, 0, none⟩))) (w'.alloc (.cells #[z] t)) → wpOpIn F n P ops Q i K a w')
    (hst1 : ∀ b0 o listed a w', RAt ops T0 (fun j v w => j < L → j ≠ a1 → j ≠ a2 → S j v w) w L o listed a w' → a.tmps.getD d1 undef = .pointer (some ⟨b0, 0, none⟩) → w'.heap[b0]? = some (.cells #[z] t (0, 0)) →
      ∀ K : Act → World → Prop, (∀ u, U1 u w' → K (a.put o.dst undef) (w'.setCell ⟨b0, 0, none⟩ u)) → wpOpIn F n P ops Q L K a w')
    (hst2 : ∀ b0 o listed a w', RAt ops T0 (fun j v w => j < L → j ≠ a1 → j ≠ a2 → S j v w) w (L + 1) o listed a w' → a.tmps.getD d2 undef = .pointer (some ⟨b0, 0, none⟩) → w'.heap[b0]? = some (.cells #[z] t (0, 0)) →
      ∀ K : Act → World → Prop, (∀ u, U2 u w' → K (a.put o.dst undef) (w'.setCell ⟨b0, 0, none⟩ u)) → wpOpIn F n P ops Q (L + 1) K a w')
    (hdone : ∀ (s : Nat → Value) b1 b2 u1 u2 w', Below w.heap.size w w' → w.heap.size ≤ b1 → w.heap.size ≤ b2 → b1 ≠ b2 → s d1 = .pointer (some ⟨b1, 0, none⟩) → s d2 = .pointer (some ⟨b2, 0, none⟩) → w'.heap[b1]? = some (.cells #[u1] t (0, 0)) → w'.heap[b2]? = some (.cells #[u2] t (0, 0)) → U1 u1 w' → U2 u2 w' →
      Q .normal { tmps := (over b s 0 T0.toList).toArray, defers := [] } w') :
    (Code.region id ops true).wpIn F n P Q { tmps := T0, defers := [] } w := by
  refine wpIn_region_full_pair a1 a2 h12 (S := fun listed j v w' => (j < L → j ≠ a1 → j ≠ a2 → S j v w') ∧
      (j = a1 → ∃ b0, w.heap.size ≤ b0 ∧ v = .pointer (some ⟨b0, 0, none⟩) ∧ (listed.getD L false = false → w'.heap[b0]? = some (.cells #[z] t (0, 0))) ∧ (listed.getD L false = true → ∃ u, w'.heap[b0]? = some (.cells #[u] t (0, 0)) ∧ U1 u w')) ∧
      (j = a2 → ∃ b0, w.heap.size ≤ b0 ∧ v = .pointer (some ⟨b0, 0, none⟩) ∧ (listed.getD (L + 1) false = false → w'.heap[b0]? = some (.cells #[z] t (0, 0))) ∧ (listed.getD (L + 1) false = true → ∃ u, w'.heap[b0]? = some (.cells #[u] t (0, 0)) ∧ U2 u w')))
    (R := fun listed w' => Below w.heap.size w w') hm hsl hbk (Below.refl _ _).drew ?_ (by omega) (by omega) ?_
  · intro i o ho listed a w' hI hG hun hall K hK
    have hio : i < ops.size := (Array.getElem?_eq_some_iff.1 ho).1
    have hA : RAt ops T0 (fun j v w => j < L → j ≠ a1 → j ≠ a2 → S j v w) w i o listed a w' := ⟨ho, hall, fun t ht => hI.base t (fun j hj => absurd hj (free_ne ht)), fun j hj => (hI.vals j hj).1, hI.glob, hun, hI.closed, hI.base⟩
    have hdo : dstOf ops i = o.dst := by simp [dstOf, ho]
    rcases Nat.lt_trichotomy i L with hiL | hiL | hiL
    · -- ahead of the stores
      have hLu : listed.getD L false = false := by
        cases h : listed.getD L false
        · rfl
        · have := need_up hneed hI.closed h (L - i) i (by omega)
          rw [hun] at this; cases this
      have hLu1 : listed.getD (L + 1) false = false := by
        cases h : listed.getD (L + 1) false
        · rfl
        · have := need_up hnext hI.closed h (L + 1 - i) i (by omega)
          rw [hun] at this; cases this
      have hs : ∀ m, m ≠ i → (listed.setIfInBounds i true).getD m false = listed.getD m false := fun m hmi => getD_set_ne false (Ne.symm hmi)
      have hL0 := (hs L (by omega)).trans hLu
      have hL1 := (hs (L + 1) (by omega)).trans hLu1
      have keep : ∀ w'', Below w'.heap.size w' w'' → ∀ j u, (j < L → j ≠ a1 → j ≠ a2 → S j u w') ∧
          (j = a1 → ∃ b0, w.heap.size ≤ b0 ∧ u = .pointer (some ⟨b0, 0, none⟩) ∧ (listed.getD L false = false → w'.heap[b0]? = some (.cells #[z] t (0, 0))) ∧ (listed.getD L false = true → ∃ u, w'.heap[b0]? = some (.cells #[u] t (0, 0)) ∧ U1 u w')) ∧
          (j = a2 → ∃ b0, w.heap.size ≤ b0 ∧ u = .pointer (some ⟨b0, 0, none⟩) ∧ (listed.getD (L + 1) false = false → w'.heap[b0]? = some (.cells #[z] t (0, 0))) ∧ (listed.getD (L + 1) false = true → ∃ u, w'.heap[b0]? = some (.cells #[u] t (0, 0)) ∧ U2 u w')) →
          (j < L → j ≠ a1 → j ≠ a2 → S j u w'') ∧
          (j = a1 → ∃ b0, w.heap.size ≤ b0 ∧ u = .pointer (some ⟨b0, 0, none⟩) ∧ ((listed.setIfInBounds i true).getD L false = false → w''.heap[b0]? = some (.cells #[z] t (0, 0))) ∧ ((listed.setIfInBounds i true).getD L false = true → ∃ u, w''.heap[b0]? = some (.cells #[u] t (0, 0)) ∧ U1 u w'')) ∧
          (j = a2 → ∃ b0, w.heap.size ≤ b0 ∧ u = .pointer (some ⟨b0, 0, none⟩) ∧ ((listed.setIfInBounds i true).getD (L + 1) false = false → w''.heap[b0]? = some (.cells #[z] t (0, 0))) ∧ ((listed.setIfInBounds i true).getD (L + 1) false = true → ∃ u, w''.heap[b0]? = some (.cells #[u] t (0, 0)) ∧ U2 u w'')) := by
        intro w'' h2 j u hS
        refine ⟨fun x y v => hup j u w' w'' h2 (hS.1 x y v), fun e => ?_, fun e => ?_⟩
        · obtain ⟨b0, p1, p2, p3, -⟩ := hS.2.1 e
          exact ⟨b0, p1, p2, fun _ => block_new h2 (p3 hLu), fun h => by rw [hL0] at h; cases h⟩
        · obtain ⟨b0, p1, p2, p3, -⟩ := hS.2.2 e
          exact ⟨b0, p1, p2, fun _ => block_new h2 (p3 hLu1), fun h => by rw [hL1] at h; cases h⟩
      by_cases hi1 : i = a1
      · subst hi1
        refine halloc i (.inl rfl) o a w' ho K (hK _ _ ⟨fun _ h => absurd rfl h, fun _ => ⟨w'.heap.size, hI.glob.size, ?_, fun _ => heap_alloc_new w' _, fun h => by rw [hL0] at h; cases h⟩, fun h => absurd h h12⟩
          (hI.glob.trans (((Below.refl _ w').alloc (Nat.le_refl _) _).mono hI.glob.size)) (fun j _ _ hS => keep _ ((Below.refl _ w').alloc (Nat.le_refl _) _) j _ hS) (fun _ hl2 he => ?_) (fun h => absurd h h12))
        · rw [← hdo, hd1]; rfl
        · obtain ⟨b0, p1, p2, p3, -⟩ := (hI.vals a2 hl2).2.2 rfl
          rw [← hdo, hd1, p2] at he
          have he : Value.pointer (some ⟨w'.heap.size, 0, none⟩) = .pointer (some ⟨b0, 0, none⟩) := he
          injection he with he; injection he with he; injection he with he
          have := (Array.getElem?_eq_some_iff.1 (p3 hLu1)).1
          omega
      · by_cases hi2 : i = a2
        · subst hi2
          refine halloc i (.inr rfl) o a w' ho K (hK _ _ ⟨fun _ _ h => absurd rfl h, fun h => absurd h hi1, fun _ => ⟨w'.heap.size, hI.glob.size, ?_, fun _ => heap_alloc_new w' _, fun h => by rw [hL1] at h; cases h⟩⟩
            (hI.glob.trans (((Below.refl _ w').alloc (Nat.le_refl _) _).mono hI.glob.size)) (fun j _ _ hS => keep _ ((Below.refl _ w').alloc (Nat.le_refl _) _) j _ hS) (fun h => absurd h hi1) (fun _ hl1 he => ?_))
          · rw [← hdo, hd2]; rfl
          · obtain ⟨b0, p1, p2, p3, -⟩ := (hI.vals a1 hl1).2.1 rfl
            rw [← hdo, hd2, p2] at he
            have he : Value.pointer (some ⟨w'.heap.size, 0, none⟩) = .pointer (some ⟨b0, 0, none⟩) := he
            injection he with he; injection he with he; injection he with he
            have := (Array.getElem?_eq_some_iff.1 (p3 hLu)).1
            omega
        · exact hstep i hiL hi1 hi2 o listed a w' hA K fun v w'' h1 h2 => hK v w'' ⟨fun _ _ _ => h1, fun h => absurd h hi1, fun h => absurd h hi2⟩ (hI.glob.trans (h2.mono hI.glob.size)) (fun j _ _ hS => keep _ h2 j _ hS) (fun h => absurd h hi1) (fun h => absurd h hi2)
    · -- the first store
      subst hiL
      have hall' : ∀ j, j < i → listed.getD j false = true := fun j hj => by
        have hup' : ∀ d m, m + d = i → m < i → listed.getD m false = true := by
          intro d
          induction d using Nat.strongRecOn with
          | _ d ih =>
            intro m hm hmi
            have h1 := List.all_eq_true.1 hneed m (by simp; omega)
            obtain ⟨k, hk, h2⟩ := List.any_eq_true.1 h1
            simp only [List.mem_range] at hk
            simp only [Bool.and_eq_true, decide_eq_true_eq] at h2
            obtain ⟨hmk, h3⟩ := h2
            cases hok : ops[k]? with
            | none => rw [hok] at h3; simp at h3
            | some ok =>
              rw [hok] at h3
              obtain ⟨e, he, h4⟩ := Array.any_eq_true'.1 (show (ok.after.any fun e => decide (e.on = m) && Region.binds .any e) = true from h3)
              simp only [Bool.and_eq_true, decide_eq_true_eq] at h4
              by_cases hki : k = i
              · subst hki
                rw [ho] at hok
                obtain rfl := Option.some.inj hok
                have := hall e he h4.2
                rwa [h4.1] at this
              · have := hI.closed k ok hok (ih (i - k) (by omega) k (by omega) (by omega)) e he h4.2
                rwa [h4.1] at this
        exact hup' (i - j) j (by omega) hj
      have hLu1 : listed.getD (i + 1) false = false := by
        cases h : listed.getD (i + 1) false
        · rfl
        · have := need_up hnext hI.closed h 1 i (by omega)
          rw [hun] at this; cases this
      have hL1 : (listed.setIfInBounds i true).getD (i + 1) false = false := (getD_set_ne false (by omega)).trans hLu1
      obtain ⟨b1, p1, p2, p3, -⟩ := (hI.vals a1 (hall' a1 h1L)).2.1 rfl
      obtain ⟨b2, q1, q2, q3, -⟩ := (hI.vals a2 (hall' a2 h2L)).2.2 rfl
      have hne : b1 ≠ b2 := by
        rintro rfl
        exact hG (hall' a1 h1L) (hall' a2 h2L) (p2.trans q2.symm)
      have hz := p3 hun
      have hp2 := p2
      rw [hd1] at hp2
      refine hst1 b1 o listed a w' hA hp2 hz K fun u hU => hK undef _ ⟨fun h => absurd h (Nat.lt_irrefl _), fun h => absurd h (by omega), fun h => absurd h (by omega)⟩ (hI.glob.setCell p1 u) (fun j hj hlj hS => ⟨fun x y v => hbox b1 j _ w' u hz (hS.1 x y v), fun e => ?_, fun e => ?_⟩) (fun h => absurd h (by omega)) (fun h => absurd h (by omega))
      · subst e
        exact ⟨b1, p1, p2, fun h => by simp [hI.lsize, hio] at h, fun _ => ⟨u, box_set hz u, hbox1 _ u w' u hz hU⟩⟩
      · subst e
        refine ⟨b2, q1, q2, fun _ => ?_, fun h => by rw [hL1] at h; cases h⟩
        have := q3 hLu1
        simpa [World.setCell, Array.getElem?_modify, hne] using this
    · -- the second one
      obtain rfl : i = L + 1 := by omega
      have hallL : ∀ j, j ≤ L → listed.getD j false = true := fun j hj => by
        have hup' : ∀ d m, m + d = L + 1 → m ≤ L → listed.getD m false = true := by
          intro d
          induction d using Nat.strongRecOn with
          | _ d ih =>
            intro m hm hmi
            have h1 := List.all_eq_true.1 hnext m (by simp; omega)
            obtain ⟨k, hk, h2⟩ := List.any_eq_true.1 h1
            simp only [List.mem_range] at hk
            simp only [Bool.and_eq_true, decide_eq_true_eq] at h2
            obtain ⟨hmk, h3⟩ := h2
            cases hok : ops[k]? with
            | none => rw [hok] at h3; simp at h3
            | some ok =>
              rw [hok] at h3
              obtain ⟨e, he, h4⟩ := Array.any_eq_true'.1 (show (ok.after.any fun e => decide (e.on = m) && Region.binds .any e) = true from h3)
              simp only [Bool.and_eq_true, decide_eq_true_eq] at h4
              by_cases hki : k = L + 1
              · subst hki
                rw [ho] at hok
                obtain rfl := Option.some.inj hok
                have := hall e he h4.2
                rwa [h4.1] at this
              · have := hI.closed k ok hok (ih (L + 1 - k) (by omega) k (by omega) (by omega)) e he h4.2
                rwa [h4.1] at this
        exact hup' (L + 1 - j) j (by omega) hj
      obtain ⟨b1, p1, p2, -, p3⟩ := (hI.vals a1 (hallL a1 (by omega))).2.1 rfl
      obtain ⟨b2, q1, q2, q3, -⟩ := (hI.vals a2 (hallL a2 (by omega))).2.2 rfl
      obtain ⟨u1, hb1, hu1⟩ := p3 (hallL L (Nat.le_refl _))
      have hne : b2 ≠ b1 := by
        rintro rfl
        exact hG (hallL a1 (by omega)) (hallL a2 (by omega)) (p2.trans q2.symm)
      have hz := q3 hun
      have hq2 := q2
      rw [hd2] at hq2
      refine hst2 b2 o listed a w' hA hq2 hz K fun u hU => hK undef _ ⟨fun h => absurd h (by omega), fun h => absurd h (by omega), fun h => absurd h (by omega)⟩ (hI.glob.setCell q1 u) (fun j hj hlj hS => ⟨fun x y v => hbox b2 j _ w' u hz (hS.1 x y v), fun e => ?_, fun e => ?_⟩) (fun h => absurd h (by omega)) (fun h => absurd h (by omega))
      · subst e
        have hLL : (listed.setIfInBounds (L + 1) true).getD L false = true := getD_set_true (hallL L (Nat.le_refl _))
        refine ⟨b1, p1, p2, (fun h => by rw [hLL] at h; cases h), fun _ => ⟨u1, ?_, hbox1 _ u1 w' u hz hu1⟩⟩
        simpa [World.setCell, Array.getElem?_modify, hne] using hb1
      · subst e
        exact ⟨b2, q1, q2, fun h => by simp [hI.lsize, hio] at h, fun _ => ⟨u, box_set hz u, hbox2 _ u w' u hz hU⟩⟩
  · intro s listed w' hl hS hR hne
    rw [fill_over hsl hov]
    obtain ⟨b1, p1, p2, -, p3⟩ := (hS a1 (by omega)).2.1 rfl
    obtain ⟨b2, q1, q2, -, q3⟩ := (hS a2 (by omega)).2.2 rfl
    obtain ⟨u1, hb1, hu1⟩ := p3 (hl L (by omega))
    obtain ⟨u2, hb2, hu2⟩ := q3 (hl (L + 1) (by omega))
    rw [p2, q2] at hne
    rw [hd1] at p2; rw [hd2] at q2
    exact hdone s b1 b2 u1 u2 w' hR p1 q1 (fun h => hne (by rw [h])) p2 q2 hb1 hb2 hu1 hu2
end
/-! ### where a call stands deferred -/
structure RStD (ds : List Deferred) (ops : Array Oper) (T0 : Array Value) (S : Array Bool → Nat → Value → World → Prop) (R : Array Bool → World → Prop) (listed : Array Bool) (a : Act) (w : World) : Prop where
  lsize : listed.size = ops.size
  size : a.tmps.size = T0.size
  defers : a.defers = ds
  base : ∀ t, (∀ j, dstOf ops j = some t → listed.getD j false = false) → a.tmps.getD t undef = T0.getD t undef
  vals : ∀ j, listed.getD j false = true → S listed j (inSlot a (dstOf ops j)) w
  glob : R listed w
  closed : ∀ j o, ops[j]? = some o → listed.getD j false = true → ∀ e ∈ o.after, Region.binds .any e = true → listed.getD e.on false = true
section
variable {F : Fence} {n : Nat} {P : Program} {ops : Array Oper} {Q : Exit → Act → World → Prop} {T0 : Array Value} {S : Array Bool → Nat → Value → World → Prop} {R : Array Bool → World → Prop}
/-- **the rule, in full, inside a fence**: S may speak of what has come up -/
theorem wpIn_region_full_d (ds : List Deferred) {id : Nat} {w : World} (hm : P.follows .mixedOrders = true) (hsl : slotsB ops T0.size = true) (hbk : backR ops = true)
    (h0 : R (Array.replicate ops.size false) w.drew)
    (hstep : ∀ i o, ops[i]? = some o → ∀ listed a w, RStD ds ops T0 S R listed a w → listed.getD i false = false → (∀ e ∈ o.after, Region.binds .any e = true → listed.getD e.on false = true) →
      ∀ K : Act → World → Prop, (∀ v w', S (listed.setIfInBounds i true) i (gives o.dst v) w' → R (listed.setIfInBounds i true) w' →
        (∀ j, j ≠ i → listed.getD j false = true → S listed j (inSlot a (dstOf ops j)) w → S (listed.setIfInBounds i true) j (inSlot a (dstOf ops j)) w') → K (a.put o.dst v) w') → wpOpIn F n P ops Q i K a w)
    (hdone : ∀ (s : Nat → Value) listed w, (∀ j, j < ops.size → listed.getD j false = true) → (∀ j, j < ops.size → S listed j (match dstOf ops j with | some d => s d | none => undef) w) → R listed w → Q .normal { tmps := fill ops s ops.size T0, defers := ds } w) :
    (Code.region id ops true).wpIn F n P Q { tmps := T0, defers := ds } w := by
  refine wpIn_region_inv (RStD ds ops T0 S R) hm ?_ ?_ ?_
  · exact ⟨by simp, rfl, rfl, fun _ _ => rfl, fun j hj => (by rw [getD_falses] at hj; cases hj), h0, fun j o _ hj => by rw [getD_falses] at hj; cases hj⟩
  · intro listed a w hI i o ho hun hall
    have hun' : listed.getD i false = false := getD_none hun
    have hio : i < ops.size := (Array.getElem?_eq_some_iff.1 ho).1
    have hdo : dstOf ops i = o.dst := by simp [dstOf, ho]
    refine hstep i o ho listed a w hI hun' hall _ fun v w' hS hR hkeep => ?_
    refine ⟨by simpa using hI.lsize, by rw [put_size]; exact hI.size, by rw [put_defers]; exact hI.defers, fun t ht => ?_, fun j hj => ?_, hR, fun j oj hoj hj e he hb => ?_⟩
    · have hne : o.dst ≠ some t := fun e => by
        have := ht i (hdo.trans e)
        simp [hI.lsize, hio] at this
      have hb := hI.base t (fun j hj => by
        by_cases hji : j = i
        · subst hji; exact hun'
        · have := ht j hj
          rwa [getD_set_ne false (Ne.symm hji)] at this)
      cases hd : o.dst with
      | none => simpa [Act.put] using hb
      | some d =>
        show (a.tmps.setIfInBounds d v).getD t undef = _
        rw [getD_set, if_neg (fun h => hne (by rw [hd, h.1]))]
        exact hb
    · by_cases hji : j = i
      · subst hji
        have e : inSlot (a.put o.dst v) (dstOf ops j) = gives o.dst v := by
          rw [hdo]
          cases hd : o.dst with
          | none => rfl
          | some d =>
            show (a.tmps.setIfInBounds d v).getD d undef = v
            rw [getD_set, if_pos ⟨rfl, by rw [hI.size]; exact slots_lt hsl (hdo.trans hd)⟩]
        rw [e]; exact hS
      · have hj' : listed.getD j false = true := by rwa [getD_set_ne false (Ne.symm hji)] at hj
        have e : inSlot (a.put o.dst v) (dstOf ops j) = inSlot a (dstOf ops j) := by
          cases hdj : dstOf ops j with
          | none => rfl
          | some c =>
            cases hd : o.dst with
            | none => rfl
            | some d =>
              show (a.tmps.setIfInBounds d v).getD c undef = _
              rw [getD_set, if_neg (fun h => hji (slots_ne hsl hdj (by rw [hdo, hd, h.1])))]
              rfl
        rw [e]
        exact hkeep j hji hj' (hI.vals j hj')
    · by_cases hji : j = i
      · subst hji
        rw [ho] at hoj
        obtain rfl := Option.some.inj hoj
        exact getD_set_true (hall e he hb)
      · have hj' : listed.getD j false = true := by rwa [getD_set_ne false (Ne.symm hji)] at hj
        exact getD_set_true (hI.closed j oj hoj hj' e he hb)
  · intro listed a w hI hr
    have hup : ∀ j, j < ops.size → listed.getD j false = true := fun j hj => by
      have := all_up hI.lsize (fun j o ho e he hb => by
        have h1 := List.all_eq_true.1 hbk j (by simpa using (Array.getElem?_eq_some_iff.1 ho).1)
        rw [ho] at h1
        have h2 := Array.all_eq_true'.1 (show (o.after.all fun e => !Region.binds .any e || decide (e.on < j)) = true from h1) e he
        rw [hb] at h2
        simpa using h2) hr j hj
      have hs : j < listed.size := by rw [hI.lsize]; exact hj
      simpa [hs] using this
    have hT : a.tmps = fill ops (fun d => a.tmps.getD d undef) ops.size T0 := by
      refine arr_ext (by rw [fill_size]; exact hI.size) fun t => ?_
      rw [fill_get ops _ T0 (fun j d h => slots_lt hsl h) t]
      split
      · rfl
      · rename_i hno
        exact hI.base t fun j hj => absurd ⟨j, dstOf_lt hj, hj⟩ hno
    have ha : a = { tmps := fill ops (fun d => a.tmps.getD d undef) ops.size T0, defers := ds } := by
      obtain ⟨tm, df⟩ := a
      have hd : df = ds := hI.defers
      subst hd
      rw [← hT]
    rw [ha]
    refine hdone _ listed w hup (fun j hj => ?_) hI.glob
    have := hI.vals j (hup j hj)
    cases hd : dstOf ops j with
    | none => rw [hd] at this; exact this
    | some d => rw [hd] at this; exact this
end
section
variable {F : Fence} {n : Nat} {P : Program} {ops : Array Oper} {Q : Exit → Act → World → Prop} {T0 : Array Value} {S : Nat → Value → World → Prop}
/-- **the rule inside a fence, where each fact stands while the world grows** -/
theorem wpIn_region_vals_d (ds : List Deferred) {id : Nat} {w : World} (hm : P.follows .mixedOrders = true) (S : Nat → Value → World → Prop) (b : Nat → Bool) (hov : overB ops T0.size b = true) (hsl : slotsB ops T0.size = true) (hbk : backR ops = true)
    (hup : ∀ j v w w', Below w.heap.size w w' → S j v w → S j v w')
    (hstep : ∀ i, i < ops.size → ∀ o listed a w', RAt ops T0 S w i o listed a w' →
      ∀ K : Act → World → Prop, (∀ v w'', S i (gives o.dst v) w'' → Below w'.heap.size w' w'' → K (a.put o.dst v) w'') → wpOpIn F n P ops Q i K a w')
    (hdone : ∀ (s : Nat → Value) w', (∀ j, j < ops.size → S j (match dstOf ops j with | some d => s d | none => undef) w') → Below w.heap.size w w' → Q .normal { tmps := (over b s 0 T0.toList).toArray, defers := ds } w') :
    (Code.region id ops true).wpIn F n P Q { tmps := T0, defers := ds } w := by
  refine wpIn_region_full_d ds (S := fun _ => S) (R := fun _ w' => Below w.heap.size w w') hm hsl hbk (Below.refl _ _).drew ?_ ?_
  · intro i o ho listed a w' hI hun hall K hK
    refine hstep i (Array.getElem?_eq_some_iff.1 ho).1 o listed a w' ⟨ho, hall, fun t ht => hI.base t (fun j hj => absurd hj (free_ne ht)), hI.vals, hI.glob, hun, hI.closed, hI.base⟩ K fun v w'' h1 h2 => hK v w'' h1 (hI.glob.trans (h2.mono hI.glob.size)) fun j _ _ hS => hup j _ w' w'' h2 hS
  · intro s listed w' _ hS hR
    rw [fill_over hsl hov]
    exact hdone s w' hS hR
end
end Go.Proofs.YtakbkbmjeanboaaGreatDoor
