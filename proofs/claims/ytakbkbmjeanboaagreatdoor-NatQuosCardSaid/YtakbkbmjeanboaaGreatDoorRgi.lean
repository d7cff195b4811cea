/- A region that draws its order, inside a fence: each operation has a fact of its own value, which stands while the others come up; with one new box, or with one store into a box. No program in sight; each theorem names its conditions. -/
import Derived.Test.YtakbkbmjeanboaaGreatDoorRgn
import Derived.Test.YtakbkbmjeanboaaGreatDoorRegI
import Derived.Test.YtakbkbmjeanboaaGreatDoorRange
import Derived.Test.YtakbkbmjeanboaaGreatDoorHeap
namespace Go.Proofs.YtakbkbmjeanboaaGreatDoor
open Go Go.RowKit
set_option linter.unusedVariables false

section
variable {F : Fence} {n : Nat} {P : Program} {ops : Array Oper} {Q : Exit → Act → World → Prop} {T0 : Array Value} {S : Array Bool → Nat → Value → World → Prop} {R : Array Bool → World → Prop}
/-- **the rule, in full, inside a fence**: S may speak of what has come up -/
theorem wpIn_region_full {id : Nat} {w : World} (hm : P.follows .mixedOrders = true) (hsl : slotsB ops T0.size = true) (hbk : backR ops = true)
    (h0 : R (Array.replicate ops.size false) w.drew)
    (hstep : ∀ i o, ops[i]? = some o → ∀ listed a w, RSt ops T0 S R listed a w → listed.getD i false = false → (∀ e ∈ o.after, Region.binds .any e = true → listed.getD e.on false = true) →
      ∀ K : Act → World → Prop, (∀ v w', S (listed.setIfInBounds i true) i (gives o.dst v) w' → R (listed.setIfInBounds i true) w' →
        (∀ j, j ≠ i → listed.getD j false = true → S listed j (inSlot a (dstOf ops j)) w → S (listed.setIfInBounds i true) j (inSlot a (dstOf ops j)) w') → K (a.put o.dst v) w') → wpOpIn F n P ops Q i K a w)
    (hdone : ∀ (s : Nat → Value) listed w, (∀ j, j < ops.size → listed.getD j false = true) → (∀ j, j < ops.size → S listed j (match dstOf ops j with | some d => s d | none => undef) w) → R listed w → Q .normal { tmps := fill ops s ops.size T0, defers := [] } w) :
    (Code.region id ops true).wpIn F n P Q { tmps := T0, defers := [] } w := by
  refine wpIn_region_inv (RSt ops T0 S R) hm ?_ ?_ ?_
  · exact ⟨by simp, rfl, rfl, fun _ _ => rfl, fun j hj => (by rw [getD_falses] at hj; cases hj), h0, fun j o _ hj => by rw [getD_falses] at hj; cases hj⟩
  · intro listed a w hI i o ho hun hall
    have hun' : listed.getD i false = false := getD_none hun
    have hio : i < ops.size := (Array.getElem?_eq_some_iff.1 ho).1
    have hdo : dstOf ops i = o.dst := by simp [dstOf, ho]
    refine hstep i o ho listed a w hI hun' hall _ fun v w' hS hR hkeep => ?_
    refine ⟨by simpa using hI.lsize, by rw [put_size]; exact hI.size, by rw [put_defers]; exact hI.defers, fun t ht => ?_, fun j hj => ?_, hR, fun j oj hoj hj e he hb => ?_⟩
    · have hne : o.dst ≠ some t := fun e => by
        have := ht i (hdo.trans e)
        simp [hI.lsize, hio] at this
      have hb := hI.base t (fun j hj => by
        by_cases hji : j = i
        · subst hji; exact hun'
        · have := ht j hj
          rwa [getD_set_ne false (Ne.symm hji)] at this)
      cases hd : o.dst with
      | none => simpa [Act.put] using hb
      | some d =>
        show (a.tmps.setIfInBounds d v).getD t undef = _
        rw [getD_set, if_neg (fun h => hne (by rw [hd, h.1]))]
        exact hb
    · by_cases hji : j = i
      · subst hji
        have e : inSlot (a.put o.dst v) (dstOf ops j) = gives o.dst v := by
          rw [hdo]
          cases hd : o.dst with
          | none => rfl
          | some d =>
            show (a.tmps.setIfInBounds d v).getD d undef = v
            rw [getD_set, if_pos ⟨rfl, by rw [hI.size]; exact slots_lt hsl (hdo.trans hd)⟩]
        rw [e]; exact hS
      · have hj' : listed.getD j false = true := by rwa [getD_set_ne false (Ne.symm hji)] at hj
        have e : inSlot (a.put o.dst v) (dstOf ops j) = inSlot a (dstOf ops j) := by
          cases hdj : dstOf ops j with
          | none => rfl
          | some c =>
            cases hd : o.dst with
            | none => rfl
            | some d =>
              show (a.tmps.setIfInBounds d v).getD c undef = _
              rw [getD_set, if_neg (fun h => hji (slots_ne hsl hdj (by rw [hdo, hd, h.1])))]
              rfl
        rw [e]
        exact hkeep j hji hj' (hI.vals j hj')
    · by_cases hji : j = i
      · subst hji
        rw [ho] at hoj
        obtain rfl := Option.some.inj hoj
        exact getD_set_true (hall e he hb)
      · have hj' : listed.getD j false = true := by rwa [getD_set_ne false (Ne.symm hji)] at hj
        exact getD_set_true (hI.closed j oj hoj hj' e he hb)
  · intro listed a w hI hr
    have hup : ∀ j, j < ops.size → listed.getD j false = true := fun j hj => by
      have := all_up hI.lsize (fun j o ho e he hb => by
        have h1 := List.all_eq_true.1 hbk j (by simpa using (Array.getElem?_eq_some_iff.1 ho).1)
        rw [ho] at h1
        have h2 := Array.all_eq_true'.1 (show (o.after.all fun e => !Region.binds .any e || decide (e.on < j)) = true from h1) e he
        rw [hb] at h2
        simpa using h2) hr j hj
      have hs : j < listed.size := by rw [hI.lsize]; exact hj
      simpa [hs] using this
    have hT : a.tmps = fill ops (fun d => a.tmps.getD d undef) ops.size T0 := by
      refine arr_ext (by rw [fill_size]; exact hI.size) fun t => ?_
      rw [fill_get ops _ T0 (fun j d h => slots_lt hsl h) t]
      split
      · rfl
      · rename_i hno
        exact hI.base t fun j hj => absurd ⟨j, dstOf_lt hj, hj⟩ hno
    have ha : a = { tmps := fill ops (fun d => a.tmps.getD d undef) ops.size T0, defers := [] } := by
      obtain ⟨tm, df⟩ := a
      have hd : df = [] := hI.defers
      subst hd
      rw [← hT]
    rw [ha]
    refine hdone _ listed w hup (fun j hj => ?_) hI.glob
    have := hI.vals j (hup j hj)
    cases hd : dstOf ops j with
    | none => rw [hd] at this; exact this
    | some d => rw [hd] at this; exact this
end
section
variable {F : Fence} {n : Nat} {P : Program} {ops : Array Oper} {Q : Exit → Act → World → Prop} {T0 : Array Value} {S : Nat → Value → World → Prop}
/-- **the rule inside a fence, where each fact stands while the world grows** -/
theorem wpIn_region_vals {id : Nat} {w : World} (hm : P.follows .mixedOrders = true) (S : Nat → Value → World → Prop) (b : Nat → Bool) (hov : overB ops T0.size b = true) (hsl : slotsB ops T0.size = true) (hbk : backR ops = true)
    (hup : ∀ j v w w', Below w.heap.size w w' → S j v w → S j v w')
    (hstep : ∀ i, i < ops.size → ∀ o listed a w', RAt ops T0 S w i o listed a w' →
      ∀ K : Act → World → Prop, (∀ v w'', S i (gives o.dst v) w'' → Below w'.heap.size w' w'' → K (a.put o.dst v) w'') → wpOpIn F n P ops Q i K a w')
    (hdone : ∀ (s : Nat → Value) w', (∀ j, j < ops.size → S j (match dstOf ops j with | some d => s d | none => undef) w') → Below w.heap.size w w' → Q .normal { tmps := (over b s 0 T0.toList).toArray, defers := [] } w') :
    (Code.region id ops true).wpIn F n P Q { tmps := T0, defers := [] } w := by
  refine wpIn_region_full (S := fun _ => S) (R := fun _ w' => Below w.heap.size w w') hm hsl hbk (Below.refl _ _).drew ?_ ?_
  · intro i o ho listed a w' hI hun hall K hK
    refine hstep i (Array.getElem?_eq_some_iff.1 ho).1 o listed a w' ⟨ho, hall, fun t ht => hI.base t (fun j hj => absurd hj (free_ne ht)), hI.vals, hI.glob, hun, hI.closed, hI.base⟩ K fun v w'' h1 h2 => hK v w'' h1 (hI.glob.trans (h2.mono hI.glob.size)) fun j _ _ hS => hup j _ w' w'' h2 hS
  · intro s listed w' _ hS hR
    rw [fill_over hsl hov]
    exact hdone s w' hS hR
/-- what stands where operation i comes up, in a region with one store into a box -/
structure QAt (ops : Array Oper) (T0 : Array Value) (S : Nat → Value → World → Prop) (b0 sj : Nat) (w0 : World) (i : Nat) (o : Oper) (listed : Array Bool) (a : Act) (w : World) : Prop where
  at_ : ops[i]? = some o
  ups : ∀ e ∈ o.after, Region.binds .any e = true → listed.getD e.on false = true
  base : ∀ t, freeB ops t = true → a.tmps.getD t undef = T0.getD t undef
  vals : ∀ j, listed.getD j false = true → S j (inSlot a (dstOf ops j)) w
  fr : Fr (fun b => b = b0) w0 w
  un : listed.getD i false = false
  closed : ∀ j o, ops[j]? = some o → listed.getD j false = true → ∀ e ∈ o.after, Region.binds .any e = true → listed.getD e.on false = true
  pre : listed.getD sj false = false → Below w0.heap.size w0 w
theorem QAt.dep {b0 sj : Nat} {w0 : World} {i : Nat} {o : Oper} {listed : Array Bool} {a : Act} {w : World} (h : QAt ops T0 S b0 sj w0 i o listed a w) (e : Edge) (he : e ∈ o.after) (hb : Region.binds .any e = true) : S e.on (inSlot a (dstOf ops e.on)) w := h.vals e.on (h.ups e he hb)
/-- an operation for which operation j waits, on a way of edges to the store -/
theorem QAt.not_up {b0 sj : Nat} {w0 : World} {i j k : Nat} {o ok : Oper} {listed : Array Bool} {a : Act} {w : World} (h : QAt ops T0 S b0 sj w0 i o listed a w) (hk : ops[k]? = some ok) (e : Edge) (he : e ∈ ok.after) (hb : Region.binds .any e = true) (hj : listed.getD j false = false) (hi : e.on = j) : listed.getD k false = false := by
  cases hl : listed.getD k false
  · rfl
  · have := h.closed k ok hk hl e he hb
    rw [hi, hj] at this; cases this
/-- **the rule inside a fence, with one store into the box b0** -/
theorem wpIn_region_put {id : Nat} {w : World} (hm : P.follows .mixedOrders = true) (S : Nat → Value → World → Prop) (U : Value → World → Prop) (b0 sj : Nat) (z : Value) (t : TypeId) (b : Nat → Bool) (hov : overB ops T0.size b = true) (hsl : slotsB ops T0.size = true) (hbk : backR ops = true) (hsj : sj < ops.size)
    (hz : w.heap[b0]? = some (.cells #[z] t (0, 0)))
    (hup : ∀ j v w w', Below w.heap.size w w' → S j v w → S j v w') (hupU : ∀ v w w', Below w.heap.size w w' → U v w → U v w')
    (hbox : ∀ j v w u, w.heap[b0]? = some (.cells #[z] t (0, 0)) → S j v w → S j v (w.setCell ⟨b0, 0, none⟩ u)) (hboxU : ∀ v w u, w.heap[b0]? = some (.cells #[z] t (0, 0)) → U v w → U v (w.setCell ⟨b0, 0, none⟩ u))
    (hstep : ∀ i, i < ops.size → i ≠ sj → ∀ o listed a w', QAt ops T0 S b0 sj w i o listed a w' →
      ∀ K : Act → World → Prop, (∀ v w'', S i (gives o.dst v) w'' → Below w'.heap.size w' w'' → K (a.put o.dst v) w'') → wpOpIn F n P ops Q i K a w')
    (hstore : ∀ o listed a w', QAt ops T0 S b0 sj w sj o listed a w' → w'.heap[b0]? = some (.cells #[z] t (0, 0)) →
      ∀ K : Act → World → Prop, (∀ u, U u w' → K (a.put o.dst undef) (w'.setCell ⟨b0, 0, none⟩ u)) → wpOpIn F n P ops Q sj K a w')
    (hSs : ∀ v w', S sj (gives (dstOf ops sj) v) w')
    (hdone : ∀ (s : Nat → Value) u w', (∀ j, j < ops.size → S j (match dstOf ops j with | some d => s d | none => undef) w') → Fr (fun b => b = b0) w w' → w'.heap[b0]? = some (.cells #[u] t (0, 0)) → U u w' → Q .normal { tmps := (over b s 0 T0.toList).toArray, defers := [] } w') :
    (Code.region id ops true).wpIn F n P Q { tmps := T0, defers := [] } w := by
  have hb0 : b0 < w.heap.size := (Array.getElem?_eq_some_iff.1 hz).1
  refine wpIn_region_full (S := fun _ => S) (R := fun listed w' => Fr (fun b => b = b0) w w' ∧ (listed.getD sj false = false → Below w.heap.size w w') ∧ (listed.getD sj false = true → ∃ u, w'.heap[b0]? = some (.cells #[u] t (0, 0)) ∧ U u w')) hm hsl hbk ⟨(Fr.refl _ _).drew, fun _ => (Below.refl _ _).drew, fun h => by rw [getD_falses] at h; cases h⟩ ?_ ?_
  · intro i o ho listed a w' hI hun hall K hK
    have hio : i < ops.size := (Array.getElem?_eq_some_iff.1 ho).1
    have hA : QAt ops T0 S b0 sj w i o listed a w' := ⟨ho, hall, fun t ht => hI.base t (fun j hj => absurd hj (free_ne ht)), hI.vals, hI.glob.1, hun, hI.closed, hI.glob.2.1⟩
    by_cases his : i = sj
    · subst his
      have hbl := hI.glob.2.1 hun
      have hzw : w'.heap[b0]? = some (.cells #[z] t (0, 0)) := (hbl.block b0 hb0).trans hz
      refine hstore o listed a w' hA hzw K fun u hU => hK undef _ ?_ ⟨hI.glob.1.setCell (.inl rfl) u, fun h => ?_, fun _ => ⟨u, box_set hzw u, hboxU u w' u hzw hU⟩⟩ fun j _ _ hS => hbox j _ w' u hzw hS
      · have hdo : dstOf ops i = o.dst := by simp [dstOf, ho]
        rw [← hdo]; exact hSs _ _
      · simp [hI.lsize, hio] at h
    · refine hstep i hio his o listed a w' hA K fun v w'' h1 h2 => hK v w'' h1 ⟨hI.glob.1.trans (Fr.of_new h2 _), fun h => ?_, fun h => ?_⟩ fun j _ _ hS => hup j _ w' w'' h2 hS
      · rw [getD_set_ne false his] at h
        exact (hI.glob.2.1 h).trans (h2.mono hI.glob.1.size)
      · rw [getD_set_ne false his] at h
        obtain ⟨u, hu, hU⟩ := hI.glob.2.2 h
        exact ⟨u, block_new h2 hu, hupU u w' w'' h2 hU⟩
  · intro s listed w' hl hS hR
    rw [fill_over hsl hov]
    obtain ⟨u, hu, hU⟩ := hR.2.2 (hl sj hsj)
    exact hdone s u w' hS hR.1 hu hU
/-- **the rule inside a fence, with one new box, that is stored into** -/
theorem wpIn_region_box {id : Nat} {w : World} (hm : P.follows .mixedOrders = true) (S : Nat → Value → World → Prop) (U : Value → World → Prop) (aj sj : Nat) (z : Value) (t : TypeId) (b : Nat → Bool) (hov : overB ops T0.size b = true) (hsl : slotsB ops T0.size = true) (hbk : backR ops = true) (hsj : sj < ops.size) (haj : aj < ops.size) (hne : aj ≠ sj)
    (da : Nat) (hda : dstOf ops aj = some da) (hds : dstOf ops sj = none) (hsa : ∀ o, ops[sj]? = some o → ∃ e ∈ o.after, e.on = aj ∧ Region.binds .any e = true)
    (hup : ∀ j v w w', Below w.heap.size w w' → S j v w → S j v w') (hupU : ∀ v w w', Below w.heap.size w w' → U v w → U v w')
    (hbox : ∀ b0 j v w u, w.heap[b0]? = some (.cells #[z] t (0, 0)) → S j v w → S j v (w.setCell ⟨b0, 0, none⟩ u)) (hboxU : ∀ b0 v w u, w.heap[b0]? = some (.cells #[z] t (0, 0)) → U v w → U v (w.setCell ⟨b0, 0, none⟩ u))
    (hstep : ∀ i, i < ops.size → i ≠ sj → i ≠ aj → ∀ o listed a w', RAt ops T0 (fun j v w => j ≠ aj → S j v w) w i o listed a w' →
      ∀ K : Act → World → Prop, (∀ v w'', S i (gives o.dst v) w'' → Below w'.heap.size w' w'' → K (a.put o.dst v) w'') → wpOpIn F n P ops Q i K a w')
    (halloc : ∀ o listed a w', RAt ops T0 (fun j v w => j ≠ aj → S j v w) w aj o listed a w' → ∀ K : Act → World → Prop, K (a.put o.dst (.pointer (some ⟨w'.heap.size, 0, none⟩))) (w'.alloc (.cells #[z] t)) → wpOpIn F n P ops Q aj K a w')
    (hstore : ∀ b0 o listed a w', RAt ops T0 (fun j v w => j ≠ aj → S j v w) w sj o listed a w' → a.tmps.getD da undef = .pointer (some ⟨b0, 0, none⟩) → w'.heap[b0]? = some (.cells #[z] t (0, 0)) →
      ∀ K : Act → World → Prop, (∀ u, U u w' → K (a.put o.dst undef) (w'.setCell ⟨b0, 0, none⟩ u)) → wpOpIn F n P ops Q sj K a w')
    (hSs : ∀ v w', S sj v w')
    (hdone : ∀ (s : Nat → Value) b0 u w', (∀ j, j < ops.size → j ≠ aj → S j (match dstOf ops j with | some d => s d | none => undef) w') → Below w.heap.size w w' → w.heap.size ≤ b0 → s da = .pointer (some ⟨b0, 0, none⟩) → w'.heap[b0]? = some (.cells #[u] t (0, 0)) → U u w' → Q .normal { tmps := (over b s 0 T0.toList).toArray, defers := [] } w') :
    (Code.region id ops true).wpIn F n P Q { tmps := T0, defers := [] } w := by
  refine wpIn_region_full (S := fun listed j v w' => (j ≠ aj → S j v w') ∧ (j = aj → ∃ b0, w.heap.size ≤ b0 ∧ v = .pointer (some ⟨b0, 0, none⟩) ∧ (listed.getD sj false = false → w'.heap[b0]? = some (.cells #[z] t (0, 0))) ∧ (listed.getD sj false = true → ∃ u, w'.heap[b0]? = some (.cells #[u] t (0, 0)) ∧ U u w')))
    (R := fun listed w' => Below w.heap.size w w') hm hsl hbk (Below.refl _ _).drew ?_ ?_
  · intro i o ho listed a w' hI hun hall K hK
    have hio : i < ops.size := (Array.getElem?_eq_some_iff.1 ho).1
    have hA : RAt ops T0 (fun j v w => j ≠ aj → S j v w) w i o listed a w' := ⟨ho, hall, fun t ht => hI.base t (fun j hj => absurd hj (free_ne ht)), fun j hj => (hI.vals j hj).1, hI.glob, hun, hI.closed, hI.base⟩
    have hdo : dstOf ops i = o.dst := by simp [dstOf, ho]
    by_cases hia : i = aj
    · subst hia
      refine halloc o listed a w' hA K (hK _ _ ⟨fun h => absurd rfl h, fun _ => ⟨w'.heap.size, hI.glob.size, ?_, fun _ => heap_alloc_new w' _, fun h => ?_⟩⟩ (hI.glob.trans (((Below.refl _ w').alloc (Nat.le_refl _) _).mono hI.glob.size)) fun j hj _ hS => ⟨fun h => hup j _ w' _ ((Below.refl _ w').alloc (Nat.le_refl _) _) (hS.1 h), fun h => absurd h hj⟩)
      · rw [← hdo, hda]; rfl
      · rw [getD_set_ne false hne] at h
        have hso : ops[sj]? = some ops[sj] := by simp [hsj]
        obtain ⟨e, he, h1, h2⟩ := hsa _ hso
        have := hI.closed sj _ hso h e he h2
        rw [h1, hun] at this; cases this
    · by_cases his : i = sj
      · subst his
        obtain ⟨e, he, h1, h2⟩ := hsa o ho
        have hl : listed.getD aj false = true := by have := hall e he h2; rwa [h1] at this
        obtain ⟨b0, hb0, hv, hz, -⟩ := (hI.vals aj hl).2 rfl
        have hzw := hz hun
        rw [hda] at hv
        refine hstore b0 o listed a w' hA hv hzw K fun u hU => hK undef _ ⟨fun _ => hSs _ _, fun h => absurd h.symm hne⟩ (hI.glob.setCell hb0 u) fun j hj hlj hS => ⟨fun h => hbox b0 j _ w' u hzw (hS.1 h), fun h => ?_⟩
        obtain ⟨b1, hb1, hv1, hz1, -⟩ := hS.2 h
        subst h
        have hbe : b1 = b0 := by
          rw [hda, hv] at hv1; injection hv1 with hv1; injection hv1 with hv1; injection hv1 with hv1; exact hv1.symm
        subst hbe
        exact ⟨b1, hb1, hv1, fun h => by simp [hI.lsize, hio] at h, fun _ => ⟨u, box_set hzw u, hboxU _ u w' u hzw hU⟩⟩
      · refine hstep i hio his hia o listed a w' hA K fun v w'' h1 h2 => hK v w'' ⟨fun _ => h1, fun h => absurd h hia⟩ (hI.glob.trans (h2.mono hI.glob.size)) fun j _ _ hS => ⟨fun h => hup j _ w' w'' h2 (hS.1 h), fun h => ?_⟩
        obtain ⟨b1, hb1, hv1, hz1, hu1⟩ := hS.2 h
        refine ⟨b1, hb1, hv1, fun h => ?_, fun h => ?_⟩
        · rw [getD_set_ne false his] at h
          exact block_new h2 (hz1 h)
        · rw [getD_set_ne false his] at h
          obtain ⟨u, hu, hU⟩ := hu1 h
          exact ⟨u, block_new h2 hu, hupU u w' w'' h2 hU⟩
  · intro s listed w' hl hS hR
    rw [fill_over hsl hov]
    obtain ⟨b0, hb0, hv, -, hu⟩ := (hS aj haj).2 rfl
    obtain ⟨u, hu, hU⟩ := hu (hl sj hsj)
    rw [hda] at hv
    exact hdone s b0 u w' (fun j hj hja => (hS j hj).1 hja) hR hb0 hv hu hU
end
/-- operations without a guard, with one -/
theorem plain_stepI {F : Fence} {n : Nat} {P : Program} {ops : Array Oper} {Q : Exit → Act → World → Prop} {i : Nat} {o : Oper} {K : Act → World → Prop} {a : Act} {w : World} (ho : ops[i]? = some o) (hg : o.guard = none) (h : Oper.wpIn F n P o a w K Q) : wpOpIn F n P ops Q i K a w := by
  unfold wpOpIn; rw [ho]
  have hw : Region.wanted o (yielded ops a.tmps) = true := by simp [Region.wanted, hg]
  show if Region.wanted o (yielded ops a.tmps) = true then _ else _
  rw [if_pos hw]; exact h
end Go.Proofs.YtakbkbmjeanboaaGreatDoor
