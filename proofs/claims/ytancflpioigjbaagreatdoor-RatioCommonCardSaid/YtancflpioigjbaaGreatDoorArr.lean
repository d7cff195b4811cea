/- Arrays of integers as arguments: taken apart and put together, for any length and kind. -/
import Derived.Test.YtancflpioigjbaaGreatDoorLawB
namespace Go.Proofs.YtancflpioigjbaaGreatDoor
open Go.ChangeShapes Go.WideShapes Go.ChangeAt Go.RowKit
section
variable {H : Type} {enc : TypeId × Value → H} {P : Program} {w : World} {base b0 : Nat} {sp : Nat → Bool} {held : Bool} {r : Reach}

theorem mapM_all {α β : Type} (f : α → Option β) (g : α → β) : ∀ (l : List α), (∀ i ∈ l, f i = some (g i)) → l.mapM f = some (l.map g)
  | [], _ => rfl
  | a :: l, h => by
    rw [List.mapM_cons, h a (by simp), mapM_all f g l (fun i hi => h i (by simp [hi]))]
    rfl
theorem take_one {α : Type} (l : List α) (i : Nat) (h : i < l.length) : (l.drop i).take 1 = [l[i]] := by
  rw [List.drop_eq_getElem_cons h]; rfl
theorem list2 {α : Type} (l : List α) (h : l.length = 2) : ∃ a b, l = [a, b] := by
  match l, h with
  | [a, b], _ => exact ⟨a, b, rfl⟩
theorem list3 {α : Type} (l : List α) (h : l.length = 3) : ∃ a b c, l = [a, b, c] := by
  match l, h with
  | [a, b, c], _ => exact ⟨a, b, c, rfl⟩
theorem list4 {α : Type} (l : List α) (h : l.length = 4) : ∃ a b c d, l = [a, b, c, d] := by
  match l, h with
  | [a, b, c, d], _ => exact ⟨a, b, c, d, rfl⟩
theorem list8 {α : Type} (l : List α) (h : l.length = 8) : ∃ a b c d e f g i, l = [a, b, c, d, e, f, g, i] := by
  match l, h with
  | [a, b, c, d, e, f, g, i], _ => exact ⟨a, b, c, d, e, f, g, i, rfl⟩
theorem open_ints {n : Nat} {k : IntKind} {t e : TypeId} {v : Value} {d : DataW H} {p : List MemPlace} (ht : P.underlying t = some (.array n e)) (he : P.underlying e = some (.int k)) (hce : P.cellsOf e = 1) (hct : P.cellsOf t = n)
    (hval : Value.okWide P w r b0 t v) (h0 : DataW.Trod enc P w base sp held t v d p) :
    ∃ xs : List Int, xs.length = n ∧ v = .agg (xs.map (Value.int k)).toArray ∧ d = .agg (xs.map fun x => .lit (.int k x)) ∧ p = [] ∧ ∀ x ∈ xs, (Lit.int k x).wf = true := by
  obtain ⟨cs, rfl, hsz⟩ : ∃ cs, v = .agg cs ∧ cs.size = P.cellsOf t := by
    cases v <;> simp [Value.okWide, ht] at hval
    exact ⟨_, rfl, hval.1⟩
  rw [hct] at hsz
  obtain ⟨fuel, hf⟩ := h0
  obtain ⟨ys, m, -, hx, -, hyl, hall⟩ := DataW.trod_array ht hf
  have hlen : (Value.agg cs).cells.toList.length = n := by simpa [Value.cells] using hsz
  have hone : ∀ i, i < n → ∃ z : Int, (∃ h : i < cs.toList.length, cs.toList[i] = .int k z) ∧ ys[i]? = some (.lit (.int k z), []) ∧ (Lit.int k z).wf = true := by
    intro i hi
    have h1 := hall i hi
    have hil : i < cs.toList.length := by simpa using hsz ▸ hi
    rw [hce, Nat.mul_one] at h1
    rw [show (Value.agg cs).cells.toList = cs.toList from rfl, take_one _ _ hil] at h1
    cases hy : ys[i]? with
    | none => simp [hyl, hi] at hy
    | some y =>
      rw [hy] at h1
      obtain ⟨z, hz, hyz, hw⟩ := DataW.trod_int he h1
      exact ⟨z, ⟨hil, by simpa using hz⟩, by rw [hyz], hw⟩
  obtain ⟨f, hfz⟩ : ∃ f : Nat → Int, ∀ i, i < n → (∃ h : i < cs.toList.length, cs.toList[i] = .int k (f i)) ∧ ys[i]? = some (.lit (.int k (f i)), []) ∧ (Lit.int k (f i)).wf = true :=
    ⟨fun i => if h : i < n then (hone i h).choose else 0, fun i hi => by simp only [hi, dif_pos]; exact (hone i hi).choose_spec⟩
  have e1 : cs.toList = ((List.range n).map f).map (Value.int k) := by
    refine List.ext_getElem (by simp [hsz]) fun i h1 h2 => ?_
    have hi : i < n := by simpa using h2
    simp only [List.getElem_map, List.getElem_range]
    exact (hfz i hi).1.2
  have e2 : ys = ((List.range n).map f).map fun x => (.lit (.int k x), []) := by
    refine List.ext_getElem? fun i => ?_
    by_cases hi : i < n
    · rw [(hfz i hi).2.1]; simp [hi]
    · simp [hi, hyl]
  refine ⟨(List.range n).map f, by simp, ?_, ?_, ?_, ?_⟩
  · rw [← e1]
  · rw [Prod.mk.injEq] at hx
    rw [hx.1, e2]; simp [List.map_map, Function.comp_def]
  · rw [Prod.mk.injEq] at hx
    rw [hx.2, e2]; simp
  · intro x hx
    obtain ⟨i, hi, rfl⟩ := List.mem_map.1 hx
    exact (hfz i (by simpa using hi)).2.2
theorem shut_ints {n : Nat} {k : IntKind} {t e : TypeId} (ht : P.underlying t = some (.array n e)) (he : P.underlying e = some (.int k)) (hce : P.cellsOf e = 1) (hct : P.cellsOf t = n) {xs : List Int} (hl : xs.length = n)
    (hw : ∀ x ∈ xs, (Lit.int k x).wf = true) : DataW.Trod enc P w base sp held t (.agg (xs.map (Value.int k)).toArray) (.agg (xs.map fun x => .lit (.int k x))) [] := by
  refine ⟨2, ?_⟩
  have hm : ((List.range n).mapM fun i => DataW.trod enc P w base sp held 1 e (((xs.map (Value.int k)).drop (i * P.cellsOf e)).take (P.cellsOf e))) = some ((List.range n).map fun i => ((.lit (.int k (xs.getD i 0)) : DataW H), ([] : List MemPlace))) := by
    refine mapM_all _ _ _ fun i hi => ?_
    have hi' : i < xs.length := by rw [hl]; simpa using hi
    rw [hce, Nat.mul_one, take_one _ _ (by simpa using hi')]
    simp [DataW.trod, he, hi', hw _ (List.getElem_mem hi')]
  have hm2 : (List.range n).map (fun i => ((.lit (.int k (xs.getD i 0)) : DataW H), ([] : List MemPlace))) = xs.map fun x => (.lit (.int k x), []) := by
    refine List.ext_getElem (by simp [hl]) fun i h1 h2 => ?_
    have : i < xs.length := by simpa using h2
    simp [this]
  rw [hm2] at hm
  show DataW.trod enc P w base sp held 2 t (xs.map (Value.int k)) = _
  unfold DataW.trod
  rw [ht]
  split <;> simp_all [List.map_map, Function.comp_def]
end
end Go.Proofs.YtancflpioigjbaaGreatDoor
