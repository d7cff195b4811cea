/- A rule for a region that draws its order: an invariant over the set of operations that have come up. No program in sight; each theorem names its conditions. -/
import Derived.RegionTactic
import Derived.KernelRfl
namespace Go.Proofs.YtakbkbmjeanboaaGreatDoor
open Go
set_option linter.unusedVariables false
section
variable {P : Program} {ops : Array Oper} {Q : Exit → Act → World → Prop} {md : Region.Mode}

/-- how many operations have not come up yet -/
def left (n : Nat) (listed : Array Bool) : Nat := (List.range n).countP fun j => !listed.getD j true
theorem left_set {n i : Nat} {listed : Array Bool} (hi : i < n) (hl : listed.getD i true = false) : left n (listed.setIfInBounds i true) + 1 = left n listed := by
  unfold left
  have hsz : i < listed.size := by
    rcases Nat.lt_or_ge i listed.size with h | h
    · exact h
    · simp [Array.getElem?_eq_none h] at hl
  induction n with
  | zero => omega
  | succ n ih =>
    rw [List.range_succ, List.countP_append, List.countP_append]
    by_cases hin : i = n
    · subst hin
      have h1 : (List.range i).countP (fun j => !(listed.setIfInBounds i true).getD j true) = (List.range i).countP (fun j => !listed.getD j true) := by
        apply List.countP_congr
        intro j hj
        have : i ≠ j := by have := List.mem_range.1 hj; omega
        rw [getD_set_ne true this]
      have h2 : (listed.setIfInBounds i true).getD i true = true := by simp [hsz]
      have e1 : List.countP (fun j => !(listed.setIfInBounds i true).getD j true) [i] = 0 := by rw [List.countP_singleton, h2]; rfl
      have e2 : List.countP (fun j => !listed.getD j true) [i] = 1 := by rw [List.countP_singleton, hl]; rfl
      rw [h1, e1, e2]
    · have h2 : (listed.setIfInBounds i true).getD n true = listed.getD n true := getD_set_ne true hin
      have e1 : List.countP (fun j => !(listed.setIfInBounds i true).getD j true) [n] = List.countP (fun j => !listed.getD j true) [n] := by
        rw [List.countP_singleton, List.countP_singleton, h2]
      have := ih (by omega)
      rw [e1]; omega
theorem left_zero {n : Nat} {listed : Array Bool} (h : left n listed = 0) : ∀ j, j < n → listed.getD j true = true := by
  intro j hj
  have := List.countP_eq_zero.1 h j (by simpa using hj)
  simpa using this
theorem wpAny_inv (I : Array Bool → Act → World → Prop)
    (hstep : ∀ listed a w, I listed a w → ∀ i o, ops[i]? = some o → listed.getD i true = false → (∀ e ∈ o.after, Region.binds md e = true → listed.getD e.on false = true) → wpOp P ops Q i (fun a' w' => I (listed.setIfInBounds i true) a' w') a w)
    (hdone : ∀ listed a w, I listed a w → Region.ready md ops listed = [] → Q .normal a w) :
    ∀ (fuel : Nat) (listed : Array Bool) (a : Act) (w : World), left ops.size listed ≤ fuel → I listed a w → wpAny P md ops Q fuel listed a w
  | 0, listed, a, w, hf, hI => by
    have hr : Region.ready md ops listed = [] := by
      rw [List.eq_nil_iff_forall_not_mem]
      intro j hj
      obtain ⟨h0, o, ho, -⟩ := mem_ready.1 hj
      rw [left_zero (by omega) j (Array.getElem?_eq_some_iff.1 ho).1] at h0
      cases h0
    exact ⟨hr, hdone _ _ _ hI hr⟩
  | fuel + 1, listed, a, w, hf, hI => by
    refine ⟨hdone _ _ _ hI, fun i hi => ?_⟩
    obtain ⟨h0, o, ho, hall⟩ := mem_ready.1 hi
    have hl := left_set (Array.getElem?_eq_some_iff.1 ho).1 h0
    exact wpOp_mono (fun a' w' h => wpAny_inv I hstep hdone fuel _ a' w' (by omega) h) (hstep _ _ _ hI i o ho h0 hall)
/-- where nothing is ready, and each operation waits for earlier ones alone, all have come up -/
theorem all_up {listed : Array Bool} (hsz : listed.size = ops.size) (hback : ∀ j o, ops[j]? = some o → ∀ e ∈ o.after, Region.binds md e = true → e.on < j) (hr : Region.ready md ops listed = []) :
    ∀ j, j < ops.size → listed.getD j true = true := by
  intro j
  induction j using Nat.strongRecOn with
  | _ j ih =>
    intro hj
    cases h : listed.getD j true
    · exfalso
      have hm : j ∈ Region.ready md ops listed := by
        refine mem_ready.2 ⟨h, ops[j], by simp [hj], fun e he hb => ?_⟩
        have hlt := hback j ops[j] (by simp [hj]) e he hb
        have ht := ih e.on hlt (by omega)
        have hs : e.on < listed.size := by omega
        simpa [hs] using ht
      rw [hr] at hm; cases hm
    · rfl
def backB (ops : Array Oper) : Bool := (List.range ops.size).all fun j => (ops[j]?).all fun o => o.after.all fun e => decide (e.on < j)
theorem back_of (h : backB ops = true) (j : Nat) (o : Oper) (ho : ops[j]? = some o) (e) (he : e ∈ o.after) : e.on < j := by
  have h1 := List.all_eq_true.1 h j (by simpa using (Array.getElem?_eq_some_iff.1 ho).1)
  rw [ho] at h1
  have h2 := Array.all_eq_true'.1 (show (o.after.all fun e => decide (e.on < j)) = true from h1) e he
  simpa using h2
/-- where nothing is ready, all have come up -/
theorem all_done {listed : Array Bool} (hb : backB ops = true) (hsz : listed.size = ops.size) (hr : Region.ready md ops listed = []) (j : Nat) (hj : j < ops.size) : listed.getD j false = true := by
  have := all_up hsz (fun j o ho e he _ => back_of hb j o ho e he) hr j hj
  have hs : j < listed.size := by omega
  simpa [hs] using this
/-- the beginning -/
theorem wp_region_inv {id : Nat} {a : Act} {w : World} (I : Array Bool → Act → World → Prop) (hm : P.follows .mixedOrders = true)
    (h0 : I (Array.replicate ops.size false) a w.drew)
    (hstep : ∀ listed a w, I listed a w → ∀ i o, ops[i]? = some o → listed.getD i true = false → (∀ e ∈ o.after, Region.binds .any e = true → listed.getD e.on false = true) → wpOp P ops Q i (fun a' w' => I (listed.setIfInBounds i true) a' w') a w)
    (hdone : ∀ listed a w, I listed a w → Region.ready .any ops listed = [] → Q .normal a w) : (Code.region id ops true).wp P Q a w := by
  refine wp_region_any hm (wpAny_inv I hstep hdone _ _ _ _ ?_ h0)
  have := List.countP_le_length (p := fun j => !(Array.replicate ops.size false).getD j true) (l := List.range ops.size)
  simpa [left] using this
end
end Go.Proofs.YtakbkbmjeanboaaGreatDoor
