/- Plain facts: which bytes a right layout holds. No program in sight; each theorem names its conditions. -/
import Derived.Test.YtfoifnhakmfefaaUndP
namespace Go.Proofs.Ytfoifnhakmfefaa.Txt
open Cal
set_option linter.unusedVariables false

theorem tokens_flat : ∀ (n : Nat) (l : List UInt8), l.length ≤ n → (tokens l).flatten = l
  | 0, l, h => by
    have : l = [] := List.eq_nil_of_length_eq_zero (by omega)
    subst this; rfl
  | n + 1, l, h => by
    by_cases h0 : l = []
    · subst h0; rfl
    · rw [tokens_cons l h0, List.flatten_cons, tokens_flat n _ (by have := tokLen_pos l; have : l.length ≠ 0 := by simpa using h0
                                                                   simp; omega), List.take_append_drop]
theorem good_heads : ∀ (ts : List (List UInt8)) (s : St), goodFrom s ts = true → ∀ t ∈ ts, 32 ≤ (t.headD 0).toNat ∧ (t.headD 0).toNat ≤ 126
  | [], _, _, t, ht => by cases ht
  | t :: ts, s, hg, t', ht' => by
    simp only [goodFrom, Bool.and_eq_true, Bool.not_eq_true', badTok, Bool.or_eq_false_iff, decide_eq_false_iff_not] at hg
    obtain ⟨⟨⟨⟨_, h1⟩, h2⟩, _⟩, h3⟩ := hg
    rcases List.mem_cons.1 ht' with rfl | ht'
    · omega
    · exact good_heads ts _ h3 t' ht'
theorem good_bytes {L : List UInt8} {s : St} (hg : goodFrom s (tokens L) = true) : ∀ c ∈ L, 32 ≤ c.toNat ∧ c.toNat ≤ 126 := by
  intro c hc
  rw [← tokens_flat _ L (Nat.le_refl _)] at hc
  obtain ⟨t, ht, hct⟩ := List.mem_flatten.1 hc
  have hh := good_heads _ _ hg t ht
  rcases tokens_isTok _ L (Nat.le_refl _) t ht with rfl | rfl | rfl | ⟨x, rfl⟩
  · have : c = 89 := by simpa using hct
    subst this; decide
  · have : c = 77 := by simpa using hct
    subst this; decide
  · have : c = 68 := by simpa using hct
    subst this; decide
  · have : c = x := by simpa using hct
    subst this; simpa using hh
theorem right_bytes {L : List UInt8} (h : rightB L = true) : ∀ c ∈ L, 32 ≤ c.toNat ∧ c.toNat ≤ 126 ∧ isD c = false := by
  intro c hc
  simp only [rightB, Bool.and_eq_true, decide_eq_true_eq, Bool.not_eq_true'] at h
  obtain ⟨⟨h1, h2⟩, h3⟩ := h
  have hb := good_bytes h3 c hc
  exact ⟨hb.1, hb.2, digits_isD (contains_none _ _ h2 c hc)⟩
theorem contains_false : ∀ (l chars : List UInt8), (∀ c ∈ l, c ∉ chars) → Lib.containsAny l chars = false
  | [], _, _ => by simp [Lib.containsAny, Lib.indexAny]
  | b :: l, chars, h => by
    have ih := contains_false l chars (fun c hc => h c (by simp [hc]))
    simp only [Lib.containsAny, decide_eq_false_iff_not] at ih ⊢
    unfold Lib.indexAny
    have hb : chars.contains b = false := by simpa using h b (by simp)
    have hge := Lib.indexAny_ge chars l
    have e : Lib.indexAny l chars = -1 := by omega
    simp only [hb, e]
    simp
theorem digit_mem {c : UInt8} (h : isD c = false) : c ∉ digitsS := by
  intro hc
  have : ∀ x ∈ digitsS, isD x = true := by decide
  rw [this c hc] at h; cases h
theorem right_of_bytes {L : List UInt8} (hl : L.length ≤ 40) (h : ∀ c ∈ L, isD c = false) : rightB L = goodFrom ⟨0, 0, 0, false⟩ (tokens L) := by
  simp [rightB, hl, contains_false L digitsS (fun c hc => digit_mem (h c hc))]
theorem not_right {L : List UInt8} {c : UInt8} (hc : c ∈ L) (h : c.toNat < 32 ∨ 126 < c.toNat ∨ isD c = true) : rightB L = false := by
  cases hr : rightB L
  · rfl
  · have := right_bytes hr c hc
    rcases h with h | h | h
    · omega
    · omega
    · rw [this.2.2] at h; cases h
end Go.Proofs.Ytfoifnhakmfefaa.Txt
