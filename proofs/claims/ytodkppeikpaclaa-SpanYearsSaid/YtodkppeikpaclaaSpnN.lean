/- Plain: normal lists: what a combination covers; a normal list is told by its days; how many days a list has; where a term ends. -/
import Derived.Test.YtodkppeikpaclaaSpnP
namespace Go.Proofs.Ytodkppeikpaclaa.Spn
set_option linter.unusedVariables false

/-- right spans with a gap between each two, from the day b on -/
def Nrm : Int → List Sp → Prop
  | _, [] => True
  | b, s :: r => b ≤ s.1 ∧ rightS s = true ∧ Nrm (s.2 + 1) r
theorem Nrm.low {b b' : Int} {l : List Sp} (h : Nrm b l) (hb : b' ≤ b) : Nrm b' l := by
  cases l with
  | nil => trivial
  | cons s r => exact ⟨by have := h.1; omega, h.2.1, h.2.2⟩
/-- the rule is the same between two bounds, and takes no day from the last one on -/
def Steps (P : Int → Bool) : List Int → Prop
  | [] => True
  | [n] => ∀ d, n ≤ d → P d = false
  | n :: n' :: r => (∀ d, n ≤ d → d < n' → P d = P n) ∧ Steps P (n' :: r)
theorem Steps.of {P : Int → Bool} : ∀ {c : List Int}, Inc c → (∀ n ∈ c, ∀ n', (∀ x ∈ c, x ≤ n ∨ n' ≤ x) → ∀ d, n ≤ d → d < n' → P d = P n) → (∀ n ∈ c, (∀ x ∈ c, x ≤ n) → ∀ d, n ≤ d → P d = false) → Steps P c
  | [], _, _, _ => trivial
  | [n], _, _, h => h n (by simp) (by simp)
  | n :: n' :: r, hi, h1, h2 => by
    refine ⟨fun d hd hd' => h1 n (by simp) n' (fun x hx => ?_) d hd hd', Steps.of hi.2 (fun m hm m' hm' => h1 m (by simp [hm]) m' fun x hx => ?_) (fun m hm hm' => h2 m (by simp [hm]) fun x hx => ?_)⟩
    · rcases List.mem_cons.1 hx with rfl | hx
      · left; omega
      · right
        rcases List.mem_cons.1 hx with rfl | hx
        · omega
        · have := hi.2.head_lt x hx; omega
    · rcases List.mem_cons.1 hx with rfl | hx
      · have := hi.head_lt m hm; left; omega
      · exact hm' x hx
    · rcases List.mem_cons.1 hx with rfl | hx
      · have := hi.head_lt m hm; omega
      · exact hm' x hx
theorem run_nrm (P : Int → Bool) : ∀ (r : List Int) (n : Int), Inc (n :: r) → (∀ x ∈ n :: r, 0 ≤ x ∧ x ≤ 3652059) → Nrm n (run P (-1) (n :: r)) ∧ ∀ o, 0 ≤ o → o < n → Nrm o (run P o (n :: r))
  | [], n, _, h => by
    have hn := h n (by simp)
    constructor
    · cases hp : P n <;> simp [run, hp, Nrm]
    · intro o h0 h1
      cases hp : P n
      · have : run P o [n] = [(o, n)] := by simp [run, hp, show ¬ o < 0 by omega]
        rw [this]
        exact ⟨Int.le_refl _, (rightS_iff _).2 ⟨h0, h1, hn.2⟩, trivial⟩
      · simp [run, hp, Nrm]
  | n' :: r, n, hi, h => by
    have hn := h n (by simp)
    have hlt := hi.1
    obtain ⟨i1, i2⟩ := run_nrm P r n' hi.2 fun x hx => h x (by simp [hx])
    constructor
    · rw [run]
      cases hp : P n
      · simpa using i1.low (by omega)
      · simpa using i2 n hn.1 hlt
    · intro o h0 h1
      rw [run]
      cases hp : P n
      · simp only [Bool.false_eq_true, if_false, if_neg (show ¬ o < 0 by omega)]
        exact ⟨Int.le_refl _, (rightS_iff _).2 ⟨h0, h1, hn.2⟩, i1.low (by show n + 1 ≤ n'; omega)⟩
      · simp only [if_true, if_neg (show ¬ o < 0 by omega)]
        exact i2 o h0 (by omega)
theorem run_has (P : Int → Bool) : ∀ (r : List Int) (n : Int), Inc (n :: r) → (∀ x ∈ n :: r, 0 ≤ x ∧ x ≤ 3652059) → Steps P (n :: r) →
    (∀ d, hasB (run P (-1) (n :: r)) d = (decide (n ≤ d) && P d)) ∧ ∀ o, 0 ≤ o → o < n → ∀ d, hasB (run P o (n :: r)) d = ((decide (o ≤ d) && decide (d < n)) || (decide (n ≤ d) && P d))
  | [], n, _, h, hs => by
    have hn := h n (by simp)
    have hp : P n = false := hs n (Int.le_refl _)
    have key : ∀ d, (decide (n ≤ d) && P d) = false := by
      intro d
      by_cases hd : n ≤ d
      · rw [hs d hd]; simp
      · simp [hd]
    refine ⟨fun d => ?_, fun o h0 h1 d => ?_⟩
    · rw [key]; simp [run, hp, hasB_nil]
    · rw [key]
      have e : run P o [n] = [(o, n)] := by simp [run, hp, show ¬ o < 0 by omega]
      have hr : rightS (o, n) = true := (rightS_iff _).2 ⟨h0, h1, hn.2⟩
      rw [e, hasB_cons, hasB_nil]
      simp [coverS, hr]
  | n' :: r, n, hi, h, hs => by
    have hn := h n (by simp)
    have hlt := hi.1
    obtain ⟨i1, i2⟩ := run_has P r n' hi.2 (fun x hx => h x (by simp [hx])) hs.2
    have hmid := hs.1
    refine ⟨fun d => ?_, fun o h0 h1 d => ?_⟩
    · rw [run]
      cases hp : P n
      · simp only [Bool.false_eq_true, if_false, if_true, show (-1 : Int) < 0 by decide]
        rw [i1 d]
        by_cases h1 : n' ≤ d
        · simp [h1, show n ≤ d by omega]
        · by_cases h2 : n ≤ d
          · simp [h1, h2, hmid d h2 (by omega), hp]
          · simp [h1, h2]
      · simp only [if_true, show (-1 : Int) < 0 by decide]
        rw [i2 n hn.1 hlt d]
        by_cases h1 : n' ≤ d
        · simp [h1, show n ≤ d by omega, show ¬ d < n' by omega]
        · by_cases h2 : n ≤ d
          · simp [h1, h2, hmid d h2 (by omega), hp, show d < n' by omega]
          · simp [h1, h2]
    · rw [run]
      cases hp : P n
      · simp only [Bool.false_eq_true, if_false, if_neg (show ¬ o < 0 by omega)]
        have hr : rightS (o, n) = true := (rightS_iff _).2 ⟨h0, h1, hn.2⟩
        rw [hasB_cons, i1 d]
        simp only [coverS, hr, Bool.true_and]
        by_cases h1' : n' ≤ d
        · simp [h1', show n ≤ d by omega, show ¬ d < n by omega]
        · by_cases h2 : n ≤ d
          · simp [h1', h2, hmid d h2 (by omega), hp, show ¬ d < n by omega]
          · simp [h1', h2]
      · simp only [if_true, if_neg (show ¬ o < 0 by omega)]
        rw [i2 o h0 (by omega) d]
        by_cases h1' : n' ≤ d
        · simp [h1', show n ≤ d by omega, show ¬ d < n' by omega, show ¬ d < n by omega]
        · by_cases h2 : n ≤ d
          · simp [h1', h2, hmid d h2 (by omega), hp, show d < n' by omega, show o ≤ d by omega]
          · simp [h1', h2, show d < n' by omega, show d < n by omega]
theorem hasB_low {l : List Sp} {d : Int} (h : ∀ x ∈ ends l, d < x) : hasB l d = false := by
  cases hh : hasB l d
  · rfl
  · exfalso
    obtain ⟨s, hs, hr, h1, h2⟩ := (hasB_iff l d).1 hh
    have := h s.1 (mem_ends.2 ⟨s, hs, hr, .inl rfl⟩)
    omega
theorem mem_bnd2 {a b : List Sp} {x : Int} : (x ∈ ends a → x ∈ bnd (a ++ b)) ∧ (x ∈ ends b → x ∈ bnd (a ++ b)) :=
  ⟨fun h => mem_bnd.2 (by rw [ends_append]; exact List.mem_append.2 (.inl h)), fun h => mem_bnd.2 (by rw [ends_append]; exact List.mem_append.2 (.inr h))⟩
theorem steps_both {f : Bool → Bool → Bool} (hf : f false false = false) (a b : List Sp) : Steps (both f a b) (bnd (a ++ b)) := by
  refine Steps.of (inc_bnd _) (fun n hn n' hm d h1 h2 => ?_) (fun n hn hm d hd => ?_)
  · unfold both
    rw [hasB_step (l := a) (fun x hx => hm x (mem_bnd2.1 hx)) h1 h2, hasB_step (l := b) (fun x hx => hm x (mem_bnd2.2 hx)) h1 h2]
  · unfold both
    rw [cover_last (l := a) fun x hx => by have := hm x (mem_bnd2.1 hx); omega, cover_last (l := b) fun x hx => by have := hm x (mem_bnd2.2 hx); omega, hf]
/-- the days of a combination -/
theorem hasB_comb {f : Bool → Bool → Bool} (hf : f false false = false) (a b : List Sp) (d : Int) : hasB (comb f a b) d = f (hasB a d) (hasB b d) := by
  have hi := inc_bnd (a ++ b)
  have hs := steps_both hf a b
  have hb : ∀ x ∈ bnd (a ++ b), 0 ≤ x ∧ x ≤ 3652059 := fun x hx => bnd_bd hx
  unfold comb
  by_cases hl : ∀ x ∈ bnd (a ++ b), d < x
  · rw [hasB_low (l := a) fun x hx => hl x (mem_bnd2.1 hx), hasB_low (l := b) fun x hx => hl x (mem_bnd2.2 hx), hf]
    cases hc : bnd (a ++ b) with
    | nil => simp [run, hasB_nil]
    | cons n r =>
      rw [hc] at hi hs hb hl
      rw [(run_has _ r n hi hb hs).1 d]
      have := hl n (by simp)
      simp [show ¬ n ≤ d by omega]
  · cases hc : bnd (a ++ b) with
    | nil => rw [hc] at hl; simp at hl
    | cons n r =>
      rw [hc] at hi hs hb hl
      rw [(run_has _ r n hi hb hs).1 d]
      have : n ≤ d := Classical.byContradiction fun h => hl fun x hx => by
        rcases List.mem_cons.1 hx with rfl | hx
        · omega
        · have := hi.head_lt x hx; omega
      simp [this, both]
theorem comb_nrm (f : Bool → Bool → Bool) (a b : List Sp) : Nrm 0 (comb f a b) := by
  have hi := inc_bnd (a ++ b)
  have hb : ∀ x ∈ bnd (a ++ b), 0 ≤ x ∧ x ≤ 3652059 := fun x hx => bnd_bd hx
  unfold comb
  cases hc : bnd (a ++ b) with
  | nil => trivial
  | cons n r =>
    rw [hc] at hi hb
    exact ((run_nrm _ r n hi hb).1).low (hb n (by simp)).1
theorem hasB_norm (l : List Sp) (d : Int) : hasB (norm l) d = hasB l d := by
  unfold norm
  rw [hasB_comb rfl]
  simp [orF, hasB_nil]
theorem norm_nrm (l : List Sp) : Nrm 0 (norm l) := comb_nrm _ _ _

/-! ### a normal list is told by its days -/
theorem Nrm.has_lo : ∀ {l : List Sp} {b d : Int}, Nrm b l → hasB l d = true → b ≤ d
  | [], _, _, _, h => by simp [hasB_nil] at h
  | s :: r, b, d, hn, h => by
    rw [hasB_cons, Bool.or_eq_true] at h
    rcases h with h | h
    · have := (coverS_iff s d).1 h; have := hn.1; omega
    · have := hn.2.2.has_lo h; have := (rightS_iff s).1 hn.2.1; have := hn.1; omega
theorem Nrm.ext : ∀ {l m : List Sp} {b b' : Int}, Nrm b l → Nrm b' m → (∀ d, hasB l d = hasB m d) → l = m
  | [], [], _, _, _, _, _ => rfl
  | [], t :: m, _, _, _, hm, h => by
    have hr := (rightS_iff t).1 hm.2.1
    have e := h t.1
    have c : coverS t t.1 = true := (coverS_iff t t.1).2 ⟨hm.2.1, by omega, by omega⟩
    rw [hasB_nil, hasB_cons, c] at e
    simp at e
  | s :: l, [], _, _, hl, _, h => by
    have hr := (rightS_iff s).1 hl.2.1
    have e := h s.1
    have c : coverS s s.1 = true := (coverS_iff s s.1).2 ⟨hl.2.1, by omega, by omega⟩
    rw [hasB_nil, hasB_cons, c] at e
    simp at e
  | s :: l, t :: m, b, b', hl, hm, h => by
    have hr := (rightS_iff s).1 hl.2.1
    have hq := (rightS_iff t).1 hm.2.1
    have cs : ∀ d, s.1 ≤ d → d < s.2 → hasB (s :: l) d = true := fun d h1 h2 => by
      rw [hasB_cons, (coverS_iff s d).2 ⟨hl.2.1, h1, h2⟩]; rfl
    have ct : ∀ d, t.1 ≤ d → d < t.2 → hasB (t :: m) d = true := fun d h1 h2 => by
      rw [hasB_cons, (coverS_iff t d).2 ⟨hm.2.1, h1, h2⟩]; rfl
    have hl' : Nrm s.1 (s :: l) := ⟨Int.le_refl _, hl.2⟩
    have hm' : Nrm t.1 (t :: m) := ⟨Int.le_refl _, hm.2⟩
    have e1 : t.1 ≤ s.1 := hm'.has_lo ((h s.1).symm.trans (cs s.1 (by omega) (by omega)))
    have e2 : s.1 ≤ t.1 := hl'.has_lo ((h t.1).trans (ct t.1 (by omega) (by omega)))
    have ns : hasB (s :: l) s.2 = false := by
      cases hh : hasB (s :: l) s.2
      · rfl
      · rw [hasB_cons, Bool.or_eq_true] at hh
        rcases hh with hh | hh
        · have := (coverS_iff s s.2).1 hh; omega
        · have := hl.2.2.has_lo hh; omega
    have nt : hasB (t :: m) t.2 = false := by
      cases hh : hasB (t :: m) t.2
      · rfl
      · rw [hasB_cons, Bool.or_eq_true] at hh
        rcases hh with hh | hh
        · have := (coverS_iff t t.2).1 hh; omega
        · have := hm.2.2.has_lo hh; omega
    have f1 : ¬ s.2 < t.2 := fun hlt => by
      have := (h s.2).trans (ct s.2 (by omega) hlt); rw [ns] at this; exact absurd this (by decide)
    have f2 : ¬ t.2 < s.2 := fun hlt => by
      have := (h t.2).symm.trans (cs t.2 (by omega) hlt); rw [nt] at this; exact absurd this (by decide)
    have est : s = t := Prod.ext (by omega) (by omega)
    subst est
    rw [hl.2.2.ext hm.2.2 fun d => ?_]
    by_cases hd : d ≤ s.2
    · have z1 : hasB l d = false := by
        cases hh : hasB l d
        · rfl
        · have := hl.2.2.has_lo hh; omega
      have z2 : hasB m d = false := by
        cases hh : hasB m d
        · rfl
        · have := hm.2.2.has_lo hh; omega
      rw [z1, z2]
    · have e := h d
      have c : coverS s d = false := by
        cases hh : coverS s d
        · rfl
        · have := (coverS_iff s d).1 hh; omega
      rw [hasB_cons, hasB_cons, c] at e
      simpa using e
/-- a normal list is its own Norm -/
theorem norm_self {l : List Sp} {b : Int} (h : Nrm b l) : norm l = l := (norm_nrm l).ext h (hasB_norm l)
theorem comb_ext {f g : Bool → Bool → Bool} (hf : f false false = false) (hg : g false false = false) {a b c e : List Sp} (h : ∀ d, f (hasB a d) (hasB b d) = g (hasB c d) (hasB e d)) : comb f a b = comb g c e :=
  (comb_nrm f a b).ext (comb_nrm g c e) fun d => by rw [hasB_comb hf, hasB_comb hg, h]
theorem hasB_reverse (l : List Sp) (d : Int) : hasB l.reverse d = hasB l d := by simp [hasB]

/-! ### how many days -/
/-- the days from lo on, n of them, that P takes -/
def cntD (P : Int → Bool) (lo : Int) : Nat → Int
  | 0 => 0
  | n + 1 => cntD P lo n + (if P (lo + n) = true then 1 else 0)
theorem cntD_congr {P Q : Int → Bool} {lo : Int} : ∀ {n : Nat}, (∀ d, lo ≤ d → d < lo + n → P d = Q d) → cntD P lo n = cntD Q lo n
  | 0, _ => rfl
  | n + 1, h => by rw [cntD, cntD, cntD_congr fun d h1 h2 => h d h1 (by omega), h (lo + n) (by omega) (by omega)]
theorem cntD_false {P : Int → Bool} {lo : Int} : ∀ {n : Nat}, (∀ d, lo ≤ d → d < lo + n → P d = false) → cntD P lo n = 0
  | 0, _ => rfl
  | n + 1, h => by rw [cntD, cntD_false fun d h1 h2 => h d h1 (by omega), h (lo + n) (by omega) (by omega)]; rfl
theorem cntD_true {P : Int → Bool} {lo : Int} : ∀ {n : Nat}, (∀ d, lo ≤ d → d < lo + n → P d = true) → cntD P lo n = n
  | 0, _ => rfl
  | n + 1, h => by rw [cntD, cntD_true fun d h1 h2 => h d h1 (by omega), h (lo + n) (by omega) (by omega)]; simp
theorem cntD_add (P : Int → Bool) (lo : Int) (m : Nat) : ∀ n : Nat, cntD P lo (m + n) = cntD P lo m + cntD P (lo + m) n
  | 0 => by simp [cntD]
  | n + 1 => by
    rw [← Nat.add_assoc, cntD, cntD, cntD_add P lo m n, show lo + ((m + n : Nat) : Int) = lo + (m : Int) + (n : Int) by omega]
    omega
theorem cntD_bd (P : Int → Bool) (lo : Int) : ∀ n : Nat, 0 ≤ cntD P lo n ∧ cntD P lo n ≤ n
  | 0 => by simp [cntD]
  | n + 1 => by have := cntD_bd P lo n; rw [cntD]; split <;> omega
theorem cntD_mono {P Q : Int → Bool} {lo : Int} : ∀ {n : Nat}, (∀ d, lo ≤ d → d < lo + n → P d = true → Q d = true) → cntD P lo n ≤ cntD Q lo n
  | 0, _ => Int.le_refl _
  | n + 1, h => by
    have ih := cntD_mono (n := n) fun d h1 h2 => h d h1 (by omega)
    have e := h (lo + n) (by omega) (by omega)
    rw [cntD, cntD]
    by_cases hp : P (lo + n) = true
    · rw [if_pos hp, if_pos (e hp)]; omega
    · rw [if_neg hp]; split <;> omega
theorem cntD_not (P : Int → Bool) (lo : Int) : ∀ n : Nat, cntD P lo n + cntD (fun d => !P d) lo n = n
  | 0 => by simp [cntD]
  | n + 1 => by
    have := cntD_not P lo n
    rw [cntD, cntD]
    cases P (lo + n) <;> simp <;> omega
theorem cntD_sum (a b : Int → Bool) (lo : Int) : ∀ n : Nat, cntD (fun d => orF (a d) (b d)) lo n + cntD (fun d => andF (a d) (b d)) lo n = cntD a lo n + cntD b lo n
  | 0 => by simp [cntD]
  | n + 1 => by
    have := cntD_sum a b lo n
    rw [cntD, cntD, cntD, cntD]
    obtain ⟨x, hx⟩ : ∃ x, cntD (fun d => orF (a d) (b d)) lo n = x := ⟨_, rfl⟩
    obtain ⟨y, hy⟩ : ∃ y, cntD (fun d => andF (a d) (b d)) lo n = y := ⟨_, rfl⟩
    rw [hx, hy] at this ⊢
    cases a (lo + n) <;> cases b (lo + n) <;> simp [orF, andF] <;> omega
theorem days_cnt : ∀ {l : List Sp} {b lo : Int} {n : Nat}, Nrm b l → lo ≤ b → 0 ≤ lo → 3652059 ≤ lo + n → cntD (hasB l) lo n = daysL l
  | [], b, lo, n, _, _, _, _ => by
    rw [cntD_false fun d _ _ => hasB_nil d]; rfl
  | s :: r, b, lo, n, hn, hlo, h0, hhi => by
    have hr := (rightS_iff s).1 hn.2.1
    have hb := hn.1
    obtain ⟨p, hp⟩ : ∃ p : Nat, s.1 - lo = p := ⟨(s.1 - lo).toNat, by omega⟩
    obtain ⟨q, hq⟩ : ∃ q : Nat, s.2 - s.1 = q := ⟨(s.2 - s.1).toNat, by omega⟩
    obtain ⟨m, hm⟩ : ∃ m : Nat, n = p + (q + m) := ⟨n - p - q, by omega⟩
    rw [hm, cntD_add, cntD_add, daysL_cons]
    have e1 : cntD (hasB (s :: r)) lo p = 0 := cntD_false fun d h1 h2 => by
      cases hh : hasB (s :: r) d
      · rfl
      · have := Nrm.has_lo (l := s :: r) (b := s.1) ⟨Int.le_refl _, hn.2⟩ hh; omega
    have e2 : cntD (hasB (s :: r)) (lo + p) q = q := cntD_true fun d h1 h2 => by
      rw [hasB_cons, (coverS_iff s d).2 ⟨hn.2.1, by omega, by omega⟩]; rfl
    have e3 : cntD (hasB (s :: r)) (lo + p + q) m = cntD (hasB r) (lo + p + q) m := cntD_congr fun d h1 h2 => by
      have c : coverS s d = false := by
        cases hh : coverS s d
        · rfl
        · have := (coverS_iff s d).1 hh; omega
      rw [hasB_cons, c]; rfl
    rw [e1, e2, e3, days_cnt (l := r) (b := s.2 + 1) hn.2.2 (by omega) (by omega) (by omega)]
    omega
/-- how many days a list has -/
theorem days_norm (l : List Sp) : daysL (norm l) = cntD (hasB l) 0 3652059 := by
  rw [← days_cnt (norm_nrm l) (lo := 0) (n := 3652059) (by omega) (by omega) (by omega)]
  exact cntD_congr fun d _ _ => hasB_norm l d
theorem days_two (a b : List Sp) : daysL (norm (comb orF a b)) + daysL (norm (comb andF a b)) = daysL (norm a) + daysL (norm b) := by
  rw [days_norm, days_norm, days_norm, days_norm]
  rw [← cntD_sum (hasB a) (hasB b)]
  rw [cntD_congr (P := hasB (comb orF a b)) (Q := fun d => orF (hasB a d) (hasB b d)) fun d _ _ => hasB_comb rfl a b d]
  rw [cntD_congr (P := hasB (comb andF a b)) (Q := fun d => andF (hasB a d) (hasB b d)) fun d _ _ => hasB_comb rfl a b d]

/-! ### where a term ends -/
def freeB (l : List Sp) (d : Int) : Bool := !hasB l d
/-- a term of n days that begins on d ends on e -/
structure Term (l : List Sp) (d n e : Int) : Prop where
  le : d ≤ e
  cnt : cntD (freeB l) d (e - d).toNat = n
  last : e = d ∨ hasB l (e - 1) = false
theorem cnt_term : ∀ {l : List Sp} {b d n : Int}, Nrm b l → 0 ≤ n → Term l d n ((cntL l d n).1 + (cntL l d n).2)
  | [], b, d, n, _, h0 => by
    refine ⟨by simp [cntL]; omega, ?_, .inr (hasB_nil _)⟩
    show cntD (freeB []) d (d + n - d).toNat = n
    rw [cntD_true fun x _ _ => by simp [freeB, hasB_nil]]
    omega
  | s :: r, b, d, n, hn, h0 => by
    have hr := (rightS_iff s).1 hn.2.1
    have hlow : ∀ x, x < s.1 → hasB (s :: r) x = false := fun x hx => by
      cases hh : hasB (s :: r) x
      · rfl
      · have := Nrm.has_lo (l := s :: r) (b := s.1) ⟨Int.le_refl _, hn.2⟩ hh; omega
    have hin : ∀ x, s.1 ≤ x → x < s.2 → hasB (s :: r) x = true := fun x h1 h2 => by
      rw [hasB_cons, (coverS_iff s x).2 ⟨hn.2.1, h1, h2⟩]; rfl
    have hup : ∀ x, s.2 ≤ x → hasB (s :: r) x = hasB r x := fun x hx => by
      have c : coverS s x = false := by
        cases hh : coverS s x
        · rfl
        · have := (coverS_iff s x).1 hh; omega
      rw [hasB_cons, c]; rfl
    by_cases hle : n ≤ max (s.1 - d) 0
    · rw [cntL, if_pos hle]
      refine ⟨by show d ≤ d + n; omega, ?_, ?_⟩
      · show cntD _ d (d + n - d).toNat = n
        rw [cntD_true fun x h1 h2 => by rw [freeB, hlow x (by omega)]; rfl]
        omega
      · show d + n = d ∨ hasB (s :: r) (d + n - 1) = false
        by_cases hz : n = 0
        · left; omega
        · right; exact hlow _ (by omega)
    · rw [cntL, if_neg hle]
      have ih := cnt_term (l := r) (d := max d s.2) (n := n - max (s.1 - d) 0) hn.2.2 (by omega)
      obtain ⟨e, he⟩ : ∃ e, (cntL r (max d s.2) (n - max (s.1 - d) 0)).1 + (cntL r (max d s.2) (n - max (s.1 - d) 0)).2 = e := ⟨_, rfl⟩
      rw [he] at ih ⊢
      have hle1 := ih.le
      have hcnt := ih.cnt
      have hne : e ≠ max d s.2 := fun h => by
        rw [h, show (max d s.2 - max d s.2).toNat = 0 by omega] at hcnt
        simp [cntD] at hcnt; omega
      refine ⟨by omega, ?_, .inr ?_⟩
      · obtain ⟨p, hp⟩ : ∃ p : Nat, max (s.1 - d) 0 = p := ⟨(max (s.1 - d) 0).toNat, by omega⟩
        obtain ⟨q, hq⟩ : ∃ q : Nat, max d s.2 - d - p = q := ⟨(max d s.2 - d - p).toNat, by omega⟩
        obtain ⟨m, hm⟩ : ∃ m : Nat, e - max d s.2 = m := ⟨(e - max d s.2).toNat, by omega⟩
        rw [show (e - d).toNat = p + (q + m) by omega, cntD_add, cntD_add]
        have e1 : cntD (freeB (s :: r)) d p = p := cntD_true fun x h1 h2 => by rw [freeB, hlow x (by omega)]; rfl
        have e2 : cntD (freeB (s :: r)) (d + p) q = 0 := cntD_false fun x h1 h2 => by rw [freeB, hin x (by omega) (by omega)]; rfl
        have e3 : cntD (freeB (s :: r)) (d + p + q) m = cntD (freeB r) (d + p + q) m := cntD_congr fun x h1 h2 => by rw [freeB, freeB, hup x (by omega)]
        rw [show (e - max d s.2).toNat = m by omega] at hcnt
        rw [e1, e2, e3, show d + (p : Int) + (q : Int) = max d s.2 by omega, hcnt]
        omega
      · rw [hup _ (by omega)]
        rcases ih.last with h | h
        · exact absurd h hne
        · exact h
/-- the end is the least day before which there are so many free ones -/
theorem Term.least {l : List Sp} {d n e x : Int} (h : Term l d n e) (hx : d ≤ x) (hc : n ≤ cntD (freeB l) d (x - d).toNat) : e ≤ x := by
  refine Classical.byContradiction fun hlt => ?_
  have hl := h.last
  have hne : e ≠ d := by omega
  have hfree : hasB l (e - 1) = false := hl.resolve_left hne
  obtain ⟨p, hp⟩ : ∃ p : Nat, x - d = p := ⟨(x - d).toNat, by omega⟩
  obtain ⟨q, hq⟩ : ∃ q : Nat, e - 1 - x = q := ⟨(e - 1 - x).toNat, by omega⟩
  have hcnt := h.cnt
  rw [show (e - d).toNat = p + (q + 1) by omega, cntD_add, cntD_add] at hcnt
  rw [show (x - d).toNat = p by omega] at hc
  have b1 := cntD_bd (freeB l) (d + p) q
  have e1 : cntD (freeB l) (d + p + q) 1 = 1 := by
    simp only [cntD]
    rw [show d + (p : Int) + (q : Int) + ((0 : Nat) : Int) = e - 1 by omega, freeB, hfree]; rfl
  omega
theorem Term.same {l : List Sp} {d n e e' : Int} (h : Term l d n e) (h' : Term l d n e') : e = e' := by
  have h1 := h.least h'.le (by rw [h'.cnt]; exact Int.le_refl _)
  have h2 := h'.least h.le (by rw [h.cnt]; exact Int.le_refl _)
  omega
/-- terms are divided -/
theorem Term.cut {l : List Sp} {d p q m e : Int} (h : Term l d p m) (h' : Term l m q e) : Term l d (p + q) e := by
  have h1 := h.le
  have h2 := h'.le
  refine ⟨by omega, ?_, ?_⟩
  · obtain ⟨a, ha⟩ : ∃ a : Nat, m - d = a := ⟨(m - d).toNat, by omega⟩
    obtain ⟨b, hb⟩ : ∃ b : Nat, e - m = b := ⟨(e - m).toNat, by omega⟩
    have c1 := h.cnt
    have c2 := h'.cnt
    rw [show (m - d).toNat = a by omega] at c1
    rw [show (e - m).toNat = b by omega] at c2
    rw [show (e - d).toNat = a + b by omega, cntD_add, c1, show d + (a : Int) = m by omega, c2]
  · rcases h'.last with hl | hl
    · rw [hl]; exact h.last
    · exact .inr hl
/-- a later beginning makes no term end earlier -/
theorem Term.later {l : List Sp} {d d' n e e' : Int} (h : Term l d n e) (h' : Term l d' n e') (hd : d ≤ d') : e ≤ e' := by
  have h1 := h'.le
  refine h.least (by omega) ?_
  obtain ⟨a, ha⟩ : ∃ a : Nat, d' - d = a := ⟨(d' - d).toNat, by omega⟩
  obtain ⟨b, hb⟩ : ∃ b : Nat, e' - d' = b := ⟨(e' - d').toNat, by omega⟩
  have c := h'.cnt
  rw [show (e' - d').toNat = b by omega] at c
  rw [show (e' - d).toNat = a + b by omega, cntD_add, show d + (a : Int) = d' by omega, c]
  have := cntD_bd (freeB l) d a
  omega
/-- more days in the list make no term end earlier -/
theorem Term.more {l m : List Sp} {d n e e' : Int} (h : Term l d n e) (h' : Term m d n e') (hm : ∀ x, hasB l x = true → hasB m x = true) : e ≤ e' := by
  refine h.least h'.le ?_
  rw [← h'.cnt]
  refine cntD_mono fun x _ _ hx => ?_
  cases hh : hasB l x
  · simp [freeB, hh]
  · simp [freeB, hm x hh] at hx
theorem Term.grow {l : List Sp} {d n n' e e' : Int} (h : Term l d n e) (h' : Term l d n' e') (hn : n ≤ n') : e ≤ e' := h.least h'.le (by rw [h'.cnt]; exact hn)
theorem Term.norm {l : List Sp} {d n e : Int} (h : Term (norm l) d n e) : Term l d n e := by
  refine ⟨h.le, ?_, ?_⟩
  · rw [← h.cnt]; exact cntD_congr fun x _ _ => by rw [freeB, freeB, hasB_norm]
  · rw [← hasB_norm]; exact h.last
/-- the end of the term that Count finds -/
def endT (l : List Sp) (d n : Int) : Int := (cntL (norm l) d n).1 + (cntL (norm l) d n).2
theorem endT_term (l : List Sp) {d n : Int} (h0 : 0 ≤ n) : Term l d n (endT l d n) := (cnt_term (norm_nrm l) h0).norm
/-- not further than so many days after which none is in the list -/
theorem Term.near {l : List Sp} {d n e k : Int} (h : Term l d n e) (h0 : 0 ≤ n) (hk : d ≤ k) (hf : ∀ x, k ≤ x → x < k + n → hasB l x = false) : e ≤ k + n := by
  refine h.least (by omega) ?_
  obtain ⟨a, ha⟩ : ∃ a : Nat, k - d = a := ⟨(k - d).toNat, by omega⟩
  obtain ⟨b, hb⟩ : ∃ b : Nat, n = b := ⟨n.toNat, by omega⟩
  rw [show (k + n - d).toNat = a + b by omega, cntD_add]
  have e1 : cntD (freeB l) (d + a) b = b := cntD_true fun x h1 h2 => by rw [freeB, hf x (by omega) (by omega)]; rfl
  have := cntD_bd (freeB l) d a
  omega
end Go.Proofs.Ytodkppeikpaclaa.Spn
