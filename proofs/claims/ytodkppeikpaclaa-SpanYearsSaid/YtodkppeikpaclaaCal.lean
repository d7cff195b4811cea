/- Plain facts on the calendar: leap years, lengths of months, numbers of dates, and dates of numbers. No program in sight; no condition but those that each theorem names. -/
import Derived.Below
namespace Go.Proofs.Ytodkppeikpaclaa.Cal
set_option linter.unusedVariables false

def leapB (y : Int) : Bool := y % 4 == 0 && (y % 100 != 0 || y % 400 == 0)
def lp (y : Int) : Int := if leapB y = true then 1 else 0
def dim (y m : Int) : Int := if m = 2 then 28 + lp y else if m = 4 ∨ m = 6 ∨ m = 9 ∨ m = 11 then 30 else 31
def validB (y m d : Int) : Bool := decide (1 ≤ y ∧ y ≤ 9999 ∧ 1 ≤ m ∧ m ≤ 12 ∧ 1 ≤ d ∧ d ≤ dim y m)
def dby (y : Int) : Int := 365 * (y - 1) + (y - 1) / 4 - (y - 1) / 100 + (y - 1) / 400
def cum (y m : Int) : Int := (367 * m - 362) / 12 - (if m ≤ 2 then 0 else 2) + (if m ≤ 2 then 0 else lp y)
def num (y m d : Int) : Int := dby y + cum y m + d - 1
/-- the lengths of the months from March on -/
def len12 (k : Nat) : Int := ([31, 30, 31, 30, 31, 31, 30, 31, 30, 31, 31, 28] : List Int).getD k 0
/-- days from the first of March to the month that is k months later -/
def mar (k : Nat) : Int := ([0, 31, 61, 92, 122, 153, 184, 214, 245, 275, 306, 337, 365] : List Int).getD k 0

theorem lp_01 (y : Int) : 0 ≤ lp y ∧ lp y ≤ 1 := by unfold lp; split <;> omega
theorem lp_true {y : Int} (h : leapB y = true) : lp y = 1 := by simp [lp, h]
theorem lp_false {y : Int} (h : leapB y = false) : lp y = 0 := by simp [lp, h]
theorem leapB_iff (y : Int) : leapB y = true ↔ (y % 4 = 0 ∧ (y % 100 ≠ 0 ∨ y % 400 = 0)) := by
  simp [leapB]
theorem leap_dby (y : Int) : dby (y + 1) = dby y + 365 + lp y := by
  by_cases h : leapB y = true
  · rw [lp_true h]; rw [leapB_iff] at h; unfold dby; omega
  · rw [lp_false (by simpa using h)]; rw [leapB_iff] at h; unfold dby; omega
theorem dim_lo (y m : Int) : 28 ≤ dim y m ∧ dim y m ≤ 31 := by
  have := lp_01 y; unfold dim; (repeat' split) <;> omega
theorem cum_succ (y m : Int) (h1 : 1 ≤ m) (h2 : m ≤ 12) : cum y (m + 1) = cum y m + dim y m := by
  have hl := lp_01 y
  have : m = 1 ∨ m = 2 ∨ m = 3 ∨ m = 4 ∨ m = 5 ∨ m = 6 ∨ m = 7 ∨ m = 8 ∨ m = 9 ∨ m = 10 ∨ m = 11 ∨ m = 12 := by omega
  rcases this with rfl | rfl | rfl | rfl | rfl | rfl | rfl | rfl | rfl | rfl | rfl | rfl <;> simp [cum, dim] <;> omega
theorem cum_bd (y m : Int) (h1 : 1 ≤ m) (h2 : m ≤ 12) : 0 ≤ cum y m ∧ cum y m ≤ 335 := by
  have hl := lp_01 y
  unfold cum; split <;> omega
theorem cum_one (y : Int) : cum y 1 = 0 := by simp [cum]
theorem cum_thirteen (y : Int) : cum y 13 = 365 + lp y := by simp [cum]
theorem dby_mono (a b : Int) (h : a ≤ b) : dby a ≤ dby b := by unfold dby; omega
theorem dby_lt (a b : Int) (h : a < b) : dby a + 365 ≤ dby b := by
  have := dby_mono (a + 1) b (by omega); have h2 := leap_dby a; have := lp_01 a; omega
theorem dby_bd (y : Int) (h1 : 1 ≤ y) (h2 : y ≤ 10000) : 0 ≤ dby y ∧ dby y ≤ 3652059 := by unfold dby; omega
theorem dby_one : dby 1 = 0 := by decide
theorem dby_last : dby 10000 = 3652059 := by decide
theorem valid_iff (y m d : Int) : validB y m d = true ↔ (1 ≤ y ∧ y ≤ 9999 ∧ 1 ≤ m ∧ m ≤ 12 ∧ 1 ≤ d ∧ d ≤ dim y m) := by simp [validB]
theorem valid_mk {y m d : Int} (h : 1 ≤ y ∧ y ≤ 9999 ∧ 1 ≤ m ∧ m ≤ 12 ∧ 1 ≤ d ∧ d ≤ dim y m) : validB y m d = true := (valid_iff y m d).2 h
theorem valid_not {y m d : Int} (h : ¬ (1 ≤ y ∧ y ≤ 9999 ∧ 1 ≤ m ∧ m ≤ 12 ∧ 1 ≤ d ∧ d ≤ dim y m)) : validB y m d = false := by simp only [validB, decide_eq_false_iff_not]; exact h
theorem num_bd {y m d : Int} (h : validB y m d = true) : 0 ≤ num y m d ∧ num y m d ≤ 3652058 := by
  obtain ⟨h1, h2, h3, h4, h5, h6⟩ := (valid_iff y m d).1 h
  have a := dby_bd y h1 (by omega); have b := cum_bd y m h3 h4; have c := cum_succ y m h3 h4
  have e : cum y (m + 1) ≤ 365 + lp y := by
    by_cases h12 : m = 12
    · subst h12; have := cum_thirteen y; simp only [show (12 : Int) + 1 = 13 from rfl]; omega
    · have := cum_bd y (m + 1) (by omega) (by omega); have := lp_01 y; omega
  have f := leap_dby y
  have g := dby_bd (y + 1) (by omega) (by omega)
  unfold num; omega
/-- the number of a date by months from March on -/
theorem num_mar (y m d : Int) (h3 : 1 ≤ m) (h4 : m ≤ 12) :
    (let y' := if m < 3 then y - 1 else y; 365 * y' + y' / 4 - y' / 100 + y' / 400 + mar ((m + 9) % 12).toNat + d - 1 - 306) = num y m d := by
  have hl := lp_01 y
  have hd := leap_dby y
  have : m = 1 ∨ m = 2 ∨ m = 3 ∨ m = 4 ∨ m = 5 ∨ m = 6 ∨ m = 7 ∨ m = 8 ∨ m = 9 ∨ m = 10 ∨ m = 11 ∨ m = 12 := by omega
  rcases this with rfl | rfl | rfl | rfl | rfl | rfl | rfl | rfl | rfl | rfl | rfl | rfl <;> simp [num, cum, mar] <;> unfold dby at * <;> omega
theorem mar_succ (k : Nat) (h : k < 12) : mar (k + 1) = mar k + len12 k := by
  have : k = 0 ∨ k = 1 ∨ k = 2 ∨ k = 3 ∨ k = 4 ∨ k = 5 ∨ k = 6 ∨ k = 7 ∨ k = 8 ∨ k = 9 ∨ k = 10 ∨ k = 11 := by omega
  rcases this with rfl | rfl | rfl | rfl | rfl | rfl | rfl | rfl | rfl | rfl | rfl | rfl <;> rfl
theorem mar_bd (k : Nat) (h : k ≤ 12) : 0 ≤ mar k ∧ mar k ≤ 365 := by
  have : k = 0 ∨ k = 1 ∨ k = 2 ∨ k = 3 ∨ k = 4 ∨ k = 5 ∨ k = 6 ∨ k = 7 ∨ k = 8 ∨ k = 9 ∨ k = 10 ∨ k = 11 ∨ k = 12 := by omega
  rcases this with rfl | rfl | rfl | rfl | rfl | rfl | rfl | rfl | rfl | rfl | rfl | rfl | rfl <;> decide
theorem len12_bd (k : Nat) : 0 ≤ len12 k ∧ len12 k ≤ 31 := by
  by_cases h : k < 12
  · have : k = 0 ∨ k = 1 ∨ k = 2 ∨ k = 3 ∨ k = 4 ∨ k = 5 ∨ k = 6 ∨ k = 7 ∨ k = 8 ∨ k = 9 ∨ k = 10 ∨ k = 11 := by omega
    rcases this with rfl | rfl | rfl | rfl | rfl | rfl | rfl | rfl | rfl | rfl | rfl | rfl <;> decide
  · have e : len12 k = 0 := by
      unfold len12
      rw [List.getD_eq_getElem?_getD, List.getElem?_eq_none (by simp; omega)]; rfl
    rw [e]; decide
/-- the length of a month by its place from March on -/
theorem dim_len (y m : Int) (h1 : 1 ≤ m) (h2 : m ≤ 12) : dim y m = len12 ((m + 9) % 12).toNat + (if m = 2 then lp y else 0) := by
  have : m = 1 ∨ m = 2 ∨ m = 3 ∨ m = 4 ∨ m = 5 ∨ m = 6 ∨ m = 7 ∨ m = 8 ∨ m = 9 ∨ m = 10 ∨ m = 11 ∨ m = 12 := by omega
  rcases this with rfl | rfl | rfl | rfl | rfl | rfl | rfl | rfl | rfl | rfl | rfl | rfl <;> simp [dim, len12]

/-- the year, the month and the day of a number -/
def cQ (n : Int) : Int := n / 146097
def cC (n : Int) : Int := min (n % 146097 / 36524) 3
def cS (n : Int) : Int := n % 146097 - cC n * 36524
def cF (n : Int) : Int := cS n / 1461
def cT (n : Int) : Int := cS n % 1461
def cK (n : Int) : Int := min (cT n / 365) 3
def civY (n : Int) : Int := 400 * cQ n + 100 * cC n + 4 * cF n + cK n + 1
def civR (n : Int) : Int := cT n - cK n * 365
def monthOf (y r : Int) : Int :=
  if r < cum y 2 then 1 else if r < cum y 3 then 2 else if r < cum y 4 then 3 else if r < cum y 5 then 4 else if r < cum y 6 then 5 else if r < cum y 7 then 6
  else if r < cum y 8 then 7 else if r < cum y 9 then 8 else if r < cum y 10 then 9 else if r < cum y 11 then 10 else if r < cum y 12 then 11 else 12
def civM (n : Int) : Int := monthOf (civY n) (n - dby (civY n))
def civD (n : Int) : Int := n - dby (civY n) - cum (civY n) (civM n) + 1

theorem civ_parts (n : Int) (h0 : 0 ≤ n) (h1 : n ≤ 3652058) : n = 146097 * cQ n + 36524 * cC n + 1461 * cF n + cT n ∧ 0 ≤ cQ n ∧ cQ n ≤ 24 ∧ 0 ≤ cC n ∧ cC n ≤ 3 ∧ 0 ≤ cF n ∧ cF n ≤ 24 ∧ 0 ≤ cK n ∧ cK n ≤ 3 ∧
    0 ≤ cS n ∧ cS n ≤ 36524 ∧ 0 ≤ cT n ∧ cT n ≤ 1460 ∧ 365 * cK n ≤ cT n ∧ (cK n < 3 → cT n < 365 * cK n + 365) ∧ (cF n = 24 → cC n < 3 → cT n < 1460) := by
  have h2 : n = 146097 * cQ n + n % 146097 := by unfold cQ; omega
  have h3 : 0 ≤ n % 146097 ∧ n % 146097 < 146097 := by omega
  have h4 : 0 ≤ cQ n ∧ cQ n ≤ 24 := by unfold cQ; omega
  have h5 : 0 ≤ cC n ∧ cC n ≤ 3 ∧ 36524 * cC n ≤ n % 146097 ∧ (cC n < 3 → n % 146097 < 36524 * cC n + 36524) := by unfold cC; omega
  have h6 : 0 ≤ cS n ∧ cS n ≤ 36524 ∧ n % 146097 = 36524 * cC n + cS n ∧ (cC n < 3 → cS n < 36524) := by
    have : cS n = n % 146097 - cC n * 36524 := rfl
    omega
  have h7 : cS n = 1461 * cF n + cT n ∧ 0 ≤ cT n ∧ cT n < 1461 ∧ 0 ≤ cF n ∧ cF n ≤ 24 ∧ (cF n = 24 → cC n < 3 → cT n < 1460) := by
    have e1 : cF n = cS n / 1461 := rfl
    have e2 : cT n = cS n % 1461 := rfl
    omega
  have h8 : 0 ≤ cK n ∧ cK n ≤ 3 ∧ 365 * cK n ≤ cT n ∧ (cK n < 3 → cT n < 365 * cK n + 365) := by unfold cK; omega
  clear h3
  refine ⟨by omega, by omega, by omega, by omega, by omega, by omega, by omega, by omega, by omega, by omega, by omega, by omega, by omega, by omega, h8.2.2.2, h7.2.2.2.2.2⟩
theorem civ_k3 (k t : Int) (h1 : k ≤ 3) (h2 : k < 3 → t < 365 * k + 365) (h3 : t = 1460) : k = 3 := by omega
theorem civ_leap (q c f Y : Int) (h : Y = 400 * q + 100 * c + 4 * f + 3 + 1) (h1 : 0 ≤ c) (h2 : c ≤ 3) (h3 : 0 ≤ f) (h4 : f ≤ 24) (h5 : f = 24 → c = 3) : Y % 4 = 0 ∧ (Y % 100 ≠ 0 ∨ Y % 400 = 0) := by
  refine ⟨by omega, ?_⟩
  by_cases hf : f = 24
  · have := h5 hf; right; omega
  · left; omega
theorem civ_lt (k t : Int) (h1 : k ≤ 3) (h2 : k < 3 → t < 365 * k + 365) (h3 : t ≤ 1460) (h4 : t ≠ 1460) : t - k * 365 < 365 + 0 := by omega
theorem civ_dby (n : Int) (h0 : 0 ≤ n) (h1 : n ≤ 3652058) : civR n = n - dby (civY n) ∧ 0 ≤ civR n ∧ civR n < 365 + lp (civY n) ∧ 1 ≤ civY n ∧ civY n ≤ 9999 := by
  obtain ⟨a1, a2, a3, a4, a5, a6, a7, a8, a9, a10, a11, a12, a13, a14, a15, a16⟩ := civ_parts n h0 h1
  have hl := leapB_iff (civY n)
  have ey : civY n = 400 * cQ n + 100 * cC n + 4 * cF n + cK n + 1 := rfl
  have er : civR n = cT n - cK n * 365 := rfl
  have p1 : (civY n - 1) / 4 = 100 * cQ n + 25 * cC n + cF n := by omega
  have p2 : (civY n - 1) / 100 = 4 * cQ n + cC n := by omega
  have p3 : (civY n - 1) / 400 = cQ n := by omega
  have ed : dby (civY n) = 146097 * cQ n + 36524 * cC n + 1461 * cF n + 365 * cK n := by unfold dby; rw [p1, p2, p3, ey]; omega
  have hq : civY n ≤ 9999 := by
    rcases Int.lt_or_le (civY n) 10000 with h | h
    · omega
    · exfalso
      have : cQ n = 24 ∧ cC n = 3 ∧ cF n = 24 ∧ cK n = 3 := by omega
      omega
  refine ⟨by omega, by omega, ?_, by omega, hq⟩
  by_cases h : leapB (civY n) = true
  · rw [lp_true h]; omega
  · rw [lp_false (by simpa using h)]
    have hne : cT n ≠ 1460 := fun he => by
      have hk : cK n = 3 := civ_k3 _ _ a9 a15 he
      exact h (hl.2 (civ_leap (cQ n) (cC n) (cF n) _ (by rw [ey, hk]) a4 a5 a6 a7 (fun hf => by
        rcases Int.lt_or_le (cC n) 3 with hc | hc
        · have := a16 hf hc; omega
        · exact Int.le_antisymm a5 hc)))
    exact civ_lt _ _ a9 a15 a13 hne
theorem year_unique {n a b : Int} (h1 : dby a ≤ n) (h2 : n < dby (a + 1)) (h3 : dby b ≤ n) (h4 : n < dby (b + 1)) : a = b := by
  rcases Int.lt_trichotomy a b with h | h | h
  · have := dby_mono (a + 1) b (by omega); omega
  · exact h
  · have := dby_mono (b + 1) a (by omega); omega
theorem civY_unique {n y : Int} (h0 : 0 ≤ n) (h1 : n ≤ 3652058) (h2 : dby y ≤ n) (h3 : n < dby (y + 1)) : y = civY n := by
  obtain ⟨a, b, c, d, e⟩ := civ_dby n h0 h1
  have := leap_dby (civY n)
  exact year_unique h2 h3 (by omega) (by omega)
theorem monthOf_spec {y r : Int} (h0 : 0 ≤ r) (h1 : r < 365 + lp y) : 1 ≤ monthOf y r ∧ monthOf y r ≤ 12 ∧ 0 ≤ r - cum y (monthOf y r) ∧ r - cum y (monthOf y r) < dim y (monthOf y r) := by
  have hl := lp_01 y
  unfold monthOf
  (repeat' split) <;> (simp [cum, dim] at * <;> omega)
theorem cum_mono (y a b : Int) (h1 : 1 ≤ a) (h : a ≤ b) : cum y a ≤ cum y b := by
  have hl := lp_01 y
  unfold cum; (repeat' split) <;> omega
theorem monthOf_unique {y r m : Int} (h1 : 1 ≤ m) (h2 : m ≤ 12) (h3 : 0 ≤ r - cum y m) (h4 : r - cum y m < dim y m) : m = monthOf y r := by
  have hs := cum_succ y m h1 h2
  have hb := cum_bd y m h1 h2
  have ht := cum_mono y (m + 1) 13 (by omega) (by omega)
  rw [cum_thirteen] at ht
  obtain ⟨a, b, c, d⟩ := monthOf_spec (y := y) (r := r) (by omega) (by omega)
  have hs' := cum_succ y _ a b
  rcases Int.lt_trichotomy m (monthOf y r) with h | h | h
  · have := cum_mono y (m + 1) (monthOf y r) (by omega) (by omega); omega
  · exact h
  · have := cum_mono y (monthOf y r + 1) m (by omega) (by omega); omega
theorem civM_unique {n m : Int} (h1 : 1 ≤ m) (h2 : m ≤ 12) (h3 : 0 ≤ n - dby (civY n) - cum (civY n) m) (h4 : n - dby (civY n) - cum (civY n) m < dim (civY n) m) : m = civM n := monthOf_unique h1 h2 h3 h4
theorem civ_spec (n : Int) (h0 : 0 ≤ n) (h1 : n ≤ 3652058) : validB (civY n) (civM n) (civD n) = true ∧ num (civY n) (civM n) (civD n) = n := by
  obtain ⟨a, b, c, d, e⟩ := civ_dby n h0 h1
  rw [a] at b c
  obtain ⟨f, g, h, i⟩ := monthOf_spec b c
  refine ⟨valid_mk ⟨d, e, f, g, ?_, ?_⟩, ?_⟩
  · unfold civD civM; omega
  · unfold civD; unfold civM at *; omega
  · unfold num civD; omega
theorem num_inj {y m d y' m' d' : Int} (h : validB y m d = true) (h' : validB y' m' d' = true) (e : num y m d = num y' m' d') : y = y' ∧ m = m' ∧ d = d' := by
  obtain ⟨a1, a2, a3, a4, a5, a6⟩ := (valid_iff _ _ _).1 h
  obtain ⟨b1, b2, b3, b4, b5, b6⟩ := (valid_iff _ _ _).1 h'
  have hc := cum_bd y m a3 a4; have hc' := cum_bd y' m' b3 b4
  have key : ∀ y m d : Int, 1 ≤ m → m ≤ 12 → 1 ≤ d → d ≤ dim y m → num y m d < dby (y + 1) := by
    intro y m d h1 h2 h3 h4
    have c := cum_succ y m h1 h2
    have e : cum y (m + 1) ≤ 365 + lp y := by
      by_cases h12 : m = 12
      · subst h12; have := cum_thirteen y; simp only [show (12 : Int) + 1 = 13 from rfl]; omega
      · have := cum_bd y (m + 1) (by omega) (by omega); have := lp_01 y; omega
    have f := leap_dby y
    unfold num; omega
  have hy : y = y' := by
    refine year_unique (n := num y m d) ?_ (key y m d a3 a4 a5 a6) ?_ (by rw [e]; exact key y' m' d' b3 b4 b5 b6)
    · unfold num; omega
    · rw [e]; unfold num; omega
  subst hy
  have hm : m = m' := by
    have p : m = monthOf y (num y m d - dby y) := monthOf_unique a3 a4 (by unfold num; omega) (by unfold num; omega)
    have q : m' = monthOf y (num y m' d' - dby y) := monthOf_unique b3 b4 (by unfold num; omega) (by unfold num; omega)
    rw [p, q, e]
  subst hm
  exact ⟨rfl, rfl, by unfold num at e; omega⟩
theorem civ_num {y m d : Int} (h : validB y m d = true) : civY (num y m d) = y ∧ civM (num y m d) = m ∧ civD (num y m d) = d := by
  obtain ⟨a, b⟩ := num_bd h
  obtain ⟨p, q⟩ := civ_spec _ a b
  exact num_inj p h q
theorem civ_bd (n : Int) (h0 : 0 ≤ n) (h1 : n ≤ 3652058) : 1 ≤ civY n ∧ civY n ≤ 9999 ∧ 1 ≤ civM n ∧ civM n ≤ 12 ∧ 1 ≤ civD n ∧ civD n ≤ 31 := by
  obtain ⟨p, _⟩ := civ_spec n h0 h1
  obtain ⟨a1, a2, a3, a4, a5, a6⟩ := (valid_iff _ _ _).1 p
  have := dim_lo (civY n) (civM n)
  omega

/-! what the functions of both packages hand back, for every number -/
def insideB (n : Int) : Bool := decide (0 ≤ n ∧ n ≤ 3652058)
theorem inside_iff (n : Int) : insideB n = true ↔ (0 ≤ n ∧ n ≤ 3652058) := by simp [insideB]
theorem inside_not {n : Int} (h : ¬ (0 ≤ n ∧ n ≤ 3652058)) : insideB n = false := by simp only [insideB, decide_eq_false_iff_not]; exact h
def numV (y m d : Int) : Int := if validB y m d = true then num y m d else 0
def cyV (n : Int) : Int := if insideB n = true then civY n else 0
def cmV (n : Int) : Int := if insideB n = true then civM n else 0
def cdV (n : Int) : Int := if insideB n = true then civD n else 0
def wdV (n : Int) : Int := if insideB n = true then n % 7 + 1 else 0
def addB (n k : Int) : Bool := decide (0 ≤ n ∧ n ≤ 3652058 ∧ 0 ≤ n + k ∧ n + k ≤ 3652058)
def addV (n k : Int) : Int := if addB n k = true then n + k else 0
def mAt (n k : Int) : Int := 12 * (civY n - 1) + civM n - 1 + k
def mOkB (n k : Int) : Bool := decide (0 ≤ n ∧ n ≤ 3652058 ∧ 0 ≤ mAt n k ∧ mAt n k < 119988)
def mV (n k : Int) : Int := if mOkB n k = true then num (mAt n k / 12 + 1) (mAt n k % 12 + 1) (min (civD n) (dim (mAt n k / 12 + 1) (mAt n k % 12 + 1))) else 0
theorem mOk_iff (n k : Int) : mOkB n k = true ↔ (0 ≤ n ∧ n ≤ 3652058 ∧ 0 ≤ mAt n k ∧ mAt n k < 119988) := by simp [mOkB]
theorem mOk_not {n k : Int} (h : ¬ (0 ≤ n ∧ n ≤ 3652058 ∧ 0 ≤ mAt n k ∧ mAt n k < 119988)) : mOkB n k = false := by simp only [mOkB, decide_eq_false_iff_not]; exact h
theorem addB_iff (n k : Int) : addB n k = true ↔ (0 ≤ n ∧ n ≤ 3652058 ∧ 0 ≤ n + k ∧ n + k ≤ 3652058) := by simp [addB]
theorem addB_not {n k : Int} (h : ¬ (0 ≤ n ∧ n ≤ 3652058 ∧ 0 ≤ n + k ∧ n + k ≤ 3652058)) : addB n k = false := by simp only [addB, decide_eq_false_iff_not]; exact h
theorem mAt_bd (n k : Int) (h0 : 0 ≤ n) (h1 : n ≤ 3652058) : k ≤ mAt n k ∧ mAt n k ≤ k + 119987 := by
  have := civ_bd n h0 h1; unfold mAt; omega
theorem months_valid {n k : Int} (h : mOkB n k = true) : validB (mAt n k / 12 + 1) (mAt n k % 12 + 1) (min (civD n) (dim (mAt n k / 12 + 1) (mAt n k % 12 + 1))) = true := by
  obtain ⟨a, b, c, d⟩ := (mOk_iff n k).1 h
  have := civ_bd n a b
  have := dim_lo (mAt n k / 12 + 1) (mAt n k % 12 + 1)
  exact valid_mk ⟨by omega, by omega, by omega, by omega, by omega, by omega⟩
theorem months_num {n k : Int} (h : mOkB n k = true) : numV (mAt n k / 12 + 1) (mAt n k % 12 + 1) (min (civD n) (dim (mAt n k / 12 + 1) (mAt n k % 12 + 1))) = mV n k := by
  simp only [numV, months_valid h, mV, h, if_true]
end Go.Proofs.Ytodkppeikpaclaa.Cal
