/- Plain facts on layouts and texts of dates: tokens of a layout, which layouts are right, what is written and what is read. No program in sight; each theorem names its conditions. -/
import Derived.Test.YtfoifnhakmfefaaCal
import Derived.Lib.IndexAny
import Derived.Lib.Strings
namespace Go.Proofs.Ytfoifnhakmfefaa.Txt
open Cal
set_option linter.unusedVariables false

def dg (n : Int) : UInt8 := UInt8.ofNat (48 + (n % 10).toNat)
def dig4 (n : Int) : List UInt8 := [dg (n / 10 / 10 / 10), dg (n / 10 / 10), dg (n / 10), dg n]
def dig2 (n : Int) : List UInt8 := [dg (n / 10), dg n]
def dig1 (n : Int) : List UInt8 := if n < 10 then [dg n] else dig2 n

theorem dg_toNat (n : Int) : (dg n).toNat = 48 + (n % 10).toNat := by
  unfold dg
  rw [UInt8.toNat_ofNat']
  omega

def yyyy : List UInt8 := [89, 89, 89, 89]
def mm : List UInt8 := [77, 77]
def dd : List UInt8 := [68, 68]
def tokLen (l : List UInt8) : Nat := if l.take 4 = [89, 89, 89, 89] then 4 else if l.take 2 = [77, 77] ∨ l.take 2 = [68, 68] then 2 else 1
def toks : Nat → List UInt8 → List (List UInt8)
  | 0, _ => []
  | _ + 1, [] => []
  | n + 1, c :: l => (c :: l).take (tokLen (c :: l)) :: toks n ((c :: l).drop (tokLen (c :: l)))
def tokens (l : List UInt8) : List (List UInt8) := toks l.length l

theorem tokLen_pos (l : List UInt8) : 1 ≤ tokLen l := by unfold tokLen; (repeat' split) <;> omega
theorem tokLen_le (l : List UInt8) (h : l ≠ []) : tokLen l ≤ l.length := by
  unfold tokLen
  split
  · rename_i h4
    have := congrArg List.length h4
    simp at this; omega
  · split
    · rename_i h2
      rcases h2 with h2 | h2 <;> (have := congrArg List.length h2; simp at this; omega)
    · have : l.length ≠ 0 := by simpa using h
      omega
theorem toks_fuel : ∀ (n m : Nat) (l : List UInt8), l.length ≤ n → l.length ≤ m → toks n l = toks m l
  | 0, m, l, h, _ => by
    have : l = [] := List.eq_nil_of_length_eq_zero (by omega)
    subst this; cases m <;> rfl
  | n + 1, 0, l, _, h => by
    have : l = [] := List.eq_nil_of_length_eq_zero (by omega)
    subst this; rfl
  | n + 1, m + 1, [], _, _ => rfl
  | n + 1, m + 1, c :: l, h1, h2 => by
    have hp := tokLen_pos (c :: l)
    simp only [toks]
    rw [toks_fuel n m _ (by simp at h1 ⊢; omega) (by simp at h2 ⊢; omega)]
theorem tokens_nil : tokens [] = [] := rfl
theorem tokens_cons (l : List UInt8) (h : l ≠ []) : tokens l = l.take (tokLen l) :: tokens (l.drop (tokLen l)) := by
  cases l with
  | nil => exact absurd rfl h
  | cons c l =>
    have hp := tokLen_pos (c :: l)
    show toks (l.length + 1) (c :: l) = _
    simp only [toks, tokens]
    rw [toks_fuel _ _ _ (by simp; omega) (Nat.le_refl _)]

/-- a token: one of three words, or one byte -/
def IsTok (t : List UInt8) : Prop := t = [89, 89, 89, 89] ∨ t = [77, 77] ∨ t = [68, 68] ∨ ∃ c, t = [c]
theorem tok_isTok (l : List UInt8) (h : l ≠ []) : IsTok (l.take (tokLen l)) := by
  unfold tokLen
  split
  · rename_i h4; exact .inl h4
  · split
    · rename_i h2
      rcases h2 with h2 | h2
      · exact .inr (.inl h2)
      · exact .inr (.inr (.inl h2))
    · cases l with
      | nil => exact absurd rfl h
      | cons c l => exact .inr (.inr (.inr ⟨c, rfl⟩))
theorem tokens_isTok : ∀ (n : Nat) (l : List UInt8), l.length ≤ n → ∀ t ∈ tokens l, IsTok t
  | 0, l, h, t, ht => by
    have : l = [] := List.eq_nil_of_length_eq_zero (by omega)
    subst this; cases ht
  | n + 1, l, h, t, ht => by
    by_cases h0 : l = []
    · subst h0; cases ht
    · rw [tokens_cons l h0] at ht
      have hp := tokLen_pos l
      rcases List.mem_cons.1 ht with rfl | ht
      · exact tok_isTok l h0
      · exact tokens_isTok n _ (by simp; omega) t ht
theorem IsTok.ne {t : List UInt8} (h : IsTok t) : t ≠ [] := by
  rcases h with rfl | rfl | rfl | ⟨c, rfl⟩ <;> simp

/-- what a token is replaced by -/
def wr (y m d : Int) (t : List UInt8) : List UInt8 :=
  if t = [89, 89, 89, 89] then dig4 y else if t = [77, 77] then dig2 m else if t = [77] then dig1 m else if t = [68, 68] then dig2 d else if t = [68] then dig1 d else t
def wrAll (y m d : Int) (ts : List (List UInt8)) : List UInt8 := ts.flatMap (wr y m d)
def written (y m d : Int) (l : List UInt8) : List UInt8 := wrAll y m d (tokens l)
theorem wrAll_snoc (y m d : Int) (ts : List (List UInt8)) (t : List UInt8) : wrAll y m d (ts ++ [t]) = wrAll y m d ts ++ wr y m d t := by simp [wrAll]
theorem wr_len (y m d : Int) (t : List UInt8) (h : IsTok t) : (wr y m d t).length ≤ 4 := by
  unfold wr
  split
  · simp [dig4]
  split
  · simp [dig2]
  split
  · unfold dig1; split <;> simp [dig2]
  split
  · simp [dig2]
  split
  · unfold dig1; split <;> simp [dig2]
  rcases h with rfl | rfl | rfl | ⟨c, rfl⟩ <;> simp
theorem wrAll_len (y m d : Int) : ∀ (ts : List (List UInt8)), (∀ t ∈ ts, IsTok t) → (wrAll y m d ts).length ≤ 4 * ts.length
  | [], _ => by simp [wrAll]
  | t :: ts, h => by
    have h1 := wr_len y m d t (h t (by simp))
    have h2 := wrAll_len y m d ts (fun t ht => h t (by simp [ht]))
    have e : wrAll y m d (t :: ts) = wr y m d t ++ wrAll y m d ts := by simp [wrAll]
    rw [e, List.length_append, List.length_cons]; omega
theorem tokens_len : ∀ (n : Nat) (l : List UInt8), l.length ≤ n → (tokens l).length ≤ l.length
  | 0, l, h => by
    have : l = [] := List.eq_nil_of_length_eq_zero (by omega)
    subst this; simp [tokens, toks]
  | n + 1, l, h => by
    by_cases h0 : l = []
    · subst h0; simp [tokens, toks]
    · rw [tokens_cons l h0]
      have hp := tokLen_pos l
      have hl : l.length ≠ 0 := by simpa using h0
      have := tokens_len n (l.drop (tokLen l)) (by simp; omega)
      simp at this ⊢; omega

/-- the place of a token's first byte in 'YMD' -/
def kOf (c : UInt8) : Int := if c = 89 then 0 else if c = 77 then 1 else if c = 68 then 2 else -1
theorem kOf_index (c : UInt8) : Lib.indexByte [89, 77, 68] c = kOf c := by
  unfold kOf
  simp only [Lib.indexByte]
  by_cases h1 : c = 89
  · subst h1; decide
  · by_cases h2 : c = 77
    · subst h2; decide
    · by_cases h3 : c = 68
      · subst h3; decide
      · have e1 : (89 == c) = false := by simpa using fun h => h1 h.symm
        have e2 : (77 == c) = false := by simpa using fun h => h2 h.symm
        have e3 : (68 == c) = false := by simpa using fun h => h3 h.symm
        simp [e1, e2, e3, h1, h2, h3]

/-- a layout's tokens looked at one by one: how many fields of each kind, and whether the last one was a field without a fixed length -/
structure St where
  a : Nat
  b : Nat
  c : Nat
  op : Bool
def badTok (op : Bool) (t : List UInt8) : Bool := t == [89] || decide ((t.headD 0).toNat < 32) || decide (126 < (t.headD 0).toNat) || (op && decide (0 ≤ kOf (t.headD 0)))
def opTok (t : List UInt8) : Bool := t == [77] || t == [68]
def bump (s : St) (k : Int) : St := if k = 0 then { s with a := s.a + 1 } else if k = 1 then { s with b := s.b + 1 } else if k = 2 then { s with c := s.c + 1 } else s
def stepT (s : St) (t : List UInt8) : St := { bump s (kOf (t.headD 0)) with op := opTok t }
def goodFrom (s : St) : List (List UInt8) → Bool
  | [] => s.a == 1 && s.b == 1 && s.c == 1
  | t :: ts => !badTok s.op t && goodFrom (stepT s t) ts
def digitsS : List UInt8 := [48, 49, 50, 51, 52, 53, 54, 55, 56, 57]
def rightB (l : List UInt8) : Bool := decide (l.length ≤ 40) && !Lib.containsAny l digitsS && goodFrom ⟨0, 0, 0, false⟩ (tokens l)
def fmtOk (l : List UInt8) (n : Int) : Bool := insideB n && rightB l
def fmtS (l : List UInt8) (n : Int) : List UInt8 := if fmtOk l n = true then written (civY n) (civM n) (civD n) l else []

/-- digits at the head of a text -/
def isD (c : UInt8) : Bool := decide (48 ≤ c.toNat) && decide (c.toNat ≤ 57)
def headD (k : Nat) (s : List UInt8) : List UInt8 := (s.take k).takeWhile isD
def numD (ds : List UInt8) : Int := ds.foldl (fun n c => 10 * n + ((c.toNat : Int) - 48)) 0
theorem numD_snoc (ds : List UInt8) (c : UInt8) : numD (ds ++ [c]) = 10 * numD ds + ((c.toNat : Int) - 48) := by simp [numD]
def takeN (t s : List UInt8) : Int := numD (headD (max t.length 2) s)
def takeR (t s : List UInt8) : List UInt8 := s.drop (headD (max t.length 2) s).length
structure Rd where
  y : Int
  m : Int
  d : Int
  r : List UInt8
def stepR (s : Rd) (t : List UInt8) : Rd :=
  if t.headD 0 = 89 then { s with y := takeN t s.r, r := takeR t s.r }
  else if t.headD 0 = 77 then { s with m := takeN t s.r, r := takeR t s.r }
  else if t.headD 0 = 68 then { s with d := takeN t s.r, r := takeR t s.r }
  else { s with r := s.r.drop 1 }
def readT (ts : List (List UInt8)) (s : List UInt8) : Rd := ts.foldl stepR ⟨0, 0, 0, s⟩
theorem readT_snoc (ts : List (List UInt8)) (t s : List UInt8) : readT (ts ++ [t]) s = stepR (readT ts s) t := by simp [readT]
def readOk (l s : List UInt8) : Bool := rightB l && (validB (readT (tokens l) s).y (readT (tokens l) s).m (readT (tokens l) s).d && (written (readT (tokens l) s).y (readT (tokens l) s).m (readT (tokens l) s).d l == s))
def readN (l s : List UInt8) : Int := if readOk l s = true then num (readT (tokens l) s).y (readT (tokens l) s).m (readT (tokens l) s).d else 0
def iso : List UInt8 := [89, 89, 89, 89, 45, 77, 77, 45, 68, 68]
def textS (n : Int) : List UInt8 := fmtS iso n

theorem numD_bd : ∀ (ds : List UInt8), (∀ c ∈ ds, isD c = true) → 0 ≤ numD ds ∧ numD ds < 10 ^ ds.length := by
  intro ds
  have key : ∀ (ds : List UInt8) (n : Int) (k : Nat), 0 ≤ n → n < 10 ^ k → (∀ c ∈ ds, isD c = true) → 0 ≤ ds.foldl (fun n c => 10 * n + ((c.toNat : Int) - 48)) n ∧ ds.foldl (fun n c => 10 * n + ((c.toNat : Int) - 48)) n < 10 ^ (k + ds.length) := by
    intro ds
    induction ds with
    | nil => intro n k h0 h1 _; exact ⟨h0, by simpa using h1⟩
    | cons c ds ih =>
      intro n k h0 h1 hc
      have hd : isD c = true := hc c (by simp)
      simp only [isD, Bool.and_eq_true, decide_eq_true_eq] at hd
      have := ih (10 * n + ((c.toNat : Int) - 48)) (k + 1) (by omega) (by rw [Int.pow_succ]; omega) (fun c' h' => hc c' (by simp [h']))
      simp only [List.foldl_cons, List.length_cons]
      rw [show k + (ds.length + 1) = k + 1 + ds.length by omega]
      exact this
  intro h
  have := key ds 0 0 (by omega) (by simp) h
  simpa [numD] using this
theorem headD_isD (k : Nat) (s : List UInt8) : ∀ c ∈ headD k s, isD c = true := fun c hc => List.all_eq_true.1 (List.all_takeWhile (p := isD)) c hc
theorem headD_len (k : Nat) (s : List UInt8) : (headD k s).length ≤ k ∧ (headD k s).length ≤ s.length := by
  have h1 := (List.takeWhile_sublist isD (l := s.take k)).length_le
  unfold headD
  simp at h1
  omega
theorem takeN_bd (t s : List UInt8) (ht : t.length ≤ 4) : 0 ≤ takeN t s ∧ takeN t s ≤ 9999 := by
  have h := numD_bd _ (headD_isD (max t.length 2) s)
  have hl := headD_len (max t.length 2) s
  unfold takeN
  have hk : (headD (max t.length 2) s).length ≤ 4 := by omega
  have h4 : ∀ k : Nat, k ≤ 4 → (10 : Int) ^ k ≤ 10000 := by
    intro k hk
    have : k = 0 ∨ k = 1 ∨ k = 2 ∨ k = 3 ∨ k = 4 := by omega
    rcases this with rfl | rfl | rfl | rfl | rfl <;> decide
  have := h4 _ hk
  omega
theorem numD_bd4 (ds : List UInt8) (h : ∀ c ∈ ds, isD c = true) (hl : ds.length ≤ 4) : 0 ≤ numD ds ∧ numD ds ≤ 9999 := by
  have h0 := numD_bd ds h
  have h4 : ∀ k : Nat, k ≤ 4 → (10 : Int) ^ k ≤ 10000 := by
    intro k hk
    have : k = 0 ∨ k = 1 ∨ k = 2 ∨ k = 3 ∨ k = 4 := by omega
    rcases this with rfl | rfl | rfl | rfl | rfl <;> decide
  have := h4 _ hl
  omega
theorem headD_eq (M : Nat) (s : List UInt8) (k : Nat) (h1 : k ≤ M) (h2 : k ≤ s.length) (h3 : ∀ c ∈ s.take k, isD c = true) (h4 : k = s.length ∨ k = M ∨ ∃ h : k < s.length, isD s[k] = false) : headD M s = s.take k := by
  unfold headD
  have e : s.take M = s.take k ++ (s.drop k).take (M - k) := by
    rw [← List.take_add]; congr 1; omega
  rw [e, List.takeWhile_append_of_pos h3]
  have e2 : ((s.drop k).take (M - k)).takeWhile isD = [] := by
    rcases h4 with h | h | ⟨h, hd⟩
    · subst h; simp
    · subst h; simp
    · rw [List.drop_eq_getElem_cons h]
      cases hm : M - k with
      | zero => simp
      | succ j => rw [List.take_succ_cons, List.takeWhile_cons, hd]; rfl
  rw [e2, List.append_nil]
theorem take_end {t s : List UInt8} {k : Nat} (h1 : k ≤ max t.length 2) (h2 : k ≤ s.length) (h3 : ∀ c ∈ s.take k, isD c = true) (h4 : k = s.length ∨ k = max t.length 2 ∨ ∃ h : k < s.length, isD s[k] = false) :
    takeN t s = numD (s.take k) ∧ takeR t s = s.drop k := by
  have e := headD_eq _ s k h1 h2 h3 h4
  unfold takeN takeR
  rw [e]
  refine ⟨rfl, ?_⟩
  rw [List.length_take, Nat.min_eq_left h2]
theorem take_isD_succ {s : List UInt8} {k : Nat} (h : k < s.length) (h3 : ∀ c ∈ s.take k, isD c = true) (hd : isD s[k] = true) : ∀ c ∈ s.take (k + 1), isD c = true := by
  rw [List.take_succ_eq_append_getElem h]
  intro c hc
  rcases List.mem_append.1 hc with h' | h'
  · exact h3 c h'
  · rw [List.mem_singleton.1 h']; exact hd
theorem isD_mk {c : UInt8} (h1 : (48 : Int) ≤ (c.toNat : Int)) (h2 : (c.toNat : Int) ≤ 57) : isD c = true := by
  simp only [isD, Bool.and_eq_true, decide_eq_true_eq]; omega
theorem isD_lt {c : UInt8} (h1 : (c.toNat : Int) < 48) : isD c = false := by
  have : ¬ 48 ≤ c.toNat := by omega
  simp [isD, this]
theorem isD_gt {c : UInt8} (h1 : (57 : Int) < (c.toNat : Int)) : isD c = false := by
  have : ¬ c.toNat ≤ 57 := by omega
  simp [isD, this]
end Go.Proofs.Ytfoifnhakmfefaa.Txt
