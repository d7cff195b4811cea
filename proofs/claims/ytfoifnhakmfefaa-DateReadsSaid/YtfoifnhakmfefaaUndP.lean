/- Plain facts: what was written by a right layout is read again. No program in sight; each theorem names its conditions. -/
import Derived.Test.YtfoifnhakmfefaaTxtP
namespace Go.Proofs.Ytfoifnhakmfefaa.Txt
open Cal
set_option linter.unusedVariables false

theorem toks_mem : ∀ (n : Nat) (l : List UInt8), ∀ t ∈ toks n l, ∀ c ∈ t, c ∈ l
  | 0, l, t, ht => by cases ht
  | n + 1, [], t, ht => by cases ht
  | n + 1, c :: l, t, ht => by
    simp only [toks] at ht
    rcases List.mem_cons.1 ht with rfl | ht
    · exact fun x hx => List.mem_of_mem_take hx
    · exact fun x hx => List.mem_of_mem_drop (toks_mem n _ t ht x hx)
theorem contains_none : ∀ (l chars : List UInt8), Lib.containsAny l chars = false → ∀ c ∈ l, c ∉ chars
  | [], _, _ => by simp
  | b :: l, chars, h => by
    intro c hc
    simp only [Lib.containsAny, decide_eq_false_iff_not] at h
    unfold Lib.indexAny at h
    split at h
    · simp at h
    · rename_i hb
      have hb' : b ∉ chars := by simpa using hb
      rcases List.mem_cons.1 hc with rfl | hc
      · exact hb'
      · refine contains_none l chars ?_ c hc
        simp only [Lib.containsAny, decide_eq_false_iff_not]
        have := Lib.indexAny_ge chars l
        split at h
        · rename_i h1
          have h1' : Lib.indexAny l chars = -1 := by simpa using h1
          omega
        · rename_i h1
          have h1' : Lib.indexAny l chars ≠ -1 := by simpa using h1
          omega
theorem digits_isD {c : UInt8} (h : c ∉ digitsS) : isD c = false := by
  cases hd : isD c
  · rfl
  · exfalso; apply h
    have hb := isD_bd hd
    have e : c = UInt8.ofNat c.toNat := by simp
    have : c.toNat = 48 ∨ c.toNat = 49 ∨ c.toNat = 50 ∨ c.toNat = 51 ∨ c.toNat = 52 ∨ c.toNat = 53 ∨ c.toNat = 54 ∨ c.toNat = 55 ∨ c.toNat = 56 ∨ c.toNat = 57 := by omega
    rcases this with h | h | h | h | h | h | h | h | h | h <;> (rw [h] at e; rw [e]; decide)
theorem right_parts {L : List UInt8} (h : rightB L = true) : L.length ≤ 40 ∧ (∀ t ∈ tokens L, ∀ c, t = [c] → isD c = false) ∧ goodFrom ⟨0, 0, 0, false⟩ (tokens L) = true := by
  simp only [rightB, Bool.and_eq_true, decide_eq_true_eq, Bool.not_eq_true'] at h
  obtain ⟨⟨h1, h2⟩, h3⟩ := h
  refine ⟨h1, fun t ht c hc => digits_isD (contains_none _ _ h2 c ?_), h3⟩
  exact toks_mem _ _ t ht c (by rw [hc]; simp)
theorem take_one1 {t : List UInt8} (ht : t.length ≤ 2) {a : UInt8} {r : List UInt8} (ha : isD a = true) (hr : r = [] ∨ ∃ c r', r = c :: r' ∧ isD c = false) :
    takeN t (a :: r) = numD [a] ∧ takeR t (a :: r) = r := by
  have hm : max t.length 2 = 2 := by omega
  refine take_end (t := t) (s := a :: r) (k := 1) (by omega) (by simp) (by simp [ha]) ?_
  rcases hr with rfl | ⟨c, r', rfl, hc⟩
  · exact .inl rfl
  · exact .inr (.inr ⟨by simp, by simpa using hc⟩)
theorem numD1 (n : Int) (h0 : 0 ≤ n) (h1 : n < 10) : numD [dg n] = n := by
  have := dg_val n
  simp [numD]; omega
/-- what comes behind an open field -/
theorem after_open {y m d : Int} {s : St} {ts : List (List UInt8)} (hs : s.op = true) (ht : ∀ t ∈ ts, IsTok t) (hd : ∀ t ∈ ts, ∀ c, t = [c] → isD c = false) (hg : goodFrom s ts = true) :
    wrAll y m d ts = [] ∨ ∃ c r', wrAll y m d ts = c :: r' ∧ isD c = false := by
  cases ts with
  | nil => exact .inl rfl
  | cons t ts =>
    right
    simp only [goodFrom, Bool.and_eq_true, Bool.not_eq_true', badTok, hs, Bool.or_eq_false_iff, Bool.true_and, decide_eq_false_iff_not] at hg
    obtain ⟨⟨⟨_, _⟩, hk⟩, _⟩ := hg
    have hw : wrAll y m d (t :: ts) = wr y m d t ++ wrAll y m d ts := by simp [wrAll]
    rcases ht t (by simp) with rfl | rfl | rfl | ⟨c, rfl⟩
    · exact absurd (by decide) hk
    · exact absurd (by decide) hk
    · exact absurd (by decide) hk
    · have hc : c ≠ 77 ∧ c ≠ 68 := by
        constructor
        · rintro rfl; exact hk (by decide)
        · rintro rfl; exact hk (by decide)
      refine ⟨c, wrAll y m d ts, ?_, hd [c] (by simp) c rfl⟩
      rw [hw]
      simp [wr, hc.1, hc.2]
theorem undo_go {y m d : Int} (hy0 : 0 ≤ y) (hy : y ≤ 9999) (hm0 : 0 ≤ m) (hm : m ≤ 99) (hd0 : 0 ≤ d) (hd : d ≤ 99) : ∀ (ts : List (List UInt8)) (s : St) (rd : Rd),
    (∀ t ∈ ts, IsTok t) → (∀ t ∈ ts, ∀ c, t = [c] → isD c = false) → goodFrom s ts = true → rd.r = wrAll y m d ts →
    (ts.foldl stepR rd).r = [] ∧ (ts.foldl stepR rd).y = (if s.a = 1 then rd.y else y) ∧ (ts.foldl stepR rd).m = (if s.b = 1 then rd.m else m) ∧ (ts.foldl stepR rd).d = (if s.c = 1 then rd.d else d) ∧ s.a ≤ 1 ∧ s.b ≤ 1 ∧ s.c ≤ 1
  | [], s, rd, _, _, hg, hr => by
    simp only [goodFrom, Bool.and_eq_true, beq_iff_eq] at hg
    obtain ⟨⟨h1, h2⟩, h3⟩ := hg
    exact ⟨by rw [List.foldl_nil, hr]; rfl, by simp [h1], by simp [h2], by simp [h3], by omega, by omega, by omega⟩
  | t :: ts, s, rd, ht, hdg, hg, hr => by
    have hg' := hg
    simp only [goodFrom, Bool.and_eq_true, Bool.not_eq_true'] at hg
    obtain ⟨hb, hg2⟩ := hg
    have hw : wrAll y m d (t :: ts) = wr y m d t ++ wrAll y m d ts := by simp [wrAll]
    rw [hw] at hr
    have ih := undo_go hy0 hy hm0 hm hd0 hd ts (Txt.stepT s t) (stepR rd t) (fun t' h => ht t' (by simp [h])) (fun t' h => hdg t' (by simp [h])) hg2
    rw [List.foldl_cons]
    obtain ⟨ry, rm, rdd, rr⟩ := rd
    obtain ⟨sa, sb, sc, so⟩ := s
    dsimp only at hr
    rcases ht t (by simp) with rfl | rfl | rfl | ⟨c, rfl⟩
    · have e : wr y m d [89, 89, 89, 89] = dig4 y := by simp [wr]
      rw [e] at hr
      have tk := take_four (wrAll y m d ts) (isD_dg (y / 10 / 10 / 10)) (isD_dg (y / 10 / 10)) (isD_dg (y / 10)) (isD_dg y)
      have hn := numD_dig4 hy0 hy
      unfold dig4 at hn hr
      rw [hn] at tk
      have st : stepR ⟨ry, rm, rdd, rr⟩ [89, 89, 89, 89] = ⟨y, rm, rdd, wrAll y m d ts⟩ := by
        subst hr
        have e0 : [dg (y / 10 / 10 / 10), dg (y / 10 / 10), dg (y / 10), dg y] ++ wrAll y m d ts = dg (y / 10 / 10 / 10) :: dg (y / 10 / 10) :: dg (y / 10) :: dg y :: wrAll y m d ts := rfl
        rw [e0]
        simp only [stepR, List.headD_cons, tk.1, tk.2]
        simp
      have hst : Txt.stepT ⟨sa, sb, sc, so⟩ [89, 89, 89, 89] = ⟨sa + 1, sb, sc, false⟩ := by simp [Txt.stepT, bump, kOf, opTok]
      rw [hst, st] at ih
      rw [st]
      obtain ⟨i1, i2, i3, i4, i5, i6, i7⟩ := ih rfl
      dsimp only at i2 i3 i4 i5 i6 i7
      have hne : ¬ sa = 1 := by omega
      have hle : sa ≤ 1 := by omega
      exact ⟨i1, by rw [if_neg hne, i2]; split <;> rfl, i3, i4, hle, i6, i7⟩
    · have e : wr y m d [77, 77] = dig2 m := by simp [wr]
      rw [e] at hr
      have tk := take_two (t := [77, 77]) (by decide) (wrAll y m d ts) (isD_dg (m / 10)) (isD_dg m)
      have hn := numD_dig2 hm0 hm
      unfold dig2 at hn hr
      rw [hn] at tk
      have st : stepR ⟨ry, rm, rdd, rr⟩ [77, 77] = ⟨ry, m, rdd, wrAll y m d ts⟩ := by
        subst hr
        have e0 : [dg (m / 10), dg m] ++ wrAll y m d ts = dg (m / 10) :: dg m :: wrAll y m d ts := rfl
        rw [e0]
        simp only [stepR, List.headD_cons, tk.1, tk.2]
        simp
      have hst : Txt.stepT ⟨sa, sb, sc, so⟩ [77, 77] = ⟨sa, sb + 1, sc, false⟩ := by simp [Txt.stepT, bump, kOf, opTok]
      rw [hst, st] at ih
      rw [st]
      obtain ⟨i1, i2, i3, i4, i5, i6, i7⟩ := ih rfl
      dsimp only at i2 i3 i4 i5 i6 i7
      have hne : ¬ sb = 1 := by omega
      have hle : sb ≤ 1 := by omega
      exact ⟨i1, i2, by rw [if_neg hne, i3]; split <;> rfl, i4, i5, hle, i7⟩
    · have e : wr y m d [68, 68] = dig2 d := by simp [wr]
      rw [e] at hr
      have tk := take_two (t := [68, 68]) (by decide) (wrAll y m d ts) (isD_dg (d / 10)) (isD_dg d)
      have hn := numD_dig2 hd0 hd
      unfold dig2 at hn hr
      rw [hn] at tk
      have st : stepR ⟨ry, rm, rdd, rr⟩ [68, 68] = ⟨ry, rm, d, wrAll y m d ts⟩ := by
        subst hr
        have e0 : [dg (d / 10), dg d] ++ wrAll y m d ts = dg (d / 10) :: dg d :: wrAll y m d ts := rfl
        rw [e0]
        simp only [stepR, List.headD_cons, tk.1, tk.2]
        simp
      have hst : Txt.stepT ⟨sa, sb, sc, so⟩ [68, 68] = ⟨sa, sb, sc + 1, false⟩ := by simp [Txt.stepT, bump, kOf, opTok]
      rw [hst, st] at ih
      rw [st]
      obtain ⟨i1, i2, i3, i4, i5, i6, i7⟩ := ih rfl
      dsimp only at i2 i3 i4 i5 i6 i7
      have hne : ¬ sc = 1 := by omega
      have hle : sc ≤ 1 := by omega
      exact ⟨i1, i2, i3, by rw [if_neg hne, i4]; split <;> rfl, i5, i6, hle⟩
    · by_cases e89 : c = 89
      · subst e89
        have h89 : badTok so [89] = true := by cases so <;> decide
        rw [h89] at hb; cases hb
      by_cases e77 : c = 77
      · subst e77
        have hst : Txt.stepT ⟨sa, sb, sc, so⟩ [77] = ⟨sa, sb + 1, sc, true⟩ := by simp [Txt.stepT, bump, kOf, opTok]
        have st : stepR ⟨ry, rm, rdd, rr⟩ [77] = ⟨ry, m, rdd, wrAll y m d ts⟩ := by
          by_cases h10 : m < 10
          · have e : wr y m d [77] = [dg m] := by simp [wr, dig1, h10]
            rw [e] at hr
            have ao := after_open (y := y) (m := m) (d := d) (s := Txt.stepT ⟨sa, sb, sc, so⟩ [77]) (ts := ts) (by rw [hst]) (fun t' h => ht t' (by simp [h])) (fun t' h => hdg t' (by simp [h])) hg2
            have tk := take_one1 (t := [77]) (by decide) (isD_dg m) ao
            rw [numD1 m hm0 h10] at tk
            subst hr
            have e0 : [dg m] ++ wrAll y m d ts = dg m :: wrAll y m d ts := rfl
            rw [e0]
            simp only [stepR, List.headD_cons, tk.1, tk.2]
            simp
          · have e : wr y m d [77] = dig2 m := by simp [wr, dig1, h10]
            rw [e] at hr
            have tk := take_two (t := [77]) (by decide) (wrAll y m d ts) (isD_dg (m / 10)) (isD_dg m)
            have hn := numD_dig2 hm0 hm
            unfold dig2 at hn hr
            rw [hn] at tk
            subst hr
            have e0 : [dg (m / 10), dg m] ++ wrAll y m d ts = dg (m / 10) :: dg m :: wrAll y m d ts := rfl
            rw [e0]
            simp only [stepR, List.headD_cons, tk.1, tk.2]
            simp
        rw [hst, st] at ih
        rw [st]
        obtain ⟨i1, i2, i3, i4, i5, i6, i7⟩ := ih rfl
        dsimp only at i2 i3 i4 i5 i6 i7
        have hne : ¬ sb = 1 := by omega
        have hle : sb ≤ 1 := by omega
        exact ⟨i1, i2, by rw [if_neg hne, i3]; split <;> rfl, i4, i5, hle, i7⟩
      by_cases e68 : c = 68
      · subst e68
        have hst : Txt.stepT ⟨sa, sb, sc, so⟩ [68] = ⟨sa, sb, sc + 1, true⟩ := by simp [Txt.stepT, bump, kOf, opTok]
        have st : stepR ⟨ry, rm, rdd, rr⟩ [68] = ⟨ry, rm, d, wrAll y m d ts⟩ := by
          by_cases h10 : d < 10
          · have e : wr y m d [68] = [dg d] := by simp [wr, dig1, h10]
            rw [e] at hr
            have ao := after_open (y := y) (m := m) (d := d) (s := Txt.stepT ⟨sa, sb, sc, so⟩ [68]) (ts := ts) (by rw [hst]) (fun t' h => ht t' (by simp [h])) (fun t' h => hdg t' (by simp [h])) hg2
            have tk := take_one1 (t := [68]) (by decide) (isD_dg d) ao
            rw [numD1 d hd0 h10] at tk
            subst hr
            have e0 : [dg d] ++ wrAll y m d ts = dg d :: wrAll y m d ts := rfl
            rw [e0]
            simp only [stepR, List.headD_cons, tk.1, tk.2]
            simp
          · have e : wr y m d [68] = dig2 d := by simp [wr, dig1, h10]
            rw [e] at hr
            have tk := take_two (t := [68]) (by decide) (wrAll y m d ts) (isD_dg (d / 10)) (isD_dg d)
            have hn := numD_dig2 hd0 hd
            unfold dig2 at hn hr
            rw [hn] at tk
            subst hr
            have e0 : [dg (d / 10), dg d] ++ wrAll y m d ts = dg (d / 10) :: dg d :: wrAll y m d ts := rfl
            rw [e0]
            simp only [stepR, List.headD_cons, tk.1, tk.2]
            simp
        rw [hst, st] at ih
        rw [st]
        obtain ⟨i1, i2, i3, i4, i5, i6, i7⟩ := ih rfl
        dsimp only at i2 i3 i4 i5 i6 i7
        have hne : ¬ sc = 1 := by omega
        have hle : sc ≤ 1 := by omega
        exact ⟨i1, i2, i3, by rw [if_neg hne, i4]; split <;> rfl, i5, i6, hle⟩
      have e : wr y m d [c] = [c] := by simp [wr, e77, e68]
      rw [e] at hr
      have st : stepR ⟨ry, rm, rdd, rr⟩ [c] = ⟨ry, rm, rdd, wrAll y m d ts⟩ := by
        subst hr
        simp [stepR, e89, e77, e68]
      have hst : Txt.stepT ⟨sa, sb, sc, so⟩ [c] = ⟨sa, sb, sc, false⟩ := by simp [Txt.stepT, bump, kOf, opTok, e89, e77, e68]
      rw [hst, st] at ih
      rw [st]
      exact ih rfl
theorem undo {L : List UInt8} {y m d : Int} (hr : rightB L = true) (hy0 : 0 ≤ y) (hy : y ≤ 9999) (hm0 : 0 ≤ m) (hm : m ≤ 99) (hd0 : 0 ≤ d) (hd : d ≤ 99) :
    readT (tokens L) (Txt.written y m d L) = ⟨y, m, d, []⟩ := by
  obtain ⟨h1, h2, h3⟩ := right_parts hr
  have h := undo_go hy0 hy hm0 hm hd0 hd (tokens L) ⟨0, 0, 0, false⟩ ⟨0, 0, 0, Txt.written y m d L⟩ (tokens_isTok _ L (Nat.le_refl _)) h2 h3 rfl
  obtain ⟨i1, i2, i3, i4, -⟩ := h
  simp at i2 i3 i4
  show List.foldl stepR ⟨0, 0, 0, Txt.written y m d L⟩ (tokens L) = _
  generalize List.foldl stepR ⟨0, 0, 0, Txt.written y m d L⟩ (tokens L) = r at i1 i2 i3 i4
  obtain ⟨a, b, c, e⟩ := r
  simp_all
theorem fmt_len (L : List UInt8) (n : Int) : (fmtS L n).length ≤ maxLen := by
  unfold fmtS
  split
  · rename_i h
    have hr : rightB L = true := by
      simp only [fmtOk, Bool.and_eq_true] at h; exact h.2
    have h1 := (right_parts hr).1
    have h2 := wrAll_len (civY n) (civM n) (civD n) (tokens L) (tokens_isTok _ L (Nat.le_refl _))
    have h3 := tokens_len _ L (Nat.le_refl _)
    have : (Txt.written (civY n) (civM n) (civD n) L).length ≤ 160 := by
      show (wrAll (civY n) (civM n) (civD n) (tokens L)).length ≤ 160
      omega
    unfold maxLen; omega
  · exact Nat.zero_le _
theorem fmt_back {L : List UInt8} {n : Int} (hr : rightB L = true) (h0 : 0 ≤ n) (h1 : n ≤ 3652058) :
    fmtOk L n = true ∧ readOk L (fmtS L n) = true ∧ readN L (fmtS L n) = n := by
  have hi : insideB n = true := (inside_iff n).2 ⟨h0, h1⟩
  obtain ⟨hv, hn⟩ := civ_spec n h0 h1
  have hb := civ_bd n h0 h1
  have hf : fmtOk L n = true := by simp [fmtOk, hi, hr]
  have hs : fmtS L n = Txt.written (civY n) (civM n) (civD n) L := by simp [fmtS, hf]
  have hu := undo (L := L) (y := civY n) (m := civM n) (d := civD n) hr (by omega) (by omega) (by omega) (by omega) (by omega) (by omega)
  have ho : readOk L (fmtS L n) = true := by simp [readOk, hs, hu, hr, hv]
  refine ⟨hf, ho, ?_⟩
  simp only [readN, ho, if_true]
  rw [hs, hu]
  exact hn
end Go.Proofs.Ytfoifnhakmfefaa.Txt
