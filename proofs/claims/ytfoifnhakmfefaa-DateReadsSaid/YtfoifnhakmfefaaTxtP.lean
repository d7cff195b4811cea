/- Plain facts on texts of dates in the form YYYY-MM-DD: which are read, and as what. -/
import Derived.Test.YtfoifnhakmfefaaTxtE
namespace Go.Proofs.Ytfoifnhakmfefaa.Txt
open Cal
set_option linter.unusedVariables false

theorem iso_toks : tokens iso = [[89, 89, 89, 89], [45], [77, 77], [45], [68, 68]] := by decide
theorem iso_rightB : rightB iso = true := by decide
theorem written_iso (y m d : Int) : Txt.written y m d iso = dig4 y ++ ([45] ++ (dig2 m ++ ([45] ++ dig2 d))) := by
  simp only [Txt.written, iso_toks]
  simp [wrAll, wr]
theorem isD_bd {c : UInt8} (h : isD c = true) : 48 ≤ c.toNat ∧ c.toNat ≤ 57 := by
  simpa [isD] using h
theorem isD_dg (n : Int) : isD (dg n) = true := by
  have := dg_toNat n
  simp only [isD, Bool.and_eq_true, decide_eq_true_eq]; omega
theorem dg_val (n : Int) : ((dg n).toNat : Int) - 48 = n % 10 := by have := dg_toNat n; omega
theorem numD4 (a b c d : UInt8) : numD [a, b, c, d] = 1000 * ((a.toNat : Int) - 48) + 100 * ((b.toNat : Int) - 48) + 10 * ((c.toNat : Int) - 48) + ((d.toNat : Int) - 48) := by
  simp [numD]; omega
theorem numD2 (a b : UInt8) : numD [a, b] = 10 * ((a.toNat : Int) - 48) + ((b.toNat : Int) - 48) := by
  simp [numD]
theorem dg_eq {n : Int} {c : UInt8} (h : 48 ≤ c.toNat ∧ c.toNat ≤ 57) (e : n % 10 = (c.toNat : Int) - 48) : dg n = c := by
  apply UInt8.toNat_inj.1
  rw [dg_toNat]; omega
theorem dig4_numD {a b c d : UInt8} (ha : isD a = true) (hb : isD b = true) (hc : isD c = true) (hd : isD d = true) : dig4 (numD [a, b, c, d]) = [a, b, c, d] := by
  have := isD_bd ha; have := isD_bd hb; have := isD_bd hc; have := isD_bd hd
  rw [numD4]
  unfold dig4
  rw [dg_eq (c := a) (by assumption) (by omega), dg_eq (c := b) (by assumption) (by omega), dg_eq (c := c) (by assumption) (by omega), dg_eq (c := d) (by assumption) (by omega)]
theorem dig2_numD {a b : UInt8} (ha : isD a = true) (hb : isD b = true) : dig2 (numD [a, b]) = [a, b] := by
  have := isD_bd ha; have := isD_bd hb
  rw [numD2]
  unfold dig2
  rw [dg_eq (c := a) (by assumption) (by omega), dg_eq (c := b) (by assumption) (by omega)]
theorem numD_dig4 {y : Int} (h0 : 0 ≤ y) (h1 : y ≤ 9999) : numD (dig4 y) = y := by
  unfold dig4
  rw [numD4, dg_val, dg_val, dg_val, dg_val]; omega
theorem numD_dig2 {y : Int} (h0 : 0 ≤ y) (h1 : y ≤ 99) : numD (dig2 y) = y := by
  unfold dig2
  rw [numD2, dg_val, dg_val]; omega
/-- a number's text ahead of what goes on, taken off -/
theorem take_four {a b c d : UInt8} (r : List UInt8) (ha : isD a = true) (hb : isD b = true) (hc : isD c = true) (hd : isD d = true) :
    takeN [89, 89, 89, 89] (a :: b :: c :: d :: r) = numD [a, b, c, d] ∧ takeR [89, 89, 89, 89] (a :: b :: c :: d :: r) = r :=
  take_end (t := [89, 89, 89, 89]) (s := a :: b :: c :: d :: r) (k := 4) (by decide) (by simp) (by simp [ha, hb, hc, hd]) (.inr (.inl rfl))
theorem take_two {t : List UInt8} (ht : t.length ≤ 2) {a b : UInt8} (r : List UInt8) (ha : isD a = true) (hb : isD b = true) :
    takeN t (a :: b :: r) = numD [a, b] ∧ takeR t (a :: b :: r) = r := by
  have hm : max t.length 2 = 2 := by omega
  exact take_end (t := t) (s := a :: b :: r) (k := 2) (by omega) (by simp) (by simp [ha, hb]) (.inr (.inl hm.symm))
theorem read_iso {a b c d e f g h : UInt8} (ha : isD a = true) (hb : isD b = true) (hc : isD c = true) (hd : isD d = true) (he : isD e = true) (hf : isD f = true) (hg : isD g = true) (hh : isD h = true) (x y : UInt8) :
    readT (tokens iso) [a, b, c, d, x, e, f, y, g, h] = ⟨numD [a, b, c, d], numD [e, f], numD [g, h], []⟩ := by
  rw [iso_toks]
  obtain ⟨p1, p2⟩ := take_four [x, e, f, y, g, h] ha hb hc hd
  obtain ⟨q1, q2⟩ := take_two (t := [77, 77]) (by decide) [y, g, h] he hf
  obtain ⟨r1, r2⟩ := take_two (t := [68, 68]) (by decide) [] hg hh
  simp [readT, stepR, p1, p2, q1, q2, r1, r2]
theorem readOk_iso {s : List UInt8} (h : readOk iso s = true) :
    ∃ a b c d e f g i : UInt8, s = [a, b, c, d, 45, e, f, 45, g, i] ∧ isD a = true ∧ isD b = true ∧ isD c = true ∧ isD d = true ∧ isD e = true ∧ isD f = true ∧ isD g = true ∧ isD i = true := by
  simp only [readOk, Bool.and_eq_true, beq_iff_eq] at h
  obtain ⟨-, -, h⟩ := h
  rw [written_iso] at h
  rw [← h]
  exact ⟨_, _, _, _, _, _, _, _, rfl, isD_dg _, isD_dg _, isD_dg _, isD_dg _, isD_dg _, isD_dg _, isD_dg _, isD_dg _⟩
theorem readOk_mk {a b c d e f g i : UInt8} (ha : isD a = true) (hb : isD b = true) (hc : isD c = true) (hd : isD d = true) (he : isD e = true) (hf : isD f = true) (hg : isD g = true) (hi : isD i = true) :
    readOk iso [a, b, c, d, 45, e, f, 45, g, i] = validB (numD [a, b, c, d]) (numD [e, f]) (numD [g, i]) ∧ readN iso [a, b, c, d, 45, e, f, 45, g, i] = numV (numD [a, b, c, d]) (numD [e, f]) (numD [g, i]) := by
  have hr := read_iso ha hb hc hd he hf hg hi 45 45
  have ho : readOk iso [a, b, c, d, 45, e, f, 45, g, i] = validB (numD [a, b, c, d]) (numD [e, f]) (numD [g, i]) := by
    simp only [readOk, iso_rightB, hr, written_iso, dig4_numD ha hb hc hd, dig2_numD he hf, dig2_numD hg hi]
    simp
  refine ⟨ho, ?_⟩
  simp only [readN, ho, hr, numV]
/-- what the reference's number makes of a text -/
def numR (s : List UInt8) : Int := if s.all isD = true then numD s else 0
def okR (s : List UInt8) : Bool := s.all isD && (decide (0 < s.length) && decide (s.length < 5))
end Go.Proofs.Ytfoifnhakmfefaa.Txt
