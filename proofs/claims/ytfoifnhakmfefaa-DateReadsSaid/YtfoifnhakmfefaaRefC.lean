/- Contracts of the reference's digits, Text, number, Parse; each theorem names its conditions. -/
import Derived.Test.YtfoifnhakmfefaaTxtP
import Derived.Test.YtfoifnhakmfefaaRefB
namespace Go.Proofs.Ytfoifnhakmfefaa
open Go.RowKit Go.Shelf
open Cal Txt
set_option linter.unusedVariables false

theorem app_cons (c : UInt8) (t : List UInt8) : Value.string (⟨[c].toArray⟩ ++ ⟨t.toArray⟩) = Value.string ⟨(c :: t).toArray⟩ := by
  congr 1
def dgs : Nat → Int → Int → List UInt8
  | 0, _, _ => []
  | f + 1, n, l => if 0 < n ∨ 0 < l then dgs f (n / 10) (l - 1) ++ [dg n] else []
theorem dgs_none {f : Nat} {n l : Int} (h1 : ¬ 0 < n) (h2 : ¬ 0 < l) : dgs f n l = [] := by
  cases f <;> simp [dgs, h1, h2]
theorem dgs_step {f : Nat} {n l : Int} (h : 0 < n ∨ 0 < l) : dgs (f + 1) n l = dgs f (n / 10) (l - 1) ++ [dg n] := by simp [dgs, h]
theorem dgs4 (n : Int) (h0 : 0 ≤ n) (h1 : n ≤ 9999) : dgs 20000 n 4 = dig4 n := by
  rw [dgs_step (.inr (by omega)), dgs_step (.inr (by omega)), dgs_step (.inr (by omega)), dgs_step (.inr (by omega)), dgs_none (by omega) (by omega)]
  rfl
theorem dgs2 (n : Int) (h0 : 0 ≤ n) (h1 : n ≤ 99) : dgs 20000 n 2 = dig2 n := by
  rw [dgs_step (.inr (by omega)), dgs_step (.inr (by omega)), dgs_none (by omega) (by omega)]
  rfl
theorem dgs1 (n : Int) (h0 : 1 ≤ n) (h1 : n ≤ 99) : dgs 20000 n 1 = dig1 n := by
  unfold dig1
  by_cases h : n < 10
  · rw [dgs_step (.inr (by omega)), dgs_none (by omega) (by omega), if_pos h]
    rfl
  · rw [dgs_step (.inr (by omega)), dgs_step (.inl (by omega)), dgs_none (by omega) (by omega), if_neg h]
    rfl

set_option maxHeartbeats 1000000 in
set_option maxRecDepth 20000 in
theorem rdigits_any (n l : Int) (h0 : 0 ≤ n) (h1 : n ≤ 9999) (h2 : 0 ≤ l) (h3 : l ≤ 9) (w : World) :
    Calls Try.prog 47 #[.int .i64 n, .int .i64 l] w (Gives w (.string ⟨(dgs 20000 n l).toArray⟩)) := by
  obtain ⟨F, hF⟩ : ∃ F, dgs 20000 n l = F := ⟨_, rfl⟩
  have HF := Lib.hid hF
  rw [hF]
  clear hF
  go_enter Try.func47, Try.ntmps47
  go_wp2_with fail
  go_loopw [0, 1, 5] (fun a b s wr => ∃ (n' l' : Int) (t : List UInt8) (f : Nat), a = .int .i64 n' ∧ b = .int .i64 l' ∧ s = .string ⟨t.toArray⟩ ∧ 0 ≤ n' ∧ n' ≤ 9999 ∧ -9999 ≤ l' - n' ∧ l' ≤ 9 ∧ Hid (n'.toNat + l'.toNat ≤ f ∧ t.length + f ≤ 20000) ∧ dgs f n' l' ++ t = F ∧ Below w.heap.size w wr) (fun a b _ _ => (intOf a).toNat + (intOf b).toNat)
  case atStart => exact ⟨n, l, [], 20000, rfl, rfl, rfl, h0, h1, by omega, h3, Lib.hid ⟨by omega, by simp⟩, by rw [List.append_nil]; exact HF.out, Below.refl _ _⟩
  case round =>
    obtain ⟨n', l', t, f, rfl, rfl, rfl, b0, b1, b2, b3, b4, b6, hb⟩ := hrel
    have HB := Lib.hid hb
    have H6 := Lib.hid b6
    have ht : t.length ≤ 20000 := by have := b4.out; omega
    clear hb b6
    by_cases hn : 0 < n'
    · go_wp2_with fail
      rw [conv_bytes _ _ [dg n'] 1 1 rfl (fun j hj => by
        have hj : j < 1 := hj
        have : j = 0 := by omega
        subst this
        rw [cell_of_row _ _ _ _ _ _ (heap_alloc_new wr _)]
        simp [dg_int])]
      go_wp2_with fail
      go_roundw
      case rel =>
        obtain ⟨f', rfl⟩ : ∃ f', f = f' + 1 := ⟨f - 1, by have := b4.out; omega⟩
        refine ⟨n' / 10, l' - 1, dg n' :: t, f', rfl, rfl, ?_, by omega, by omega, by omega, by omega, Lib.hid (by have := b4.out; simp; omega), ?_, HB.out.alloc HB.out.size _⟩
        · rw [app_cons]
        · rw [← H6.out, dgs_step (.inl hn), List.append_assoc]; rfl
      case measure => simp [intOf]; omega
    · by_cases hl : 0 < l'
      · go_wp2_with fail
        rw [conv_bytes _ _ [dg n'] 1 1 rfl (fun j hj => by
          have hj : j < 1 := hj
          have : j = 0 := by omega
          subst this
          rw [cell_of_row _ _ _ _ _ _ (heap_alloc_new wr _)]
          simp [dg_int])]
        go_wp2_with fail
        go_roundw
        case rel =>
          obtain ⟨f', rfl⟩ : ∃ f', f = f' + 1 := ⟨f - 1, by have := b4.out; omega⟩
          refine ⟨n' / 10, l' - 1, dg n' :: t, f', rfl, rfl, ?_, by omega, by omega, by omega, by omega, Lib.hid (by have := b4.out; simp; omega), ?_, HB.out.alloc HB.out.size _⟩
          · rw [app_cons]
          · rw [← H6.out, dgs_step (.inr hl), List.append_assoc]; rfl
        case measure => simp [intOf]; omega
      · go_wp2_with fail
        go_ret
        refine ⟨?_, HB.out⟩
        rw [← H6.out, dgs_none (by omega) (by omega), List.nil_append]; rfl
theorem iso_tokens : tokens iso = [[89, 89, 89, 89], [45], [77, 77], [45], [68, 68]] := by decide
theorem iso_right : rightB iso = true := by decide
theorem text_in {n : Int} (h : insideB n = true) : textS n = dig4 (civY n) ++ [45] ++ dig2 (civM n) ++ [45] ++ dig2 (civD n) := by
  have hf : fmtOk iso n = true := by simp [fmtOk, h, iso_right]
  simp only [textS, fmtS, hf, if_true, Txt.written, iso_tokens]
  simp [wrAll, wr]
theorem text_out {n : Int} (h : insideB n = false) : textS n = [] := by
  have hf : fmtOk iso n = false := by simp [fmtOk, h]
  simp [textS, fmtS, hf]
theorem str_append (a b : List UInt8) : (⟨a.toArray⟩ : ByteArray) ++ ⟨b.toArray⟩ = ⟨(a ++ b).toArray⟩ := by
  apply ByteArray.ext
  simp
set_option maxHeartbeats 1000000 in
theorem rText_any (n : Int) (w : World) : Calls Try.prog 28 #[.int .i64 n] w (Gives w (.string ⟨(textS n).toArray⟩)) := by
  have hii : insideB n = true ∨ insideB n = false := by cases insideB n <;> simp
  rcases hii with hi | hi
  · have hbd := civ_bd n (inside_bd hi).1 (inside_bd hi).2
    have cv := Lib.hid (show CivV n = .tuple #[.int .i64 (civY n), .int .i64 (civM n), .int .i64 (civD n), .bool true] by simp [CivV, cyV, cmV, cdV, hi])
    have ht := Lib.hid (text_in hi)
    have d4 := Lib.hid (dgs4 (civY n) (by omega) (by omega))
    have d2 := Lib.hid (dgs2 (civM n) (by omega) (by omega))
    have d3 := Lib.hid (dgs2 (civD n) (by omega) (by omega))
    clear hi
    go_enter Try.func28, Try.ntmps28
    go_wp2_with fail
    refine (rCivil_any _ _).mono ?_
    rintro e w1 ⟨rfl, rfl⟩
    rw [cv.out]
    go_wp2_with fail
    refine (rdigits_any _ _ (by omega) (by omega) (by omega) (by omega) _).mono ?_
    rintro e w2 ⟨rfl, hb2⟩
    rw [d4.out]
    have l4 : (dig4 (civY n)).length = 4 := rfl
    go_wp2_with fail
    refine (rdigits_any _ _ (by omega) (by omega) (by omega) (by omega) _).mono ?_
    rintro e w3 ⟨rfl, hb3⟩
    rw [d2.out]
    have l2 : (dig2 (civM n)).length = 2 := rfl
    go_wp2_with fail
    refine (rdigits_any _ _ (by omega) (by omega) (by omega) (by omega) _).mono ?_
    rintro e w4 ⟨rfl, hb4⟩
    rw [d3.out]
    have l3 : (dig2 (civD n)).length = 2 := rfl
    go_wp2_with fail
    go_ret
    refine ⟨?_, hb2.trans ((hb3.mono hb2.size).trans (hb4.mono (Nat.le_trans hb2.size hb3.size)))⟩
    rw [ht.out, ← str_append, ← str_append, ← str_append, ← str_append]; rfl
  · have cv := Lib.hid (show CivV n = .tuple #[.int .i64 0, .int .i64 0, .int .i64 0, .bool false] by simp [CivV, cyV, cmV, cdV, hi])
    have ht := Lib.hid (text_out hi)
    clear hi
    go_enter Try.func28, Try.ntmps28
    go_wp2_with fail
    refine (rCivil_any _ _).mono ?_
    rintro e w1 ⟨rfl, rfl⟩
    rw [cv.out]
    go_wp2_with fail
    go_ret
    refine ⟨?_, Below.refl _ _⟩
    rw [ht.out]; rfl

theorem all_not {s : List UInt8} {c : UInt8} (hm : c ∈ s) (hd : isD c = false) : s.all isD = false := by
  cases h : s.all isD
  · rfl
  · rw [List.all_eq_true.1 h c hm] at hd; cases hd
theorem numD_take_succ {s : List UInt8} {k : Nat} (h : k < s.length) : numD (s.take (k + 1)) = 10 * numD (s.take k) + ((s[k].toNat : Int) - 48) := by
  rw [List.take_succ_eq_append_getElem h, numD_snoc]
set_option maxHeartbeats 1000000 in
theorem rnumber_any (s : List UInt8) (hs : s.length ≤ 4) (w : World) :
    Calls Try.prog 50 #[.string ⟨s.toArray⟩] w fun e w' => e = .returned (.tuple #[.int .i64 (numR s), .bool (okR s)]) ∧ w = w' := by
  go_enter Try.func50, Try.ntmps50
  go_wp2_with fail
  go_loopw [4, 5] (fun a b wr => w = wr ∧ ∃ (n : Int) (k : Nat), a = .int .i64 n ∧ b = .int .i64 (k : Int) ∧ k ≤ s.length ∧ Hid (n = numD (s.take k)) ∧ Hid (∀ c ∈ s.take k, isD c = true)) (fun _ b _ => s.length - (intOf b).toNat)
  case atStart => exact ⟨rfl, 0, 0, rfl, rfl, by omega, Lib.hid rfl, Lib.hid (by simp)⟩
  case round =>
    obtain ⟨rfl, n, k, rfl, rfl, hk, hn, hd⟩ := hrel
    have hb := numD_bd4 (s.take k) hd.out (by simp; omega)
    rw [← hn.out] at hb
    obtain ⟨hb0, hb1⟩ := hb
    by_cases hlt : k < s.length
    · have hlt' : (k : Int) < (s.length : Int) := by omega
      have hb8 : s[k].toNat < 256 := s[k].toNat_lt
      have hgd := get_data s k hlt
      have hmem : s[k] ∈ s := List.getElem_mem hlt
      by_cases h48 : (s[k].toNat : Int) < 48
      · have hall := Lib.hid (all_not hmem (isD_lt h48))
        clear hmem
        go_wp2_with fail
        go_ret2
        exact ⟨ret_ib (by simp [numR, hall.out]) (by simp [okR, hall.out]), rfl⟩
      · by_cases h57 : (57 : Int) < (s[k].toNat : Int)
        · have hall := Lib.hid (all_not hmem (isD_gt h57))
          clear hmem
          go_wp2_with fail
          go_ret2
          exact ⟨ret_ib (by simp [numR, hall.out]) (by simp [okR, hall.out]), rfl⟩
        · have hnx := Lib.hid (numD_take_succ hlt)
          have hdx := Lib.hid (take_isD_succ hlt hd.out (isD_mk (by omega) (by omega)))
          clear hmem
          go_wp2_with fail
          go_roundw
          case rel => exact ⟨trivial, _, k + 1, rfl, by simp, by omega, Lib.hid (by rw [hnx.out, ← hn.out]), hdx⟩
          case measure => simp [intOf]; omega
    · have hkl : k = s.length := by omega
      have hall : Hid (s.all isD = true) := Lib.hid (List.all_eq_true.2 (by have := hd.out; rwa [hkl, List.take_length] at this))
      have hnn := Lib.hid (show n = numD s by have := hn.out; rwa [hkl, List.take_length] at this)
      have hlt' : (s.length : Int) ≤ (k : Int) := by omega
      clear hkl
      have h5 : (s.length : Int) < 5 := by omega
      by_cases he : (0 : Int) < (s.length : Int)
      · go_wp2_with fail
        go_ret2
        have e1 : 0 < s.length := by omega
        have e2 : s.length < 5 := by omega
        exact ⟨ret_ib (by simp [numR, hall.out, hnn.out]) (by simp [okR, hall.out, e1, e2]), rfl⟩
      · go_wp2_with fail
        go_ret2
        have e1 : ¬ 0 < s.length := by omega
        exact ⟨ret_ib (by simp [numR, hall.out, hnn.out]) (by simp [okR, hall.out, e1]), rfl⟩

theorem ok_dig4 {a b c d : UInt8} (h : okR [a, b, c, d] = true) : isD a = true ∧ isD b = true ∧ isD c = true ∧ isD d = true := by
  simp only [okR, Bool.and_eq_true] at h
  simpa using h.1
theorem ok_dig2 {a b : UInt8} (h : okR [a, b] = true) : isD a = true ∧ isD b = true := by
  simp only [okR, Bool.and_eq_true] at h
  simpa using h.1
theorem ok_no {x y z u e f g i : UInt8} (h : okR [x, y, z, u] = false ∨ okR [e, f] = false ∨ okR [g, i] = false) : readOk iso [x, y, z, u, 45, e, f, 45, g, i] = false := by
  cases hk : readOk iso [x, y, z, u, 45, e, f, 45, g, i]
  · rfl
  · obtain ⟨a', b', c', d', e', f', g', i', h', p1, p2, p3, p4, p5, p6, p7, p8⟩ := readOk_iso hk
    simp at h'
    obtain ⟨rfl, rfl, rfl, rfl, rfl, rfl, rfl, rfl⟩ := h'
    rcases h with h | h | h <;> simp [okR, *] at h
theorem ok_yes {a b c d e f g i : UInt8} (h1 : okR [a, b, c, d] = true) (h2 : okR [e, f] = true) (h3 : okR [g, i] = true) :
    numV (numR [a, b, c, d]) (numR [e, f]) (numR [g, i]) = readN iso [a, b, c, d, 45, e, f, 45, g, i] ∧ validB (numR [a, b, c, d]) (numR [e, f]) (numR [g, i]) = readOk iso [a, b, c, d, 45, e, f, 45, g, i] := by
  obtain ⟨p1, p2, p3, p4⟩ := ok_dig4 h1
  obtain ⟨p5, p6⟩ := ok_dig2 h2
  obtain ⟨p7, p8⟩ := ok_dig2 h3
  have := readOk_mk p1 p2 p3 p4 p5 p6 p7 p8
  have e1 : numR [a, b, c, d] = numD [a, b, c, d] := by simp [numR, *]
  have e2 : numR [e, f] = numD [e, f] := by simp [numR, *]
  have e3 : numR [g, i] = numD [g, i] := by simp [numR, *]
  rw [e1, e2, e3]
  exact ⟨this.2.symm, this.1.symm⟩
theorem list10 {α : Type} (l : List α) (h : l.length = 10) : ∃ a b c d x e f y g i, l = [a, b, c, d, x, e, f, y, g, i] := by
  match l, h with
  | [a, b, c, d, x, e, f, y, g, i], _ => exact ⟨a, b, c, d, x, e, f, y, g, i, rfl⟩
theorem ext_mid (s : List UInt8) (i j : Nat) (hj : j ≤ s.length) : (⟨s.toArray⟩ : ByteArray).extract i j = ⟨((s.take j).drop i).toArray⟩ := by
  apply ByteArray.ext
  rw [ByteArray.data_extract]
  simp [List.drop_take]
set_option maxHeartbeats 2000000 in
theorem rParse_any (s : List UInt8) (w : World) :
    Calls Try.prog 30 #[.string ⟨s.toArray⟩] w fun e w' => e = .returned (.tuple #[.int .i64 (readN iso s), .bool (readOk iso s)]) ∧ w = w' := by
  by_cases hl : s.length = 10
  · obtain ⟨a, b, c, d, x, e, f, y, g, i, rfl⟩ := list10 s hl
    clear hl
    by_cases h4 : x = 45
    · subst h4
      by_cases h7 : y = 45
      · subst h7
        have hg4 : (ByteArray.mk #[a, b, c, d, 45, e, f, 45, g, i])[4]'(by show 4 < 10; omega) = 45 := rfl
        have hg7 : (ByteArray.mk #[a, b, c, d, 45, e, f, 45, g, i])[7]'(by show 7 < 10; omega) = 45 := rfl
        have x1 := Lib.hid (show (ByteArray.mk #[a, b, c, d, 45, e, f, 45, g, i]).extract 0 4 = ⟨[a, b, c, d].toArray⟩ from ext_mid [a, b, c, d, 45, e, f, 45, g, i] 0 4 (by simp))
        have x2 := Lib.hid (show (ByteArray.mk #[a, b, c, d, 45, e, f, 45, g, i]).extract 5 7 = ⟨[e, f].toArray⟩ from ext_mid [a, b, c, d, 45, e, f, 45, g, i] 5 7 (by simp))
        have x3 := Lib.hid (show (ByteArray.mk #[a, b, c, d, 45, e, f, 45, g, i]).extract 8 10 = ⟨[g, i].toArray⟩ from ext_mid [a, b, c, d, 45, e, f, 45, g, i] 8 10 (by simp))
        go_enter Try.func30, Try.ntmps30
        go_wp2_with fail
        rw [x1.out]
        refine (rnumber_any _ (by simp) _).mono ?_
        rintro e w1 ⟨rfl, rfl⟩
        go_wp2_with fail
        rw [x2.out]
        refine (rnumber_any _ (by simp) _).mono ?_
        rintro e w1 ⟨rfl, rfl⟩
        go_wp2_with fail
        rw [x3.out]
        refine (rnumber_any _ (by simp) _).mono ?_
        rintro e w1 ⟨rfl, rfl⟩
        go_wp2_with fail
        refine (rNumber_any _ _ _ _).mono ?_
        rintro e w1 ⟨rfl, rfl⟩
        cases k1 : okR [a, b, c, d]
        case false =>
          have HF := Lib.hid (ok_no (x := a) (y := b) (z := c) (u := d) (e := e) (f := f) (g := g) (i := i) (.inl k1))
          clear k1
          go_wp2_with fail
          go_ret2
          exact ⟨ret_ib (by simp [readN, HF.out]) HF.out.symm, rfl⟩
        cases k2 : okR [e, f]
        case false =>
          have HF := Lib.hid (ok_no (x := a) (y := b) (z := c) (u := d) (e := e) (f := f) (g := g) (i := i) (.inr (.inl k2)))
          clear k1 k2
          go_wp2_with fail
          go_ret2
          exact ⟨ret_ib (by simp [readN, HF.out]) HF.out.symm, rfl⟩
        cases k3 : okR [g, i]
        case false =>
          have HF := Lib.hid (ok_no (x := a) (y := b) (z := c) (u := d) (e := e) (f := f) (g := g) (i := i) (.inr (.inr k3)))
          clear k1 k2 k3
          go_wp2_with fail
          go_ret2
          exact ⟨ret_ib (by simp [readN, HF.out]) HF.out.symm, rfl⟩
        have HT := Lib.hid (ok_yes k1 k2 k3)
        clear k1 k2 k3
        rw [HT.out.1, HT.out.2]
        cases kv : readOk iso [a, b, c, d, 45, e, f, 45, g, i]
        · have HV := Lib.hid kv
          clear kv
          go_wp2_with fail
          go_ret2
          exact ⟨ret_ib (by simp [readN, HV.out]) HV.out.symm, rfl⟩
        · have HV := Lib.hid kv
          clear kv
          go_wp2_with fail
          go_ret2
          exact ⟨ret_ib rfl HV.out.symm, rfl⟩
      · have f7 : ((y.toNat : Int) == 45) = false := byte_ne h7
        have HF : Hid (readOk iso [a, b, c, d, 45, e, f, y, g, i] = false) := Lib.hid (by
          cases h : readOk iso [a, b, c, d, 45, e, f, y, g, i]
          · rfl
          · obtain ⟨_, _, _, _, _, _, _, _, h', _⟩ := readOk_iso h
            simp at h'; exact absurd h'.2.2.2.2.2.2.1 h7)
        have hg4 : (ByteArray.mk #[a, b, c, d, 45, e, f, y, g, i])[4]'(by show 4 < 10; omega) = 45 := rfl
        have hg7 : (ByteArray.mk #[a, b, c, d, 45, e, f, y, g, i])[7]'(by show 7 < 10; omega) = y := rfl
        go_enter Try.func30, Try.ntmps30
        go_wp2_with fail
        go_ret2
        exact ⟨ret_ib (by simp [readN, HF.out]) HF.out.symm, rfl⟩
    · have f4 : ((x.toNat : Int) == 45) = false := byte_ne h4
      have HF : Hid (readOk iso [a, b, c, d, x, e, f, y, g, i] = false) := Lib.hid (by
        cases h : readOk iso [a, b, c, d, x, e, f, y, g, i]
        · rfl
        · obtain ⟨_, _, _, _, _, _, _, _, h', _⟩ := readOk_iso h
          simp at h'; exact absurd h'.2.2.2.2.1 h4)
      have hg4 : (ByteArray.mk #[a, b, c, d, x, e, f, y, g, i])[4]'(by show 4 < 10; omega) = x := rfl
      go_enter Try.func30, Try.ntmps30
      go_wp2_with fail
      go_ret2
      exact ⟨ret_ib (by simp [readN, HF.out]) HF.out.symm, rfl⟩
  · have HF : Hid (readOk iso s = false) := Lib.hid (by
      cases h : readOk iso s
      · rfl
      · obtain ⟨_, _, _, _, _, _, _, _, h', _⟩ := readOk_iso h
        exact absurd (by rw [h']; rfl) hl)
    have hl' : ((s.length : Int) == 10) = false := by simp; omega
    go_enter Try.func30, Try.ntmps30
    go_wp2_with fail
    go_ret2
    exact ⟨ret_ib (by simp [readN, HF.out]) HF.out.symm, rfl⟩

end Go.Proofs.Ytfoifnhakmfefaa
