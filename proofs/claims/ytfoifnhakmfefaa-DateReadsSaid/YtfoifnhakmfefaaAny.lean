/- strings.ContainsAny with the ten digits, on any text of at most 8 bytes, returns a truth value; so every layout has what right asks. -/
import Derived.Test.YtfoifnhakmfefaaSan
import Derived.Test.YtfoifnhakmfefaaTxtQ
import Derived.Laws.Runes
import Derived.Laws.RangeAny
import Derived.BigQuiet
import Derived.WalkMore
namespace Go.Proofs.Ytfoifnhakmfefaa
open Go.RowKit Go.Shelf
open Cal Txt
set_option linter.unusedVariables false

theorem dig_ascii : ∀ (i : Nat) (h : i < (ByteArray.mk digitsS.toArray).size), ((ByteArray.mk digitsS.toArray)[i]'h).toNat < 128 := by decide
theorem below_iter {B : Nat} {A W : World} (h : Below B A W) (hB : B ≤ W.heap.size) (s : ByteArray) (p : Nat) : Below B A (W.iter s p) := h.alloc hB _
set_option maxHeartbeats 2000000 in
set_option maxRecDepth 100000 in
theorem irune_any (r : Int) (h0 : 0 ≤ r) (h1 : r ≤ 2147483647) (w : World) : Calls Try.prog 67 #[.string ⟨digitsS.toArray⟩, .int .i32 r] w fun e w' => (∃ k, e = .returned (.int .i64 k)) ∧ Below w.heap.size w w' := by
  by_cases h128 : r < 128
  · refine (Try.strings_IndexRune_ascii ⟨digitsS.toArray⟩ r w h0 h128).mono ?_
    rintro e w' ⟨rfl, rfl⟩
    exact ⟨⟨_, rfl⟩, Below.refl _ _⟩
  obtain ⟨D, hD⟩ : ∃ D : ByteArray, D = ⟨digitsS.toArray⟩ := ⟨_, rfl⟩
  have hs : D.size = 10 := by rw [hD]; rfl
  have HASC : Hid (∀ (i : Nat) (h : i < D.size), (D[i]'h).toNat < 128) := Lib.hid (by rw [hD]; exact dig_ascii)
  rw [← hD]
  clear hD
  by_cases he : r = 65533
  · subst he
    go_enter Try.func67, Try.ntmps67
    go_wp2_with fail
    go_loopg [5, 6] 10 (fun g _ _ wx => ∃ i : Nat, i + g = 10 ∧ wx = w.iter D i)
    case atStart => exact ⟨0, by omega, rfl⟩
    case round =>
      obtain ⟨i, hig, rfl⟩ := hrel
      cases gk with
      | zero =>
        have hnx := fun ty => run_next_end (P := Try.prog) w D i ty (by omega)
        go_wp2_with fail
        go_ret
        exact ⟨⟨_, rfl⟩, below_iter (Below.refl _ _) (Nat.le_refl _) _ _⟩
      | succ g =>
        have hi : i < D.size := by omega
        obtain ⟨x, hx⟩ : ∃ x : UInt8, D[i]'hi = x := ⟨_, rfl⟩
        have hx128 : x.toNat < 128 := by rw [← hx]; exact HASC.out i hi
        have hnx := fun ty => run_next_ascii (P := Try.prog) w D i ty hi (by rw [hx]; exact hx128)
        rw [hx] at hnx
        go_wp2_with fail
        go_roundg g
        case measure => omega
        case rel => exact ⟨i + 1, by omega, rfl⟩
  by_cases hv : Lib.validRune r = true
  case neg =>
    have hv' : Lib.validRune r = false := by simpa using hv
    have hne : (r == 65533) = false := by simpa using he
    go_enter Try.func67, Try.ntmps67
    go_wp2_with fail
    refine (Try.utf8_ValidRune r _).mono ?_
    rintro e w1 ⟨rfl, rfl⟩
    rw [hv']
    go_wp2_with fail
    go_ret
    exact ⟨⟨_, rfl⟩, Below.refl _ _⟩
  have hne : (r == 65533) = false := by simpa using he
  obtain ⟨E, hE, e2, e4, el⟩ : ∃ E, Utf8.encode r = E ∧ 2 ≤ E.size ∧ E.size ≤ 4 ∧ ∀ h : E.size - 1 < E.size, 128 ≤ (E[E.size - 1]'h).toNat := ⟨_, rfl, encode_facts r (by rw [validRune_eq]; exact hv) (by omega)⟩
  have hcv : ∀ W, (convert 21 9 (.int .i32 r)).run Try.prog W = .ok (.string E) W := fun W => by rw [← hE]; exact run_convert_int_string W _ _ .i32 r rfl rfl
  obtain ⟨j, hj⟩ : ∃ j, E.size = j + 1 := ⟨E.size - 1, by omega⟩
  have hjE : j < E.size := by omega
  have hjD : j < D.size := by omega
  have hel := el (by omega)
  have hel' : 128 ≤ (E[j]'hjE).toNat := by
    have e : E.size - 1 = j := by omega
    simpa only [e] using hel
  obtain ⟨x, hx⟩ : ∃ x : UInt8, D[j]'hjD = x := ⟨_, rfl⟩
  obtain ⟨y, hy⟩ : ∃ y : UInt8, E[j]'hjE = y := ⟨_, rfl⟩
  have hx128 : x.toNat < 128 := by rw [← hx]; exact HASC.out j hjD
  rw [hy] at hel'
  have hsz : (E.size : Int) - 1 = (j : Int) := by omega
  have hxy : ((x.toNat : Int) == (y.toNat : Int)) = false := by rw [beq_eq_false_iff_ne]; omega
  have hj4 : j ≤ 3 := by omega
  have hib : ∀ a e, Lib.indexByte (D.extract a e).data.toList ((y.toNat : Int)).toNat.toUInt8 = -1 := by
    intro a e
    have hge := Lib.indexByte_ge (D.extract a e).data.toList ((y.toNat : Int)).toNat.toUInt8
    have hc := Lib.contains_iff_indexByte (D.extract a e).data.toList ((y.toNat : Int)).toNat.toUInt8
    have hy' : ((y.toNat : Int)).toNat.toUInt8 = y := by simp
    rw [hy'] at hge hc ⊢
    have hn : (D.extract a e).data.toList.contains y = false := by
      rw [Bool.eq_false_iff]
      intro hcn
      have hm := mem_extract (List.contains_iff_mem.1 hcn)
      obtain ⟨k, hk, hkk⟩ := List.getElem_of_mem hm
      rw [Array.length_toList] at hk
      have hk2 : k < D.size := hk
      have := HASC.out k hk2
      have e : D[k]'hk2 = y := by rw [← hkk]; rfl
      rw [e] at this; omega
    rw [hn] at hc
    have := of_decide_eq_false hc.symm
    omega
  have HIB : Hid (∀ a e W, Calls Try.prog 55 #[.string (D.extract a e), .int .u8 (y.toNat : Int)] W fun e w' => e = .returned (.int .i64 (-1)) ∧ w' = W) := Lib.hid (fun a e W => by
    refine (Try.strings_IndexByte _ _ _).mono ?_
    rintro e w' ⟨rfl, hw⟩
    rw [hib]
    exact ⟨rfl, hw⟩)
  clear hib
  have hj10 : (j : Int) < 10 := by omega
  have hwj : IntKind.i64.wrap ((j : Int) + 1) = (j : Int) + 1 := wrap_small _ (by omega) (by omega)
  have hwj0 : (0 : Int) ≤ (j : Int) + 1 := by omega
  have hwj1 : (j : Int) + 1 ≤ 10 := by omega
  have hjj : (j : Int) < (j : Int) + 1 := by omega
  clear el hel hE
  go_enter Try.func67, Try.ntmps67
  go_wp2_with fail
  refine (Try.utf8_ValidRune r _).mono ?_
  rintro e w1 ⟨rfl, rfl⟩
  rw [hv]
  go_wp2_with fail
  go_step3
  go_wp2_with fail
  refine wp_loop_rounds 1 ?_
  rw [rounds_succ]
  go_wp2_with fail
  go_step3
  go_wp2_with fail
  go_quiet (fail)
  go_wp2_with fail
  go_quiet (first | (go_at_call 55; refine (HIB.out _ _ _).mono fun _ _ h => ⟨h.1, _, h.2⟩))
  go_wp2_with fail
  rw [Exit.noGoto_ret]
  go_wp2_with fail
  try rw [Exit.noGoto_ret]
  go_ret
  exact ⟨⟨_, rfl⟩, by repeat first | exact Below.refl _ _ | refine below_drewN ?_ _⟩
theorem decode_step (s : ByteArray) (i : Nat) (h : i < s.size) : 1 ≤ (Utf8.decode s i).2 := by
  by_cases ha : (s[i]'h).toNat < 128
  · rw [decode_ascii s i h ha]; exact Nat.le_refl _
  · exact (decode_high s i h (by omega)).2
set_option maxHeartbeats 2000000 in
set_option maxRecDepth 100000 in
theorem iany_short (s : ByteArray) (h8 : s.size ≤ 8) (w : World) : Calls Try.prog 62 #[.string s, .string ⟨digitsS.toArray⟩] w fun e w' => (∃ k, e = .returned (.int .i64 k)) ∧ Below w.heap.size w w' := by
  have h8z : decide ((8 : Int) < (s.size : Int)) = false := decide_eq_false (by omega)
  go_enter Try.func62, Try.ntmps62
  go_wp2_with fail
  refine (Try.strings_shouldUseASCIISet _ _).mono ?_
  rintro e w1 ⟨rfl, rfl⟩
  rw [h8z]
  go_wp2_with fail
  go_loopw [9, 10] (fun _ _ wr => ∃ i : Nat, Hid (wr.heap[w1.heap.size]? = some (.stringIter s i)) ∧ Hid (Below w1.heap.size w1 wr)) (fun _ _ wr => s.size - wr.iterPos w1.heap.size)
  case atStart => exact ⟨0, Lib.hid (World.iter_heap _ _ _), Lib.hid ((Below.refl _ _).alloc (Nat.le_refl _) _)⟩
  case round =>
    obtain ⟨i, HI, HB⟩ := hrel
    by_cases hi : i < s.size
    · have hp : wr.iterPos w1.heap.size = i := by simp [World.iterPos, HI.out]
      have hd1 := decode_step s i hi
      have hd2 := decode_le s i
      have hnx := fun ty => Lib.run_next_any_at (P := Try.prog) wr w1.heap.size s i ty HI.out hi
      obtain ⟨c, d, hcd⟩ : ∃ c d, Utf8.decode s i = (c, d) := ⟨_, _, rfl⟩
      rw [hcd] at hd1 hd2
      simp only [hcd] at hnx
      have HI2 := Lib.hid (Lib.iterAt_heap wr w1.heap.size s i (i + d) HI.out)
      have HB2 := Lib.hid (Lib.below_iterAt HB.out (Nat.le_refl _) s (i + d))
      dsimp only at hd1 hd2
      obtain ⟨W2, hW2⟩ : ∃ W2, wr.iterAt w1.heap.size s (i + d) = W2 := ⟨_, rfl⟩
      rw [hW2] at HI2 HB2
      simp only [hW2] at hnx
      go_wp2_with fail
      refine (irune_any c (by omega) (by omega) _).mono ?_
      rintro e W3 ⟨⟨k, rfl⟩, hb3⟩
      have HI3 := Lib.hid (block_new hb3 HI2.out)
      have HB3 := Lib.hid (HB2.out.trans (hb3.mono HB2.out.size))
      clear hb3
      by_cases hk : 0 ≤ k
      · go_wp2_with fail
        go_ret
        exact ⟨⟨_, rfl⟩, HB3.out⟩
      · have hk' : k < 0 := by omega
        go_wp2_with fail
        go_roundw
        case rel => exact ⟨_, HI3, HB3⟩
        case measure => rw [hp]; simp only [World.iterPos, HI3.out]; omega
    · have hnx := fun ty => Lib.run_next_end_at (P := Try.prog) wr w1.heap.size s i ty HI.out hi
      go_wp2_with fail
      go_ret
      exact ⟨⟨_, rfl⟩, HB.out⟩
set_option maxHeartbeats 1000000 in
theorem cany_short (s : ByteArray) (h8 : s.size ≤ 8) (w : World) : Calls Try.prog 54 #[.string s, .string ⟨digitsS.toArray⟩] w fun e w' => (∃ b, e = .returned (.bool b)) ∧ Below w.heap.size w w' := by
  go_enter Try.func54, Try.ntmps54
  go_wp2_with fail
  refine (iany_short s h8 _).mono ?_
  rintro e w1 ⟨⟨k, rfl⟩, hb⟩
  go_wp2_with fail
  go_ret
  exact ⟨⟨_, rfl⟩, hb⟩
end Go.Proofs.Ytfoifnhakmfefaa
