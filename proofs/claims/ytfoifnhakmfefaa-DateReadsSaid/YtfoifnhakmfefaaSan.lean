/- The examples of the chapter, as the function sanity looks at them: it returns true. -/
import Derived.Test.YtfoifnhakmfefaaTxtE
namespace Go.Proofs.Ytfoifnhakmfefaa
open Go.RowKit Go.Shelf
open Cal Txt
set_option linter.unusedVariables false

theorem ca_dec (L : List UInt8) (ha : ∀ b ∈ L, b.toNat < 128) (hc : CaOk L (Lib.containsAny L digitsS)) : CaFor L := by
  intro hl w
  refine (Try.strings_ContainsAny_laid ⟨L.toArray⟩ ⟨digitsS.toArray⟩ w (by show L.length < _; omega) (by decide) ?_ ?_).mono ?_
  · exact fun j b h => ha b (List.mem_of_getElem? h)
  · exact fun j b h => (show ∀ b ∈ digitsS, b.toNat < 128 by decide) b (List.mem_of_getElem? h)
  · rintro e w' ⟨rfl, hb⟩
    exact ⟨_, rfl, hc, hb⟩
theorem ca_ok (L : List UInt8) : L.length ≤ 40 → CaOk L (Lib.containsAny L digitsS) := by
  intro hl
  refine ⟨fun h => by simp [rightB, h], fun h => by simp [rightB, h, hl]⟩
theorem ca_ascii {L : List UInt8} (ha : ∀ b ∈ L, b.toNat < 128) : CaFor L := fun hl => ca_dec L ha (ca_ok L hl) hl

set_option maxRecDepth 100000 in
theorem san0 : numV 1 1 1 = 0 := by decide
set_option maxRecDepth 100000 in
theorem san1 : validB 1 1 1 = true := by decide
set_option maxRecDepth 100000 in
theorem san2 : numV 1 12 31 = 364 := by decide
set_option maxRecDepth 100000 in
theorem san3 : validB 1 12 31 = true := by decide
set_option maxRecDepth 100000 in
theorem san4 : numV 2 1 1 = 365 := by decide
set_option maxRecDepth 100000 in
theorem san5 : validB 2 1 1 = true := by decide
set_option maxRecDepth 100000 in
theorem san6 : numV 2000 2 29 = 730178 := by decide
set_option maxRecDepth 100000 in
theorem san7 : validB 2000 2 29 = true := by decide
set_option maxRecDepth 100000 in
theorem san8 : numV 1900 2 29 = 0 := by decide
set_option maxRecDepth 100000 in
theorem san9 : validB 1900 2 29 = false := by decide
theorem san10 : CivV 3652058 = .tuple #[.int .i64 9999, .int .i64 12, .int .i64 31, .bool true] := rfl
set_option maxRecDepth 100000 in
theorem san11 : wdV 3652058 = 5 := by decide
set_option maxRecDepth 100000 in
theorem san12 : insideB 3652058 = true := by decide
set_option maxRecDepth 100000 in
theorem san13 : numV 2024 1 31 = 738915 := by decide
set_option maxRecDepth 100000 in
theorem san14 : validB 2024 1 31 = true := by decide
set_option maxRecDepth 100000 in
theorem san15 : mV 738915 (1) = 738944 := by decide
set_option maxRecDepth 100000 in
theorem san16 : mOkB 738915 (1) = true := by decide
set_option maxRecDepth 100000 in
theorem san17 : mV 738915 (13) = 739309 := by decide
set_option maxRecDepth 100000 in
theorem san18 : mOkB 738915 (13) = true := by decide
set_option maxRecDepth 100000 in
theorem san19 : mV 738915 (-1) = 738884 := by decide
set_option maxRecDepth 100000 in
theorem san20 : mOkB 738915 (-1) = true := by decide
set_option maxRecDepth 100000 in
theorem san21 : fmtS [68, 46, 77, 46, 89, 89, 89, 89] 730178 = [50, 57, 46, 50, 46, 50, 48, 48, 48] := by decide
set_option maxRecDepth 100000 in
theorem san22 : fmtOk [68, 46, 77, 46, 89, 89, 89, 89] 730178 = true := by decide
set_option maxRecDepth 100000 in
theorem san23 : readN [68, 46, 77, 46, 89, 89, 89, 89] [50, 57, 46, 50, 46, 50, 48, 48, 48] = 730178 := by decide
set_option maxRecDepth 100000 in
theorem san24 : readOk [68, 46, 77, 46, 89, 89, 89, 89] [50, 57, 46, 50, 46, 50, 48, 48, 48] = true := by decide
set_option maxRecDepth 100000 in
theorem san25 : readN [68, 46, 77, 46, 89, 89, 89, 89] [50, 57, 46, 48, 50, 46, 50, 48, 48, 48] = 0 := by decide
set_option maxRecDepth 100000 in
theorem san26 : readOk [68, 46, 77, 46, 89, 89, 89, 89] [50, 57, 46, 48, 50, 46, 50, 48, 48, 48] = false := by decide
set_option maxRecDepth 100000 in
theorem san27 : fmtS [68, 77, 89, 89, 89, 89] 0 = [] := by decide
set_option maxRecDepth 100000 in
theorem san28 : fmtOk [68, 77, 89, 89, 89, 89] 0 = false := by decide
set_option maxRecDepth 100000 in
theorem san29 : textS 738944 = [50, 48, 50, 52, 45, 48, 50, 45, 50, 57] := by decide
set_option maxRecDepth 100000 in
theorem san30 : textS 739309 = [50, 48, 50, 53, 45, 48, 50, 45, 50, 56] := by decide
set_option maxRecDepth 100000 in
theorem san31 : textS 738884 = [50, 48, 50, 51, 45, 49, 50, 45, 51, 49] := by decide
set_option maxHeartbeats 4000000 in
set_option maxRecDepth 100000 in
theorem sanity_any (w : World) : Calls Try.prog 13 #[] w (Gives w (.bool true)) := by
  go_enter Try.func13, Try.ntmps13
  go_wp2_with fail
  refine (Number_any 1 1 1 _).mono ?_
  rintro e w1 ⟨rfl, hb1⟩
  have HB1 := Lib.hid hb1
  clear hb1
  rw [san0, san1]
  go_wp2_with fail
  refine (Number_any 1 12 31 _).mono ?_
  rintro e w2 ⟨rfl, hb2⟩
  have HB2 := Lib.hid hb2
  clear hb2
  rw [san2, san3]
  go_wp2_with fail
  refine (Number_any 2 1 1 _).mono ?_
  rintro e w3 ⟨rfl, hb3⟩
  have HB3 := Lib.hid hb3
  clear hb3
  rw [san4, san5]
  go_wp2_with fail
  refine (Number_any 2000 2 29 _).mono ?_
  rintro e w4 ⟨rfl, hb4⟩
  have HB4 := Lib.hid hb4
  clear hb4
  rw [san6, san7]
  go_wp2_with fail
  refine (Number_any 1900 2 29 _).mono ?_
  rintro e w5 ⟨rfl, hb5⟩
  have HB5 := Lib.hid hb5
  clear hb5
  rw [san8, san9]
  go_wp2_with fail
  refine (Civil_any 3652058 _).mono ?_
  rintro e w6 ⟨rfl, hb6⟩
  have HB6 := Lib.hid hb6
  clear hb6
  rw [san10]
  go_wp2_with fail
  refine (Weekday_any 3652058 _).mono ?_
  rintro e w7 ⟨rfl, rfl⟩
  rw [san11, san12]
  go_wp2_with fail
  refine (Number_any 2024 1 31 _).mono ?_
  rintro e w8 ⟨rfl, hb8⟩
  have HB8 := Lib.hid hb8
  clear hb8
  rw [san13, san14]
  go_wp2_with fail
  refine (Months_any 738915 (1) _).mono ?_
  rintro e w9 ⟨rfl, hb9⟩
  have HB9 := Lib.hid hb9
  clear hb9
  rw [san15, san16]
  go_wp2_with fail
  refine (Months_any 738915 (13) _).mono ?_
  rintro e w10 ⟨rfl, hb10⟩
  have HB10 := Lib.hid hb10
  clear hb10
  rw [san17, san18]
  go_wp2_with fail
  refine (Months_any 738915 (-1) _).mono ?_
  rintro e w11 ⟨rfl, hb11⟩
  have HB11 := Lib.hid hb11
  clear hb11
  rw [san19, san20]
  go_wp2_with fail
  refine (Format_any [68, 46, 77, 46, 89, 89, 89, 89] 730178 (ca_ascii (by decide)) _).mono ?_
  rintro e w12 ⟨rfl, hb12⟩
  have HB12 := Lib.hid hb12
  clear hb12
  rw [san21, san22]
  go_wp2_with fail
  refine (Read_any [68, 46, 77, 46, 89, 89, 89, 89] [50, 57, 46, 50, 46, 50, 48, 48, 48] (ca_ascii (by decide)) (by decide) _).mono ?_
  rintro e w13 ⟨rfl, hb13⟩
  have HB13 := Lib.hid hb13
  clear hb13
  rw [san23, san24]
  go_wp2_with fail
  refine (Read_any [68, 46, 77, 46, 89, 89, 89, 89] [50, 57, 46, 48, 50, 46, 50, 48, 48, 48] (ca_ascii (by decide)) (by decide) _).mono ?_
  rintro e w14 ⟨rfl, hb14⟩
  have HB14 := Lib.hid hb14
  clear hb14
  rw [san25, san26]
  go_wp2_with fail
  refine (Format_any [68, 77, 89, 89, 89, 89] 0 (ca_ascii (by decide)) _).mono ?_
  rintro e w15 ⟨rfl, hb15⟩
  have HB15 := Lib.hid hb15
  clear hb15
  rw [san27, san28]
  go_wp2_with fail
  refine (Text_any 738944 _).mono ?_
  rintro e w16 ⟨rfl, hb16⟩
  have HB16 := Lib.hid hb16
  clear hb16
  rw [san29]
  go_wp2_with fail
  refine (Text_any 739309 _).mono ?_
  rintro e w17 ⟨rfl, hb17⟩
  have HB17 := Lib.hid hb17
  clear hb17
  rw [san30]
  go_wp2_with fail
  refine (Text_any 738884 _).mono ?_
  rintro e w18 ⟨rfl, hb18⟩
  have HB18 := Lib.hid hb18
  clear hb18
  rw [san31]
  go_wp2_with fail
  go_ret
  have c1 : Below w.heap.size w w1 := HB1.out
  have c2 : Below w.heap.size w w2 := c1.trans (HB2.out.mono c1.size)
  have c3 : Below w.heap.size w w3 := c2.trans (HB3.out.mono c2.size)
  have c4 : Below w.heap.size w w4 := c3.trans (HB4.out.mono c3.size)
  have c5 : Below w.heap.size w w5 := c4.trans (HB5.out.mono c4.size)
  have c6 : Below w.heap.size w w6 := c5.trans (HB6.out.mono c5.size)
  have c8 : Below w.heap.size w w8 := c6.trans (HB8.out.mono c6.size)
  have c9 : Below w.heap.size w w9 := c8.trans (HB9.out.mono c8.size)
  have c10 : Below w.heap.size w w10 := c9.trans (HB10.out.mono c9.size)
  have c11 : Below w.heap.size w w11 := c10.trans (HB11.out.mono c10.size)
  have c12 : Below w.heap.size w w12 := c11.trans (HB12.out.mono c11.size)
  have c13 : Below w.heap.size w w13 := c12.trans (HB13.out.mono c12.size)
  have c14 : Below w.heap.size w w14 := c13.trans (HB14.out.mono c13.size)
  have c15 : Below w.heap.size w w15 := c14.trans (HB15.out.mono c14.size)
  have c16 : Below w.heap.size w w16 := c15.trans (HB16.out.mono c15.size)
  have c17 : Below w.heap.size w w17 := c16.trans (HB17.out.mono c16.size)
  have c18 : Below w.heap.size w w18 := c17.trans (HB18.out.mono c17.size)
  exact ⟨rfl, c18⟩
end Go.Proofs.Ytfoifnhakmfefaa
