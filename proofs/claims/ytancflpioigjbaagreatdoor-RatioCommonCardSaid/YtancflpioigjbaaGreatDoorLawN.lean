/- What the seven rows of this seat share: the listed variables, a world that lays them, the cell of MaxLen; parameters opened. -/
import Derived.Test.YtancflpioigjbaaGreatDoorCards
import Derived.Test.YtancflpioigjbaaGreatDoorTie
import Derived.Test.YtancflpioigjbaaGreatDoorRdE
import Derived.Test.YtancflpioigjbaaGreatDoorLawB
import Derived.Test.YtancflpioigjbaaGreatDoorArr
import Derived.WalkKit
import Derived.ProofKit
import Derived.OpenShut
import Derived.LaidMore
import Derived.Deep.DeepHandedRow
import Derived.Deep.DeepWitnessRowRef
import Derived.Lib.LaidTab
import Derived.Lib.ItoaMem
import Derived.Stop.LaidErr
import Derived.Shelf.Vars
import Derived.Below
namespace Go.Proofs.YtancflpioigjbaaGreatDoor
open Go.ChangeShapes Go.WideShapes Go.ChangeAt Go.RowKit Go
set_option linter.unusedVariables false

theorem own : ownKnob Tryz.prog.godebug = none := by kernel_rfl
theorem gTab : Tryz.prog.globalNamed "internal/strconv.uint64pow10" = some 3 := by kernel_rfl
theorem gTabType : (Tryz.prog.globals[3]?).map (·.type) = some 175 := by kernel_rfl
theorem cells20 : Tryz.prog.cellsOf 175 = 20 := by kernel_rfl
theorem cells64 : Tryz.prog.cellsOf 113 = 1 := by kernel_rfl
/-- what the rows list -/
def laid7 : List (String × DataW Unit) := Rows.ratioSumsRow.laid
/-- WHAT THE ROW's LIST GIVES: the table of the powers of ten. -/
theorem table {W : World} (h : laidMetH Tryz.prog laid7 W) : Lib.TabIs Tryz.prog W "internal/strconv.uint64pow10" .u64 Lib.pow10Tab := by
  have h' : laidMet Tryz.prog laid7 W := h
  have h2 := laidMet.tail (laidMet.tail h')
  exact Lib.tabIs_of_head gTab gTabType Tryz.underlying175 Tryz.underlying113 cells64 cells20 h2
/-- A WORLD FOR THE WITNESS: the door's own, and the table unicode/utf8.first laid. -/
noncomputable def laidWorld (os : Os) : World :=
  { World.doorLaid Tryz.prog 400 os with heap := (World.doorLaid Tryz.prog 400 os).heap.modify 4 fun
      | .cells _ t frozen => .cells (Go.Pinned.utf8FirstZ.map fun z : Nat => Value.int .u8 (z : Int)).toArray t frozen
      | o => o }
set_option maxRecDepth 100000 in
theorem laid_met (os : Os) (args : Array Value) : laidMet Tryz.prog laid7 ((laidWorld os).forCall (fun _ _ => 0) ⟨#[], args, []⟩).memory :=
  laidMet_of_run' 8 (by kernel_rfl) (by kernel_rfl)
set_option maxRecDepth 100000 in
theorem maxCell {W : World} (h : W.ShapedOpen Tryz.prog) : ∃ m : Int, W.cell? ⟨0, 0, none⟩ = some (.int .i64 m) :=
  cell_of_shapedOpen_int (zero := #[.int .i64 0]) (t := 3) h (by rw [show Tryz.prog.globals.size = 8 by kernel_rfl]; decide) (by kernel_rfl) rfl (by kernel_rfl) (by kernel_rfl) Tryz.underlying3
theorem wf_rng {z : Int} (h : (Lit.int .i64 z).wf = true) : inJ z := bounds_i64 h
set_option maxRecDepth 100000 in
/-- an api.Rat that came in -/
theorem open_rat {W : World} {base : Nat} {v : Value} (hval : Value.okWide Tryz.prog W .any base 26 v) :
    ∃ neg n d, v = .agg #[.bool neg, .string n, .string d] ∧ (n.size : Int) ≤ 9223372036854775807 ∧ (d.size : Int) ≤ 9223372036854775807 := by
  unfold Value.okWide at hval
  rw [Tryz.underlying26] at hval
  obtain ⟨cs, rfl, hs, ts, hts, -, hc⟩ := hval
  have e1 : Tryz.prog.cellTypes Tryz.prog.depth 26 = some [4, 22, 22] := by kernel_rfl
  have e2 : Tryz.prog.cellsOf 26 = 3 := by kernel_rfl
  rw [e1] at hts
  obtain rfl := Option.some.inj hts
  rw [e2] at hs
  obtain ⟨x, y, z, rfl⟩ : ∃ x y z, cs = #[x, y, z] := by
    obtain ⟨l⟩ := cs
    match l, hs with
    | [x, y, z], _ => exact ⟨x, y, z, rfl⟩
  obtain ⟨u0, h0, k0⟩ := hc 0 x rfl
  obtain ⟨u1, h1, k1⟩ := hc 1 y rfl
  obtain ⟨u2, h2, k2⟩ := hc 2 z rfl
  obtain rfl : 4 = u0 := Option.some.inj h0
  obtain rfl : 22 = u1 := Option.some.inj h1
  obtain rfl : 22 = u2 := Option.some.inj h2
  unfold Cell.okWide at k0 k1 k2
  rw [Tryz.underlying4] at k0
  rw [Tryz.underlying22] at k1 k2
  cases x <;> simp [Cell.ok, Tryz.underlying4] at k0
  cases y <;> simp [Cell.ok, Tryz.underlying22] at k1
  cases z <;> simp [Cell.ok, Tryz.underlying22] at k2
  exact ⟨_, _, _, rfl, by simpa [IntKind.max] using k1, by simpa [IntKind.max] using k2⟩
set_option maxRecDepth 100000 in
/-- a [2]api.Nat that came in -/
theorem open_nats {W : World} {base : Nat} {v : Value} (hval : Value.okWide Tryz.prog W .any base 23 v) :
    ∃ n d, v = .agg #[.string n, .string d] ∧ (n.size : Int) ≤ 9223372036854775807 ∧ (d.size : Int) ≤ 9223372036854775807 := by
  unfold Value.okWide at hval
  rw [Tryz.underlying23] at hval
  obtain ⟨cs, rfl, hs, ts, hts, -, hc⟩ := hval
  have e1 : Tryz.prog.cellTypes Tryz.prog.depth 23 = some [22, 22] := by kernel_rfl
  have e2 : Tryz.prog.cellsOf 23 = 2 := by kernel_rfl
  rw [e1] at hts
  obtain rfl := Option.some.inj hts
  rw [e2] at hs
  obtain ⟨y, z, rfl⟩ : ∃ y z, cs = #[y, z] := by
    obtain ⟨l⟩ := cs
    match l, hs with
    | [y, z], _ => exact ⟨y, z, rfl⟩
  obtain ⟨u1, h1, k1⟩ := hc 0 y rfl
  obtain ⟨u2, h2, k2⟩ := hc 1 z rfl
  obtain rfl : 22 = u1 := Option.some.inj h1
  obtain rfl : 22 = u2 := Option.some.inj h2
  unfold Cell.okWide at k1 k2
  rw [Tryz.underlying22] at k1 k2
  cases y <;> simp [Cell.ok, Tryz.underlying22] at k1
  cases z <;> simp [Cell.ok, Tryz.underlying22] at k2
  exact ⟨_, _, rfl, by simpa [IntKind.max] using k1, by simpa [IntKind.max] using k2⟩
end Go.Proofs.YtancflpioigjbaaGreatDoor
