/-
  No cell of these rows narrows 'for every input' (looked for: loops, veiled, ifaces, maps, wideKeys, modest, calm, conditions, laid).
  DERIVED. THE GIVEN ROWS OF THIS SEAT. 9 by the template 'for every input the law returns true; each argument reads behind the call as it read before'; 0 by the template 'total and deterministic' (their statements: YtodkppeikpaclaaTotals.lean).
  GIVEN WITH THE SEED: the statements are not yours to turn. If you find one false, say at which input.
  Laid BY PROGRAM, IN A SANDBOX (cutbox-rows.mjs): the forced cells as the released guide's own fill.sh prints them over the translation cc42121519b09a50… (all of the seat's roots in one cut). By AI agents, Wed Nov 11 2026. No macro, syntax, notation, axiom, sorry.
-/
import Derived.Test.YtodkppeikpaclaaChecked
import GoSem.Claim
import GoSem.ClaimJoined
import GoSem.ClaimMapViews
import Derived.JoinedTies
import Derived.KernelRfl
namespace Go.Proofs.Ytodkppeikpaclaa
/- THE CELL 'sum', in the pinned program and in every row, IS THE sha256 OF THE DUMP (.gsa) THAT YtodkppeikpaclaaProg.lean LOADS. Nothing in Lean hashes anything: it is a label: what it is worth is what the hold of that sum in a sandbox is worth. -/
noncomputable def Try.pinned : Pinned := { name := "ytodkppeikpaclaa", sum := "cc42121519b09a505871da08dfa7499ade70a36c007db4cab1c426c5bf8b0016", checked := Try.checked }
namespace Rows
def none {H : Type} : Left H := { results := [], args := [] }

/-- 'tithinglaw05.SpanSets': WHATEVER THE INPUT: true; the input reads as it did. -/
def spanSetsSpec : ChangeSpec := { name := "spanSets", fn := fun _ => fun
  | [d1, d2] => { results := [.lit (.bool true)], args := [d1, d2] }
  | _ => none }
def spanSetsRow : OpenClaim := { program := "ytodkppeikpaclaa", sum := "cc42121519b09a505871da08dfa7499ade70a36c007db4cab1c426c5bf8b0016", func := "tithing/tithinglaw05.SpanSets", spec := "spanSets", unfollowed := true, recurses := true, apart := false }
def SpanSetsSaid : Prop := spanSetsRow.holds Try.pinned (OpenSpec.ofChange spanSetsSpec)

/-- ITS FALSE NEIGHBOUR: 'it returns false'. Refute it at one input. -/
def spanSetsWrong : ChangeSpec := { name := "spanSets", fn := fun _ => fun
  | [d1, d2] => { results := [.lit (.bool false)], args := [d1, d2] }
  | _ => none }
def SpanSetsWrongFalsely : Prop := spanSetsRow.holds Try.pinned (OpenSpec.ofChange spanSetsWrong)

/-- 'tithinglaw05.SpanRaw': WHATEVER THE INPUT: true; the input reads as it did. -/
def spanRawSpec : ChangeSpec := { name := "spanRaw", fn := fun _ => fun
  | [d1, d2, d3] => { results := [.lit (.bool true)], args := [d1, d2, d3] }
  | _ => none }
def spanRawRow : OpenClaim := { program := "ytodkppeikpaclaa", sum := "cc42121519b09a505871da08dfa7499ade70a36c007db4cab1c426c5bf8b0016", func := "tithing/tithinglaw05.SpanRaw", spec := "spanRaw", unfollowed := true, recurses := true, apart := false }
def SpanRawSaid : Prop := spanRawRow.holds Try.pinned (OpenSpec.ofChange spanRawSpec)

/-- ITS FALSE NEIGHBOUR: 'it returns false'. Refute it at one input. -/
def spanRawWrong : ChangeSpec := { name := "spanRaw", fn := fun _ => fun
  | [d1, d2, d3] => { results := [.lit (.bool false)], args := [d1, d2, d3] }
  | _ => none }
def SpanRawWrongFalsely : Prop := spanRawRow.holds Try.pinned (OpenSpec.ofChange spanRawWrong)

/-- 'tithinglaw05.SpanDays': WHATEVER THE INPUT: true; the input reads as it did. -/
def spanDaysSpec : ChangeSpec := { name := "spanDays", fn := fun _ => fun
  | [d1, d2, d3] => { results := [.lit (.bool true)], args := [d1, d2, d3] }
  | _ => none }
def spanDaysRow : OpenClaim := { program := "ytodkppeikpaclaa", sum := "cc42121519b09a505871da08dfa7499ade70a36c007db4cab1c426c5bf8b0016", func := "tithing/tithinglaw05.SpanDays", spec := "spanDays", unfollowed := true, recurses := true, apart := false }
def SpanDaysSaid : Prop := spanDaysRow.holds Try.pinned (OpenSpec.ofChange spanDaysSpec)

/-- ITS FALSE NEIGHBOUR: 'it returns false'. Refute it at one input. -/
def spanDaysWrong : ChangeSpec := { name := "spanDays", fn := fun _ => fun
  | [d1, d2, d3] => { results := [.lit (.bool false)], args := [d1, d2, d3] }
  | _ => none }
def SpanDaysWrongFalsely : Prop := spanDaysRow.holds Try.pinned (OpenSpec.ofChange spanDaysWrong)

/-- 'tithinglaw05.SpanNormal': WHATEVER THE INPUT: true; the input reads as it did. -/
def spanNormalSpec : ChangeSpec := { name := "spanNormal", fn := fun _ => fun
  | [d1, d2] => { results := [.lit (.bool true)], args := [d1, d2] }
  | _ => none }
def spanNormalRow : OpenClaim := { program := "ytodkppeikpaclaa", sum := "cc42121519b09a505871da08dfa7499ade70a36c007db4cab1c426c5bf8b0016", func := "tithing/tithinglaw05.SpanNormal", spec := "spanNormal", unfollowed := true, recurses := true, apart := false }
def SpanNormalSaid : Prop := spanNormalRow.holds Try.pinned (OpenSpec.ofChange spanNormalSpec)

/-- ITS FALSE NEIGHBOUR: 'it returns false'. Refute it at one input. -/
def spanNormalWrong : ChangeSpec := { name := "spanNormal", fn := fun _ => fun
  | [d1, d2] => { results := [.lit (.bool false)], args := [d1, d2] }
  | _ => none }
def SpanNormalWrongFalsely : Prop := spanNormalRow.holds Try.pinned (OpenSpec.ofChange spanNormalWrong)

/-- 'tithinglaw05.SpanRules': WHATEVER THE INPUT: true; the input reads as it did. -/
def spanRulesSpec : ChangeSpec := { name := "spanRules", fn := fun _ => fun
  | [d1, d2] => { results := [.lit (.bool true)], args := [d1, d2] }
  | _ => none }
def spanRulesRow : OpenClaim := { program := "ytodkppeikpaclaa", sum := "cc42121519b09a505871da08dfa7499ade70a36c007db4cab1c426c5bf8b0016", func := "tithing/tithinglaw05.SpanRules", spec := "spanRules", unfollowed := true, recurses := true, apart := false }
def SpanRulesSaid : Prop := spanRulesRow.holds Try.pinned (OpenSpec.ofChange spanRulesSpec)

/-- ITS FALSE NEIGHBOUR: 'it returns false'. Refute it at one input. -/
def spanRulesWrong : ChangeSpec := { name := "spanRules", fn := fun _ => fun
  | [d1, d2] => { results := [.lit (.bool false)], args := [d1, d2] }
  | _ => none }
def SpanRulesWrongFalsely : Prop := spanRulesRow.holds Try.pinned (OpenSpec.ofChange spanRulesWrong)

/-- 'tithinglaw05.SpanMany': WHATEVER THE INPUT: true; the input reads as it did. -/
def spanManySpec : ChangeSpec := { name := "spanMany", fn := fun _ => fun
  | [d1, d2] => { results := [.lit (.bool true)], args := [d1, d2] }
  | _ => none }
def spanManyRow : OpenClaim := { program := "ytodkppeikpaclaa", sum := "cc42121519b09a505871da08dfa7499ade70a36c007db4cab1c426c5bf8b0016", func := "tithing/tithinglaw05.SpanMany", spec := "spanMany", unfollowed := true, recurses := true, apart := false }
def SpanManySaid : Prop := spanManyRow.holds Try.pinned (OpenSpec.ofChange spanManySpec)

/-- ITS FALSE NEIGHBOUR: 'it returns false'. Refute it at one input. -/
def spanManyWrong : ChangeSpec := { name := "spanMany", fn := fun _ => fun
  | [d1, d2] => { results := [.lit (.bool false)], args := [d1, d2] }
  | _ => none }
def SpanManyWrongFalsely : Prop := spanManyRow.holds Try.pinned (OpenSpec.ofChange spanManyWrong)

/-- 'tithinglaw05.SpanCounts': WHATEVER THE INPUT: true; the input reads as it did. -/
def spanCountsSpec : ChangeSpec := { name := "spanCounts", fn := fun _ => fun
  | [d1, d2, d3] => { results := [.lit (.bool true)], args := [d1, d2, d3] }
  | _ => none }
def spanCountsRow : OpenClaim := { program := "ytodkppeikpaclaa", sum := "cc42121519b09a505871da08dfa7499ade70a36c007db4cab1c426c5bf8b0016", func := "tithing/tithinglaw05.SpanCounts", spec := "spanCounts", unfollowed := true, recurses := true, apart := false }
def SpanCountsSaid : Prop := spanCountsRow.holds Try.pinned (OpenSpec.ofChange spanCountsSpec)

/-- ITS FALSE NEIGHBOUR: 'it returns false'. Refute it at one input. -/
def spanCountsWrong : ChangeSpec := { name := "spanCounts", fn := fun _ => fun
  | [d1, d2, d3] => { results := [.lit (.bool false)], args := [d1, d2, d3] }
  | _ => none }
def SpanCountsWrongFalsely : Prop := spanCountsRow.holds Try.pinned (OpenSpec.ofChange spanCountsWrong)

/-- 'tithinglaw05.SpanTerms': WHATEVER THE INPUT: true; the input reads as it did. -/
def spanTermsSpec : ChangeSpec := { name := "spanTerms", fn := fun _ => fun
  | [d1, d2, d3] => { results := [.lit (.bool true)], args := [d1, d2, d3] }
  | _ => none }
def spanTermsRow : OpenClaim := { program := "ytodkppeikpaclaa", sum := "cc42121519b09a505871da08dfa7499ade70a36c007db4cab1c426c5bf8b0016", func := "tithing/tithinglaw05.SpanTerms", spec := "spanTerms", unfollowed := true, recurses := true, apart := false }
def SpanTermsSaid : Prop := spanTermsRow.holds Try.pinned (OpenSpec.ofChange spanTermsSpec)

/-- ITS FALSE NEIGHBOUR: 'it returns false'. Refute it at one input. -/
def spanTermsWrong : ChangeSpec := { name := "spanTerms", fn := fun _ => fun
  | [d1, d2, d3] => { results := [.lit (.bool false)], args := [d1, d2, d3] }
  | _ => none }
def SpanTermsWrongFalsely : Prop := spanTermsRow.holds Try.pinned (OpenSpec.ofChange spanTermsWrong)

/-- 'tithinglaw05.SpanYears': WHATEVER THE INPUT: true; the input reads as it did. -/
def spanYearsSpec : ChangeSpec := { name := "spanYears", fn := fun _ => fun
  | [d1, d2] => { results := [.lit (.bool true)], args := [d1, d2] }
  | _ => none }
def spanYearsRow : OpenClaim := { program := "ytodkppeikpaclaa", sum := "cc42121519b09a505871da08dfa7499ade70a36c007db4cab1c426c5bf8b0016", func := "tithing/tithinglaw05.SpanYears", spec := "spanYears", unfollowed := true, recurses := true, apart := false }
def SpanYearsSaid : Prop := spanYearsRow.holds Try.pinned (OpenSpec.ofChange spanYearsSpec)

/-- ITS FALSE NEIGHBOUR: 'it returns false'. Refute it at one input. -/
def spanYearsWrong : ChangeSpec := { name := "spanYears", fn := fun _ => fun
  | [d1, d2] => { results := [.lit (.bool false)], args := [d1, d2] }
  | _ => none }
def SpanYearsWrongFalsely : Prop := spanYearsRow.holds Try.pinned (OpenSpec.ofChange spanYearsWrong)

/- THE SECOND FORM. 'bulk': how many values and letters a reading holds, each counted each time it is reached (what is shared counts as often as it is met; a slice's spare places count too). A statement '..UptoSaid' is the law's where the arguments, and the package variables that the reading takes, are together of bulk at most 1048576: NARROWER than '..Said'. Prove '..Said' where nothing that the law and all that it calls make is longer than what came in: it says more and counts as full. Else prove '..UptoSaid'. A law counts once. -/
mutual
def uptoBulk {H : Type} : DataW H → Nat
  | .lit (.string bytes) => bytes.length + 1
  | .lit _ => 1
  | .nil => 1
  | .ptr d => uptoBulk d + 1
  | .slice elems spare => uptoBulkAll elems + uptoBulkAll spare + 1
  | .agg parts => uptoBulkAll parts + 1
  | .iface _ d => uptoBulk d + 1
  | .map entries => uptoBulkEntries entries + 1
  | .held _ => 1
def uptoBulkAll {H : Type} : List (DataW H) → Nat
  | [] => 0
  | d :: r => uptoBulk d + uptoBulkAll r
def uptoBulkEntries {H : Type} : List (Lit × DataW H) → Nat
  | [] => 0
  | x :: r => uptoBulkEntry x + uptoBulkEntries r
def uptoBulkEntry {H : Type} : Lit × DataW H → Nat
  | (.string bytes, d) => bytes.length + uptoBulk d + 1
  | (_, d) => uptoBulk d + 1
 end
def uptoSmall : (H : Type) → List (DataW H) → Bool := fun _ ds => decide (uptoBulkAll ds ≤ 1048576)
def OpenSpec.upto (s : _root_.Go.ChangeSpec) : _root_.Go.OpenSpec := { _root_.Go.OpenSpec.ofChange s with cond := some uptoSmall }

/-- 'tithinglaw05.SpanSets', WHERE WHAT IT READS IS OF BULK AT MOST 1048576: true; the input reads as it did. -/
def spanSetsUptoRow : OpenClaim := { program := "ytodkppeikpaclaa", sum := "cc42121519b09a505871da08dfa7499ade70a36c007db4cab1c426c5bf8b0016", func := "tithing/tithinglaw05.SpanSets", spec := "spanSets", unfollowed := true, recurses := true, apart := false, narrowed := true }
def SpanSetsUptoSaid : Prop := spanSetsUptoRow.holds Try.pinned (OpenSpec.upto spanSetsSpec)

/-- 'tithinglaw05.SpanRaw', WHERE WHAT IT READS IS OF BULK AT MOST 1048576: true; the input reads as it did. -/
def spanRawUptoRow : OpenClaim := { program := "ytodkppeikpaclaa", sum := "cc42121519b09a505871da08dfa7499ade70a36c007db4cab1c426c5bf8b0016", func := "tithing/tithinglaw05.SpanRaw", spec := "spanRaw", unfollowed := true, recurses := true, apart := false, narrowed := true }
def SpanRawUptoSaid : Prop := spanRawUptoRow.holds Try.pinned (OpenSpec.upto spanRawSpec)

/-- 'tithinglaw05.SpanDays', WHERE WHAT IT READS IS OF BULK AT MOST 1048576: true; the input reads as it did. -/
def spanDaysUptoRow : OpenClaim := { program := "ytodkppeikpaclaa", sum := "cc42121519b09a505871da08dfa7499ade70a36c007db4cab1c426c5bf8b0016", func := "tithing/tithinglaw05.SpanDays", spec := "spanDays", unfollowed := true, recurses := true, apart := false, narrowed := true }
def SpanDaysUptoSaid : Prop := spanDaysUptoRow.holds Try.pinned (OpenSpec.upto spanDaysSpec)

/-- 'tithinglaw05.SpanNormal', WHERE WHAT IT READS IS OF BULK AT MOST 1048576: true; the input reads as it did. -/
def spanNormalUptoRow : OpenClaim := { program := "ytodkppeikpaclaa", sum := "cc42121519b09a505871da08dfa7499ade70a36c007db4cab1c426c5bf8b0016", func := "tithing/tithinglaw05.SpanNormal", spec := "spanNormal", unfollowed := true, recurses := true, apart := false, narrowed := true }
def SpanNormalUptoSaid : Prop := spanNormalUptoRow.holds Try.pinned (OpenSpec.upto spanNormalSpec)

/-- 'tithinglaw05.SpanRules', WHERE WHAT IT READS IS OF BULK AT MOST 1048576: true; the input reads as it did. -/
def spanRulesUptoRow : OpenClaim := { program := "ytodkppeikpaclaa", sum := "cc42121519b09a505871da08dfa7499ade70a36c007db4cab1c426c5bf8b0016", func := "tithing/tithinglaw05.SpanRules", spec := "spanRules", unfollowed := true, recurses := true, apart := false, narrowed := true }
def SpanRulesUptoSaid : Prop := spanRulesUptoRow.holds Try.pinned (OpenSpec.upto spanRulesSpec)

/-- 'tithinglaw05.SpanMany', WHERE WHAT IT READS IS OF BULK AT MOST 1048576: true; the input reads as it did. -/
def spanManyUptoRow : OpenClaim := { program := "ytodkppeikpaclaa", sum := "cc42121519b09a505871da08dfa7499ade70a36c007db4cab1c426c5bf8b0016", func := "tithing/tithinglaw05.SpanMany", spec := "spanMany", unfollowed := true, recurses := true, apart := false, narrowed := true }
def SpanManyUptoSaid : Prop := spanManyUptoRow.holds Try.pinned (OpenSpec.upto spanManySpec)

/-- 'tithinglaw05.SpanCounts', WHERE WHAT IT READS IS OF BULK AT MOST 1048576: true; the input reads as it did. -/
def spanCountsUptoRow : OpenClaim := { program := "ytodkppeikpaclaa", sum := "cc42121519b09a505871da08dfa7499ade70a36c007db4cab1c426c5bf8b0016", func := "tithing/tithinglaw05.SpanCounts", spec := "spanCounts", unfollowed := true, recurses := true, apart := false, narrowed := true }
def SpanCountsUptoSaid : Prop := spanCountsUptoRow.holds Try.pinned (OpenSpec.upto spanCountsSpec)

/-- 'tithinglaw05.SpanTerms', WHERE WHAT IT READS IS OF BULK AT MOST 1048576: true; the input reads as it did. -/
def spanTermsUptoRow : OpenClaim := { program := "ytodkppeikpaclaa", sum := "cc42121519b09a505871da08dfa7499ade70a36c007db4cab1c426c5bf8b0016", func := "tithing/tithinglaw05.SpanTerms", spec := "spanTerms", unfollowed := true, recurses := true, apart := false, narrowed := true }
def SpanTermsUptoSaid : Prop := spanTermsUptoRow.holds Try.pinned (OpenSpec.upto spanTermsSpec)

/-- 'tithinglaw05.SpanYears', WHERE WHAT IT READS IS OF BULK AT MOST 1048576: true; the input reads as it did. -/
def spanYearsUptoRow : OpenClaim := { program := "ytodkppeikpaclaa", sum := "cc42121519b09a505871da08dfa7499ade70a36c007db4cab1c426c5bf8b0016", func := "tithing/tithinglaw05.SpanYears", spec := "spanYears", unfollowed := true, recurses := true, apart := false, narrowed := true }
def SpanYearsUptoSaid : Prop := spanYearsUptoRow.holds Try.pinned (OpenSpec.upto spanYearsSpec)

end Rows
end Go.Proofs.Ytodkppeikpaclaa
