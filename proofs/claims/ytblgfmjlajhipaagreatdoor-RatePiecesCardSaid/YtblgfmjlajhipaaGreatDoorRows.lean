/-
  NARROWER THAN 'FOR EVERY INPUT', by the rows' own cells (each row's printed sentence says how): RateChecks: laid · RateAt: laid · RatePieces: laid · RateRises: laid · RateBack: laid · RateNorms: laid · RateForce: laid · RateOvers: laid · RateSums: laid.
  DERIVED. THE GIVEN ROWS OF THIS SEAT. 9 by the template 'for every input the law returns true; each argument reads behind the call as it read before'; 0 by the template 'total and deterministic' (their statements: YtblgfmjlajhipaaGreatDoorTotals.lean).
  GIVEN WITH THE SEED: the statements are not yours to turn. If you find one false, say at which input.
  Laid BY PROGRAM, IN A SANDBOX (cutbox-rows.mjs): the forced cells as the released guide's own fill.sh prints them over the translation 72659122b2764034… (all of the seat's roots in one cut). By AI agents, Wed Nov 11 2026. No macro, syntax, notation, axiom, sorry.
-/
import Derived.Test.YtblgfmjlajhipaaGreatDoorChecked
import GoSem.PinnedTables
import GoSem.Claim
import GoSem.ClaimJoined
import GoSem.ClaimMapViews
import Derived.JoinedTies
import Derived.KernelRfl
namespace Go.Proofs.YtblgfmjlajhipaaGreatDoor
/- THE CELL 'sum', in the pinned program and in every row, IS THE sha256 OF THE DUMP (.gsa) THAT YtblgfmjlajhipaaGreatDoorProg.lean LOADS. Nothing in Lean hashes anything: it is a label: what it is worth is what the hold of that sum in a sandbox is worth. -/
noncomputable def Tryz.pinned : Pinned := { name := "ytblgfmjlajhipaagreatdoor", sum := "72659122b27640342b2a5511a8887a087fdab333e16c0a35ede5df8bf9d30587", checked := Tryz.checked }
namespace Rows
def none {H : Type} : Left H := { results := [], args := [] }

/- WHAT THE LISTED PACKAGE-LEVEL VARIABLES READ AS WHEN THE CALL BEGINS. Each datum BY PROGRAM (the guide's laid-datum.mjs) off the statement by which the dump's own 'gosem.cut.vars' lays the variable. In a bare row this is a premise. The card (YtblgfmjlajhipaaGreatDoorCards.lean) ties it to the program's text. -/
def laid_unicode_utf8_acceptRanges {H : Type} : DataW H := .agg [.agg [.lit (.int .u8 128), .lit (.int .u8 191)], .agg [.lit (.int .u8 160), .lit (.int .u8 191)], .agg [.lit (.int .u8 128), .lit (.int .u8 159)], .agg [.lit (.int .u8 144), .lit (.int .u8 191)], .agg [.lit (.int .u8 128), .lit (.int .u8 143)], .agg [.lit (.int .u8 0), .lit (.int .u8 0)], .agg [.lit (.int .u8 0), .lit (.int .u8 0)], .agg [.lit (.int .u8 0), .lit (.int .u8 0)], .agg [.lit (.int .u8 0), .lit (.int .u8 0)], .agg [.lit (.int .u8 0), .lit (.int .u8 0)], .agg [.lit (.int .u8 0), .lit (.int .u8 0)], .agg [.lit (.int .u8 0), .lit (.int .u8 0)], .agg [.lit (.int .u8 0), .lit (.int .u8 0)], .agg [.lit (.int .u8 0), .lit (.int .u8 0)], .agg [.lit (.int .u8 0), .lit (.int .u8 0)], .agg [.lit (.int .u8 0), .lit (.int .u8 0)]]
/-- One of Go's own tables, pinned by name: the form's constant. -/
def laid_unicode_utf8_first : DataW Unit := Go.Pinned.utf8First

/-- 'tithinglaw06.RateChecks': WHATEVER THE INPUT: true; the input reads as it did. -/
def rateChecksSpec : ChangeSpec := { name := "rateChecks", fn := fun _ => fun
  | [d1, d2] => { results := [.lit (.bool true)], args := [d1, d2] }
  | _ => none }
def rateChecksRow : OpenClaim := { program := "ytblgfmjlajhipaagreatdoor", sum := "72659122b27640342b2a5511a8887a087fdab333e16c0a35ede5df8bf9d30587", func := "tithing/tithinglaw06.RateChecks", spec := "rateChecks", inPlace := ["internal/bytealg.IndexByteString", "internal/bytealg.IndexString"], unfollowed := true, recurses := true, named := ["unicode/utf8.first", "unicode/utf8.acceptRanges", "internal/bytealg.MaxLen"], apart := false, laid := [("unicode/utf8.acceptRanges", laid_unicode_utf8_acceptRanges), ("unicode/utf8.first", laid_unicode_utf8_first)] }
def RateChecksSaid : Prop := rateChecksRow.holds Tryz.pinned (OpenSpec.ofChange rateChecksSpec)

/-- ITS FALSE NEIGHBOUR: 'it returns false'. Refute it at one input. -/
def rateChecksWrong : ChangeSpec := { name := "rateChecks", fn := fun _ => fun
  | [d1, d2] => { results := [.lit (.bool false)], args := [d1, d2] }
  | _ => none }
def RateChecksWrongFalsely : Prop := rateChecksRow.holds Tryz.pinned (OpenSpec.ofChange rateChecksWrong)

/-- 'tithinglaw06.RateAt': WHATEVER THE INPUT: true; the input reads as it did. -/
def rateAtSpec : ChangeSpec := { name := "rateAt", fn := fun _ => fun
  | [d1, d2, d3] => { results := [.lit (.bool true)], args := [d1, d2, d3] }
  | _ => none }
def rateAtRow : OpenClaim := { program := "ytblgfmjlajhipaagreatdoor", sum := "72659122b27640342b2a5511a8887a087fdab333e16c0a35ede5df8bf9d30587", func := "tithing/tithinglaw06.RateAt", spec := "rateAt", inPlace := ["internal/bytealg.IndexByteString", "internal/bytealg.IndexString"], unfollowed := true, recurses := true, named := ["unicode/utf8.first", "unicode/utf8.acceptRanges", "internal/bytealg.MaxLen"], apart := false, laid := [("unicode/utf8.acceptRanges", laid_unicode_utf8_acceptRanges), ("unicode/utf8.first", laid_unicode_utf8_first)] }
def RateAtSaid : Prop := rateAtRow.holds Tryz.pinned (OpenSpec.ofChange rateAtSpec)

/-- ITS FALSE NEIGHBOUR: 'it returns false'. Refute it at one input. -/
def rateAtWrong : ChangeSpec := { name := "rateAt", fn := fun _ => fun
  | [d1, d2, d3] => { results := [.lit (.bool false)], args := [d1, d2, d3] }
  | _ => none }
def RateAtWrongFalsely : Prop := rateAtRow.holds Tryz.pinned (OpenSpec.ofChange rateAtWrong)

/-- 'tithinglaw06.RatePieces': WHATEVER THE INPUT: true; the input reads as it did. -/
def ratePiecesSpec : ChangeSpec := { name := "ratePieces", fn := fun _ => fun
  | [d1, d2, d3] => { results := [.lit (.bool true)], args := [d1, d2, d3] }
  | _ => none }
def ratePiecesRow : OpenClaim := { program := "ytblgfmjlajhipaagreatdoor", sum := "72659122b27640342b2a5511a8887a087fdab333e16c0a35ede5df8bf9d30587", func := "tithing/tithinglaw06.RatePieces", spec := "ratePieces", inPlace := ["internal/bytealg.IndexByteString", "internal/bytealg.IndexString"], unfollowed := true, recurses := true, named := ["unicode/utf8.first", "unicode/utf8.acceptRanges", "internal/bytealg.MaxLen"], apart := false, laid := [("unicode/utf8.acceptRanges", laid_unicode_utf8_acceptRanges), ("unicode/utf8.first", laid_unicode_utf8_first)] }
def RatePiecesSaid : Prop := ratePiecesRow.holds Tryz.pinned (OpenSpec.ofChange ratePiecesSpec)

/-- ITS FALSE NEIGHBOUR: 'it returns false'. Refute it at one input. -/
def ratePiecesWrong : ChangeSpec := { name := "ratePieces", fn := fun _ => fun
  | [d1, d2, d3] => { results := [.lit (.bool false)], args := [d1, d2, d3] }
  | _ => none }
def RatePiecesWrongFalsely : Prop := ratePiecesRow.holds Tryz.pinned (OpenSpec.ofChange ratePiecesWrong)

/-- 'tithinglaw06.RateRises': WHATEVER THE INPUT: true; the input reads as it did. -/
def rateRisesSpec : ChangeSpec := { name := "rateRises", fn := fun _ => fun
  | [d1, d2, d3] => { results := [.lit (.bool true)], args := [d1, d2, d3] }
  | _ => none }
def rateRisesRow : OpenClaim := { program := "ytblgfmjlajhipaagreatdoor", sum := "72659122b27640342b2a5511a8887a087fdab333e16c0a35ede5df8bf9d30587", func := "tithing/tithinglaw06.RateRises", spec := "rateRises", inPlace := ["internal/bytealg.IndexByteString", "internal/bytealg.IndexString"], unfollowed := true, recurses := true, named := ["unicode/utf8.first", "unicode/utf8.acceptRanges", "internal/bytealg.MaxLen"], apart := false, laid := [("unicode/utf8.acceptRanges", laid_unicode_utf8_acceptRanges), ("unicode/utf8.first", laid_unicode_utf8_first)] }
def RateRisesSaid : Prop := rateRisesRow.holds Tryz.pinned (OpenSpec.ofChange rateRisesSpec)

/-- ITS FALSE NEIGHBOUR: 'it returns false'. Refute it at one input. -/
def rateRisesWrong : ChangeSpec := { name := "rateRises", fn := fun _ => fun
  | [d1, d2, d3] => { results := [.lit (.bool false)], args := [d1, d2, d3] }
  | _ => none }
def RateRisesWrongFalsely : Prop := rateRisesRow.holds Tryz.pinned (OpenSpec.ofChange rateRisesWrong)

/-- 'tithinglaw06.RateBack': WHATEVER THE INPUT: true; the input reads as it did. -/
def rateBackSpec : ChangeSpec := { name := "rateBack", fn := fun _ => fun
  | [d1, d2, d3] => { results := [.lit (.bool true)], args := [d1, d2, d3] }
  | _ => none }
def rateBackRow : OpenClaim := { program := "ytblgfmjlajhipaagreatdoor", sum := "72659122b27640342b2a5511a8887a087fdab333e16c0a35ede5df8bf9d30587", func := "tithing/tithinglaw06.RateBack", spec := "rateBack", inPlace := ["internal/bytealg.IndexByteString", "internal/bytealg.IndexString"], unfollowed := true, recurses := true, named := ["unicode/utf8.first", "unicode/utf8.acceptRanges", "internal/bytealg.MaxLen"], apart := false, laid := [("unicode/utf8.acceptRanges", laid_unicode_utf8_acceptRanges), ("unicode/utf8.first", laid_unicode_utf8_first)] }
def RateBackSaid : Prop := rateBackRow.holds Tryz.pinned (OpenSpec.ofChange rateBackSpec)

/-- ITS FALSE NEIGHBOUR: 'it returns false'. Refute it at one input. -/
def rateBackWrong : ChangeSpec := { name := "rateBack", fn := fun _ => fun
  | [d1, d2, d3] => { results := [.lit (.bool false)], args := [d1, d2, d3] }
  | _ => none }
def RateBackWrongFalsely : Prop := rateBackRow.holds Tryz.pinned (OpenSpec.ofChange rateBackWrong)

/-- 'tithinglaw06.RateNorms': WHATEVER THE INPUT: true; the input reads as it did. -/
def rateNormsSpec : ChangeSpec := { name := "rateNorms", fn := fun _ => fun
  | [d1, d2, d3] => { results := [.lit (.bool true)], args := [d1, d2, d3] }
  | _ => none }
def rateNormsRow : OpenClaim := { program := "ytblgfmjlajhipaagreatdoor", sum := "72659122b27640342b2a5511a8887a087fdab333e16c0a35ede5df8bf9d30587", func := "tithing/tithinglaw06.RateNorms", spec := "rateNorms", inPlace := ["internal/bytealg.IndexByteString", "internal/bytealg.IndexString"], unfollowed := true, recurses := true, named := ["unicode/utf8.first", "unicode/utf8.acceptRanges", "internal/bytealg.MaxLen"], apart := false, laid := [("unicode/utf8.acceptRanges", laid_unicode_utf8_acceptRanges), ("unicode/utf8.first", laid_unicode_utf8_first)] }
def RateNormsSaid : Prop := rateNormsRow.holds Tryz.pinned (OpenSpec.ofChange rateNormsSpec)

/-- ITS FALSE NEIGHBOUR: 'it returns false'. Refute it at one input. -/
def rateNormsWrong : ChangeSpec := { name := "rateNorms", fn := fun _ => fun
  | [d1, d2, d3] => { results := [.lit (.bool false)], args := [d1, d2, d3] }
  | _ => none }
def RateNormsWrongFalsely : Prop := rateNormsRow.holds Tryz.pinned (OpenSpec.ofChange rateNormsWrong)

/-- 'tithinglaw06.RateForce': WHATEVER THE INPUT: true; the input reads as it did. -/
def rateForceSpec : ChangeSpec := { name := "rateForce", fn := fun _ => fun
  | [d1, d2, d3] => { results := [.lit (.bool true)], args := [d1, d2, d3] }
  | _ => none }
def rateForceRow : OpenClaim := { program := "ytblgfmjlajhipaagreatdoor", sum := "72659122b27640342b2a5511a8887a087fdab333e16c0a35ede5df8bf9d30587", func := "tithing/tithinglaw06.RateForce", spec := "rateForce", inPlace := ["internal/bytealg.IndexByteString", "internal/bytealg.IndexString"], unfollowed := true, recurses := true, named := ["unicode/utf8.first", "unicode/utf8.acceptRanges", "internal/bytealg.MaxLen"], apart := false, laid := [("unicode/utf8.acceptRanges", laid_unicode_utf8_acceptRanges), ("unicode/utf8.first", laid_unicode_utf8_first)] }
def RateForceSaid : Prop := rateForceRow.holds Tryz.pinned (OpenSpec.ofChange rateForceSpec)

/-- ITS FALSE NEIGHBOUR: 'it returns false'. Refute it at one input. -/
def rateForceWrong : ChangeSpec := { name := "rateForce", fn := fun _ => fun
  | [d1, d2, d3] => { results := [.lit (.bool false)], args := [d1, d2, d3] }
  | _ => none }
def RateForceWrongFalsely : Prop := rateForceRow.holds Tryz.pinned (OpenSpec.ofChange rateForceWrong)

/-- 'tithinglaw06.RateOvers': WHATEVER THE INPUT: true; the input reads as it did. -/
def rateOversSpec : ChangeSpec := { name := "rateOvers", fn := fun _ => fun
  | [d1, d2, d3] => { results := [.lit (.bool true)], args := [d1, d2, d3] }
  | _ => none }
def rateOversRow : OpenClaim := { program := "ytblgfmjlajhipaagreatdoor", sum := "72659122b27640342b2a5511a8887a087fdab333e16c0a35ede5df8bf9d30587", func := "tithing/tithinglaw06.RateOvers", spec := "rateOvers", inPlace := ["internal/bytealg.IndexByteString", "internal/bytealg.IndexString"], unfollowed := true, recurses := true, named := ["unicode/utf8.first", "unicode/utf8.acceptRanges", "internal/bytealg.MaxLen"], apart := false, laid := [("unicode/utf8.acceptRanges", laid_unicode_utf8_acceptRanges), ("unicode/utf8.first", laid_unicode_utf8_first)] }
def RateOversSaid : Prop := rateOversRow.holds Tryz.pinned (OpenSpec.ofChange rateOversSpec)

/-- ITS FALSE NEIGHBOUR: 'it returns false'. Refute it at one input. -/
def rateOversWrong : ChangeSpec := { name := "rateOvers", fn := fun _ => fun
  | [d1, d2, d3] => { results := [.lit (.bool false)], args := [d1, d2, d3] }
  | _ => none }
def RateOversWrongFalsely : Prop := rateOversRow.holds Tryz.pinned (OpenSpec.ofChange rateOversWrong)

/-- 'tithinglaw06.RateSums': WHATEVER THE INPUT: true; the input reads as it did. -/
def rateSumsSpec : ChangeSpec := { name := "rateSums", fn := fun _ => fun
  | [d1, d2, d3] => { results := [.lit (.bool true)], args := [d1, d2, d3] }
  | _ => none }
def rateSumsRow : OpenClaim := { program := "ytblgfmjlajhipaagreatdoor", sum := "72659122b27640342b2a5511a8887a087fdab333e16c0a35ede5df8bf9d30587", func := "tithing/tithinglaw06.RateSums", spec := "rateSums", inPlace := ["internal/bytealg.IndexByteString", "internal/bytealg.IndexString"], unfollowed := true, recurses := true, named := ["unicode/utf8.first", "unicode/utf8.acceptRanges", "internal/bytealg.MaxLen"], apart := false, laid := [("unicode/utf8.acceptRanges", laid_unicode_utf8_acceptRanges), ("unicode/utf8.first", laid_unicode_utf8_first)] }
def RateSumsSaid : Prop := rateSumsRow.holds Tryz.pinned (OpenSpec.ofChange rateSumsSpec)

/-- ITS FALSE NEIGHBOUR: 'it returns false'. Refute it at one input. -/
def rateSumsWrong : ChangeSpec := { name := "rateSums", fn := fun _ => fun
  | [d1, d2, d3] => { results := [.lit (.bool false)], args := [d1, d2, d3] }
  | _ => none }
def RateSumsWrongFalsely : Prop := rateSumsRow.holds Tryz.pinned (OpenSpec.ofChange rateSumsWrong)

/- THE SECOND FORM. 'bulk': how many values and letters a reading holds, each counted each time it is reached (what is shared counts as often as it is met; a slice's spare places count too). A statement '..UptoSaid' is the law's where the arguments, and the package variables that the reading takes, are together of bulk at most 1048576: NARROWER than '..Said'. Prove '..Said' where nothing that the law and all that it calls make is longer than what came in: it says more and counts as full. Else prove '..UptoSaid'. A law counts once. -/
mutual
def uptoBulk {H : Type} : DataW H → Nat
  | .lit (.string bytes) => bytes.length + 1
  | .lit _ => 1
  | .nil => 1
  | .ptr d => uptoBulk d + 1
  | .slice elems spare => uptoBulkAll elems + uptoBulkAll spare + 1
  | .agg parts => uptoBulkAll parts + 1
  | .iface _ d => uptoBulk d + 1
  | .map entries => uptoBulkEntries entries + 1
  | .held _ => 1
def uptoBulkAll {H : Type} : List (DataW H) → Nat
  | [] => 0
  | d :: r => uptoBulk d + uptoBulkAll r
def uptoBulkEntries {H : Type} : List (Lit × DataW H) → Nat
  | [] => 0
  | x :: r => uptoBulkEntry x + uptoBulkEntries r
def uptoBulkEntry {H : Type} : Lit × DataW H → Nat
  | (.string bytes, d) => bytes.length + uptoBulk d + 1
  | (_, d) => uptoBulk d + 1
 end
def uptoSmall : (H : Type) → List (DataW H) → Bool := fun _ ds => decide (uptoBulkAll ds ≤ 1048576)
def OpenSpec.upto (s : _root_.Go.ChangeSpec) : _root_.Go.OpenSpec := { _root_.Go.OpenSpec.ofChange s with cond := some uptoSmall }

/-- 'tithinglaw06.RateChecks', WHERE WHAT IT READS IS OF BULK AT MOST 1048576: true; the input reads as it did. -/
def rateChecksUptoRow : OpenClaim := { program := "ytblgfmjlajhipaagreatdoor", sum := "72659122b27640342b2a5511a8887a087fdab333e16c0a35ede5df8bf9d30587", func := "tithing/tithinglaw06.RateChecks", spec := "rateChecks", inPlace := ["internal/bytealg.IndexByteString", "internal/bytealg.IndexString"], unfollowed := true, recurses := true, named := ["unicode/utf8.first", "unicode/utf8.acceptRanges", "internal/bytealg.MaxLen"], apart := false, laid := [("unicode/utf8.acceptRanges", laid_unicode_utf8_acceptRanges), ("unicode/utf8.first", laid_unicode_utf8_first)], narrowed := true }
def RateChecksUptoSaid : Prop := rateChecksUptoRow.holds Tryz.pinned (OpenSpec.upto rateChecksSpec)

/-- 'tithinglaw06.RateAt', WHERE WHAT IT READS IS OF BULK AT MOST 1048576: true; the input reads as it did. -/
def rateAtUptoRow : OpenClaim := { program := "ytblgfmjlajhipaagreatdoor", sum := "72659122b27640342b2a5511a8887a087fdab333e16c0a35ede5df8bf9d30587", func := "tithing/tithinglaw06.RateAt", spec := "rateAt", inPlace := ["internal/bytealg.IndexByteString", "internal/bytealg.IndexString"], unfollowed := true, recurses := true, named := ["unicode/utf8.first", "unicode/utf8.acceptRanges", "internal/bytealg.MaxLen"], apart := false, laid := [("unicode/utf8.acceptRanges", laid_unicode_utf8_acceptRanges), ("unicode/utf8.first", laid_unicode_utf8_first)], narrowed := true }
def RateAtUptoSaid : Prop := rateAtUptoRow.holds Tryz.pinned (OpenSpec.upto rateAtSpec)

/-- 'tithinglaw06.RatePieces', WHERE WHAT IT READS IS OF BULK AT MOST 1048576: true; the input reads as it did. -/
def ratePiecesUptoRow : OpenClaim := { program := "ytblgfmjlajhipaagreatdoor", sum := "72659122b27640342b2a5511a8887a087fdab333e16c0a35ede5df8bf9d30587", func := "tithing/tithinglaw06.RatePieces", spec := "ratePieces", inPlace := ["internal/bytealg.IndexByteString", "internal/bytealg.IndexString"], unfollowed := true, recurses := true, named := ["unicode/utf8.first", "unicode/utf8.acceptRanges", "internal/bytealg.MaxLen"], apart := false, laid := [("unicode/utf8.acceptRanges", laid_unicode_utf8_acceptRanges), ("unicode/utf8.first", laid_unicode_utf8_first)], narrowed := true }
def RatePiecesUptoSaid : Prop := ratePiecesUptoRow.holds Tryz.pinned (OpenSpec.upto ratePiecesSpec)

/-- 'tithinglaw06.RateRises', WHERE WHAT IT READS IS OF BULK AT MOST 1048576: true; the input reads as it did. -/
def rateRisesUptoRow : OpenClaim := { program := "ytblgfmjlajhipaagreatdoor", sum := "72659122b27640342b2a5511a8887a087fdab333e16c0a35ede5df8bf9d30587", func := "tithing/tithinglaw06.RateRises", spec := "rateRises", inPlace := ["internal/bytealg.IndexByteString", "internal/bytealg.IndexString"], unfollowed := true, recurses := true, named := ["unicode/utf8.first", "unicode/utf8.acceptRanges", "internal/bytealg.MaxLen"], apart := false, laid := [("unicode/utf8.acceptRanges", laid_unicode_utf8_acceptRanges), ("unicode/utf8.first", laid_unicode_utf8_first)], narrowed := true }
def RateRisesUptoSaid : Prop := rateRisesUptoRow.holds Tryz.pinned (OpenSpec.upto rateRisesSpec)

/-- 'tithinglaw06.RateBack', WHERE WHAT IT READS IS OF BULK AT MOST 1048576: true; the input reads as it did. -/
def rateBackUptoRow : OpenClaim := { program := "ytblgfmjlajhipaagreatdoor", sum := "72659122b27640342b2a5511a8887a087fdab333e16c0a35ede5df8bf9d30587", func := "tithing/tithinglaw06.RateBack", spec := "rateBack", inPlace := ["internal/bytealg.IndexByteString", "internal/bytealg.IndexString"], unfollowed := true, recurses := true, named := ["unicode/utf8.first", "unicode/utf8.acceptRanges", "internal/bytealg.MaxLen"], apart := false, laid := [("unicode/utf8.acceptRanges", laid_unicode_utf8_acceptRanges), ("unicode/utf8.first", laid_unicode_utf8_first)], narrowed := true }
def RateBackUptoSaid : Prop := rateBackUptoRow.holds Tryz.pinned (OpenSpec.upto rateBackSpec)

/-- 'tithinglaw06.RateNorms', WHERE WHAT IT READS IS OF BULK AT MOST 1048576: true; the input reads as it did. -/
def rateNormsUptoRow : OpenClaim := { program := "ytblgfmjlajhipaagreatdoor", sum := "72659122b27640342b2a5511a8887a087fdab333e16c0a35ede5df8bf9d30587", func := "tithing/tithinglaw06.RateNorms", spec := "rateNorms", inPlace := ["internal/bytealg.IndexByteString", "internal/bytealg.IndexString"], unfollowed := true, recurses := true, named := ["unicode/utf8.first", "unicode/utf8.acceptRanges", "internal/bytealg.MaxLen"], apart := false, laid := [("unicode/utf8.acceptRanges", laid_unicode_utf8_acceptRanges), ("unicode/utf8.first", laid_unicode_utf8_first)], narrowed := true }
def RateNormsUptoSaid : Prop := rateNormsUptoRow.holds Tryz.pinned (OpenSpec.upto rateNormsSpec)

/-- 'tithinglaw06.RateForce', WHERE WHAT IT READS IS OF BULK AT MOST 1048576: true; the input reads as it did. -/
def rateForceUptoRow : OpenClaim := { program := "ytblgfmjlajhipaagreatdoor", sum := "72659122b27640342b2a5511a8887a087fdab333e16c0a35ede5df8bf9d30587", func := "tithing/tithinglaw06.RateForce", spec := "rateForce", inPlace := ["internal/bytealg.IndexByteString", "internal/bytealg.IndexString"], unfollowed := true, recurses := true, named := ["unicode/utf8.first", "unicode/utf8.acceptRanges", "internal/bytealg.MaxLen"], apart := false, laid := [("unicode/utf8.acceptRanges", laid_unicode_utf8_acceptRanges), ("unicode/utf8.first", laid_unicode_utf8_first)], narrowed := true }
def RateForceUptoSaid : Prop := rateForceUptoRow.holds Tryz.pinned (OpenSpec.upto rateForceSpec)

/-- 'tithinglaw06.RateOvers', WHERE WHAT IT READS IS OF BULK AT MOST 1048576: true; the input reads as it did. -/
def rateOversUptoRow : OpenClaim := { program := "ytblgfmjlajhipaagreatdoor", sum := "72659122b27640342b2a5511a8887a087fdab333e16c0a35ede5df8bf9d30587", func := "tithing/tithinglaw06.RateOvers", spec := "rateOvers", inPlace := ["internal/bytealg.IndexByteString", "internal/bytealg.IndexString"], unfollowed := true, recurses := true, named := ["unicode/utf8.first", "unicode/utf8.acceptRanges", "internal/bytealg.MaxLen"], apart := false, laid := [("unicode/utf8.acceptRanges", laid_unicode_utf8_acceptRanges), ("unicode/utf8.first", laid_unicode_utf8_first)], narrowed := true }
def RateOversUptoSaid : Prop := rateOversUptoRow.holds Tryz.pinned (OpenSpec.upto rateOversSpec)

/-- 'tithinglaw06.RateSums', WHERE WHAT IT READS IS OF BULK AT MOST 1048576: true; the input reads as it did. -/
def rateSumsUptoRow : OpenClaim := { program := "ytblgfmjlajhipaagreatdoor", sum := "72659122b27640342b2a5511a8887a087fdab333e16c0a35ede5df8bf9d30587", func := "tithing/tithinglaw06.RateSums", spec := "rateSums", inPlace := ["internal/bytealg.IndexByteString", "internal/bytealg.IndexString"], unfollowed := true, recurses := true, named := ["unicode/utf8.first", "unicode/utf8.acceptRanges", "internal/bytealg.MaxLen"], apart := false, laid := [("unicode/utf8.acceptRanges", laid_unicode_utf8_acceptRanges), ("unicode/utf8.first", laid_unicode_utf8_first)], narrowed := true }
def RateSumsUptoSaid : Prop := rateSumsUptoRow.holds Tryz.pinned (OpenSpec.upto rateSumsSpec)

end Rows
end Go.Proofs.YtblgfmjlajhipaaGreatDoor
