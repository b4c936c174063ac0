/-
  NARROWER THAN 'FOR EVERY INPUT', by the rows' own cells (each row's printed sentence says how): FnExactEnded: laid · FnExactNoted: laid · FnExactLogged: laid · FnExactLogOf: laid · FnLogFull: laid.
  DERIVED. THE GIVEN ROWS OF THIS SEAT. 5 by the template 'for every input the law returns true; each argument reads behind the call as it read before'; 0 by the template 'total and deterministic' (their statements: YtngccjeicolcpaaGreatDoorTotals.lean).
  GIVEN WITH THE SEED: the statements are not yours to turn. If you find one false, say at which input.
  Laid BY PROGRAM, IN A SANDBOX (cutbox-rows.mjs): the forced cells as the released guide's own fill.sh prints them over the translation c7840e46a14b44e9… (all of the seat's roots in one cut). By AI agents, Wed Nov 11 2026. No macro, syntax, notation, axiom, sorry.
-/
import Derived.Test.YtngccjeicolcpaaGreatDoorChecked
import GoSem.PinnedTables
import GoSem.Claim
import GoSem.ClaimJoined
import GoSem.ClaimMapViews
import Derived.JoinedTies
import Derived.KernelRfl
namespace Go.Proofs.YtngccjeicolcpaaGreatDoor
/- THE CELL 'sum', in the pinned program and in every row, IS THE sha256 OF THE DUMP (.gsa) THAT YtngccjeicolcpaaGreatDoorProg.lean LOADS. Nothing in Lean hashes anything: it is a label: what it is worth is what the hold of that sum in a sandbox is worth. -/
noncomputable def Tryz.pinned : Pinned := { name := "ytngccjeicolcpaagreatdoor", sum := "c7840e46a14b44e922778ce13d5bbf38c151a51301ccd8208f22ef223bafbe72", checked := Tryz.checked }
namespace Rows
def none {H : Type} : Left H := { results := [], args := [] }

/- WHAT THE LISTED PACKAGE-LEVEL VARIABLES READ AS WHEN THE CALL BEGINS. Each datum BY PROGRAM (the guide's laid-datum.mjs) off the statement by which the dump's own 'gosem.cut.vars' lays the variable. In a bare row this is a premise. The card (YtngccjeicolcpaaGreatDoorCards.lean) ties it to the program's text. -/
def laid_unicode_utf8_acceptRanges {H : Type} : DataW H := .agg [.agg [.lit (.int .u8 128), .lit (.int .u8 191)], .agg [.lit (.int .u8 160), .lit (.int .u8 191)], .agg [.lit (.int .u8 128), .lit (.int .u8 159)], .agg [.lit (.int .u8 144), .lit (.int .u8 191)], .agg [.lit (.int .u8 128), .lit (.int .u8 143)], .agg [.lit (.int .u8 0), .lit (.int .u8 0)], .agg [.lit (.int .u8 0), .lit (.int .u8 0)], .agg [.lit (.int .u8 0), .lit (.int .u8 0)], .agg [.lit (.int .u8 0), .lit (.int .u8 0)], .agg [.lit (.int .u8 0), .lit (.int .u8 0)], .agg [.lit (.int .u8 0), .lit (.int .u8 0)], .agg [.lit (.int .u8 0), .lit (.int .u8 0)], .agg [.lit (.int .u8 0), .lit (.int .u8 0)], .agg [.lit (.int .u8 0), .lit (.int .u8 0)], .agg [.lit (.int .u8 0), .lit (.int .u8 0)], .agg [.lit (.int .u8 0), .lit (.int .u8 0)]]
/-- One of Go's own tables, pinned by name: the form's constant. -/
def laid_unicode_utf8_first : DataW Unit := Go.Pinned.utf8First

/-- 'laws.FnExactEnded': WHATEVER THE INPUT: true; the input reads as it did. -/
def fnExactEndedSpec : ChangeSpec := { name := "fnExactEnded", fn := fun _ => fun
  | [d1, d2] => { results := [.lit (.bool true)], args := [d1, d2] }
  | _ => none }
def fnExactEndedRow : OpenClaim := { program := "ytngccjeicolcpaagreatdoor", sum := "c7840e46a14b44e922778ce13d5bbf38c151a51301ccd8208f22ef223bafbe72", func := "loop.example/g00648/laws.FnExactEnded", spec := "fnExactEnded", inPlace := ["internal/bytealg.IndexByteString", "internal/bytealg.IndexString", "internal/abi.NoEscape", "internal/bytealg.MakeNoZero", "slices.overlaps[loop.example/g00648/impl.Line]"], unfollowed := true, recurses := true, named := ["unicode/utf8.first", "unicode/utf8.acceptRanges", "internal/bytealg.MaxLen"], apart := false, laid := [("unicode/utf8.acceptRanges", laid_unicode_utf8_acceptRanges), ("unicode/utf8.first", laid_unicode_utf8_first)] }
def FnExactEndedSaid : Prop := fnExactEndedRow.holds Tryz.pinned (OpenSpec.ofChange fnExactEndedSpec)

/-- ITS FALSE NEIGHBOUR: 'it returns false'. Refute it at one input. -/
def fnExactEndedWrong : ChangeSpec := { name := "fnExactEnded", fn := fun _ => fun
  | [d1, d2] => { results := [.lit (.bool false)], args := [d1, d2] }
  | _ => none }
def FnExactEndedWrongFalsely : Prop := fnExactEndedRow.holds Tryz.pinned (OpenSpec.ofChange fnExactEndedWrong)

/-- 'laws.FnExactNoted': WHATEVER THE INPUT: true; the input reads as it did. -/
def fnExactNotedSpec : ChangeSpec := { name := "fnExactNoted", fn := fun _ => fun
  | [d1, d2, d3] => { results := [.lit (.bool true)], args := [d1, d2, d3] }
  | _ => none }
def fnExactNotedRow : OpenClaim := { program := "ytngccjeicolcpaagreatdoor", sum := "c7840e46a14b44e922778ce13d5bbf38c151a51301ccd8208f22ef223bafbe72", func := "loop.example/g00648/laws.FnExactNoted", spec := "fnExactNoted", inPlace := ["internal/bytealg.IndexByteString", "internal/bytealg.IndexString", "internal/abi.NoEscape", "internal/bytealg.MakeNoZero", "slices.overlaps[loop.example/g00648/impl.Line]"], unfollowed := true, recurses := true, named := ["unicode/utf8.first", "unicode/utf8.acceptRanges", "internal/bytealg.MaxLen"], apart := false, laid := [("unicode/utf8.acceptRanges", laid_unicode_utf8_acceptRanges), ("unicode/utf8.first", laid_unicode_utf8_first)] }
def FnExactNotedSaid : Prop := fnExactNotedRow.holds Tryz.pinned (OpenSpec.ofChange fnExactNotedSpec)

/-- ITS FALSE NEIGHBOUR: 'it returns false'. Refute it at one input. -/
def fnExactNotedWrong : ChangeSpec := { name := "fnExactNoted", fn := fun _ => fun
  | [d1, d2, d3] => { results := [.lit (.bool false)], args := [d1, d2, d3] }
  | _ => none }
def FnExactNotedWrongFalsely : Prop := fnExactNotedRow.holds Tryz.pinned (OpenSpec.ofChange fnExactNotedWrong)

/-- 'laws.FnExactLogged': WHATEVER THE INPUT: true; the input reads as it did. -/
def fnExactLoggedSpec : ChangeSpec := { name := "fnExactLogged", fn := fun _ => fun
  | [d1, d2, d3, d4] => { results := [.lit (.bool true)], args := [d1, d2, d3, d4] }
  | _ => none }
def fnExactLoggedRow : OpenClaim := { program := "ytngccjeicolcpaagreatdoor", sum := "c7840e46a14b44e922778ce13d5bbf38c151a51301ccd8208f22ef223bafbe72", func := "loop.example/g00648/laws.FnExactLogged", spec := "fnExactLogged", inPlace := ["internal/bytealg.IndexByteString", "internal/bytealg.IndexString", "internal/abi.NoEscape", "internal/bytealg.MakeNoZero", "slices.overlaps[loop.example/g00648/impl.Line]"], unfollowed := true, recurses := true, named := ["unicode/utf8.first", "unicode/utf8.acceptRanges", "internal/bytealg.MaxLen"], apart := false, laid := [("unicode/utf8.acceptRanges", laid_unicode_utf8_acceptRanges), ("unicode/utf8.first", laid_unicode_utf8_first)] }
def FnExactLoggedSaid : Prop := fnExactLoggedRow.holds Tryz.pinned (OpenSpec.ofChange fnExactLoggedSpec)

/-- ITS FALSE NEIGHBOUR: 'it returns false'. Refute it at one input. -/
def fnExactLoggedWrong : ChangeSpec := { name := "fnExactLogged", fn := fun _ => fun
  | [d1, d2, d3, d4] => { results := [.lit (.bool false)], args := [d1, d2, d3, d4] }
  | _ => none }
def FnExactLoggedWrongFalsely : Prop := fnExactLoggedRow.holds Tryz.pinned (OpenSpec.ofChange fnExactLoggedWrong)

/-- 'laws.FnExactLogOf': WHATEVER THE INPUT: true; the input reads as it did. -/
def fnExactLogOfSpec : ChangeSpec := { name := "fnExactLogOf", fn := fun _ => fun
  | [d1, d2] => { results := [.lit (.bool true)], args := [d1, d2] }
  | _ => none }
def fnExactLogOfRow : OpenClaim := { program := "ytngccjeicolcpaagreatdoor", sum := "c7840e46a14b44e922778ce13d5bbf38c151a51301ccd8208f22ef223bafbe72", func := "loop.example/g00648/laws.FnExactLogOf", spec := "fnExactLogOf", inPlace := ["internal/bytealg.IndexByteString", "internal/bytealg.IndexString", "internal/abi.NoEscape", "internal/bytealg.MakeNoZero"], unfollowed := true, recurses := true, named := ["unicode/utf8.first", "unicode/utf8.acceptRanges", "internal/bytealg.MaxLen"], apart := false, laid := [("unicode/utf8.acceptRanges", laid_unicode_utf8_acceptRanges), ("unicode/utf8.first", laid_unicode_utf8_first)] }
def FnExactLogOfSaid : Prop := fnExactLogOfRow.holds Tryz.pinned (OpenSpec.ofChange fnExactLogOfSpec)

/-- ITS FALSE NEIGHBOUR: 'it returns false'. Refute it at one input. -/
def fnExactLogOfWrong : ChangeSpec := { name := "fnExactLogOf", fn := fun _ => fun
  | [d1, d2] => { results := [.lit (.bool false)], args := [d1, d2] }
  | _ => none }
def FnExactLogOfWrongFalsely : Prop := fnExactLogOfRow.holds Tryz.pinned (OpenSpec.ofChange fnExactLogOfWrong)

/-- 'laws.FnLogFull': WHATEVER THE INPUT: true; the input reads as it did. -/
def fnLogFullSpec : ChangeSpec := { name := "fnLogFull", fn := fun _ => fun
  | [d] => { results := [.lit (.bool true)], args := [d] }
  | _ => none }
def fnLogFullRow : OpenClaim := { program := "ytngccjeicolcpaagreatdoor", sum := "c7840e46a14b44e922778ce13d5bbf38c151a51301ccd8208f22ef223bafbe72", func := "loop.example/g00648/laws.FnLogFull", spec := "fnLogFull", inPlace := ["internal/bytealg.IndexByteString", "internal/bytealg.IndexString", "internal/abi.NoEscape", "internal/bytealg.MakeNoZero", "slices.overlaps[loop.example/g00648/impl.Line]"], unfollowed := true, recurses := true, named := ["unicode/utf8.first", "unicode/utf8.acceptRanges", "internal/bytealg.MaxLen"], apart := false, laid := [("unicode/utf8.acceptRanges", laid_unicode_utf8_acceptRanges), ("unicode/utf8.first", laid_unicode_utf8_first)] }
def FnLogFullSaid : Prop := fnLogFullRow.holds Tryz.pinned (OpenSpec.ofChange fnLogFullSpec)

/-- ITS FALSE NEIGHBOUR: 'it returns false'. Refute it at one input. -/
def fnLogFullWrong : ChangeSpec := { name := "fnLogFull", fn := fun _ => fun
  | [d] => { results := [.lit (.bool false)], args := [d] }
  | _ => none }
def FnLogFullWrongFalsely : Prop := fnLogFullRow.holds Tryz.pinned (OpenSpec.ofChange fnLogFullWrong)

/- THE SECOND FORM. 'bulk': how many values and letters a reading holds, each counted each time it is reached (what is shared counts as often as it is met; a slice's spare places count too). A statement '..UptoSaid' is the law's where the arguments, and the package variables that the reading takes, are together of bulk at most 1048576: NARROWER than '..Said'. Prove '..Said' where nothing that the law and all that it calls make is longer than what came in: it says more and counts as full. Else prove '..UptoSaid'. A law counts once. -/
mutual
def uptoBulk {H : Type} : DataW H → Nat
  | .lit (.string bytes) => bytes.length + 1
  | .lit _ => 1
  | .nil => 1
  | .ptr d => uptoBulk d + 1
  | .slice elems spare => uptoBulkAll elems + uptoBulkAll spare + 1
  | .agg parts => uptoBulkAll parts + 1
  | .iface _ d => uptoBulk d + 1
  | .map entries => uptoBulkEntries entries + 1
  | .held _ => 1
def uptoBulkAll {H : Type} : List (DataW H) → Nat
  | [] => 0
  | d :: r => uptoBulk d + uptoBulkAll r
def uptoBulkEntries {H : Type} : List (Lit × DataW H) → Nat
  | [] => 0
  | x :: r => uptoBulkEntry x + uptoBulkEntries r
def uptoBulkEntry {H : Type} : Lit × DataW H → Nat
  | (.string bytes, d) => bytes.length + uptoBulk d + 1
  | (_, d) => uptoBulk d + 1
 end
def uptoSmall : (H : Type) → List (DataW H) → Bool := fun _ ds => decide (uptoBulkAll ds ≤ 1048576)
def OpenSpec.upto (s : _root_.Go.ChangeSpec) : _root_.Go.OpenSpec := { _root_.Go.OpenSpec.ofChange s with cond := some uptoSmall }

/-- 'laws.FnExactEnded', WHERE WHAT IT READS IS OF BULK AT MOST 1048576: true; the input reads as it did. -/
def fnExactEndedUptoRow : OpenClaim := { program := "ytngccjeicolcpaagreatdoor", sum := "c7840e46a14b44e922778ce13d5bbf38c151a51301ccd8208f22ef223bafbe72", func := "loop.example/g00648/laws.FnExactEnded", spec := "fnExactEnded", inPlace := ["internal/bytealg.IndexByteString", "internal/bytealg.IndexString", "internal/abi.NoEscape", "internal/bytealg.MakeNoZero", "slices.overlaps[loop.example/g00648/impl.Line]"], unfollowed := true, recurses := true, named := ["unicode/utf8.first", "unicode/utf8.acceptRanges", "internal/bytealg.MaxLen"], apart := false, laid := [("unicode/utf8.acceptRanges", laid_unicode_utf8_acceptRanges), ("unicode/utf8.first", laid_unicode_utf8_first)], narrowed := true }
def FnExactEndedUptoSaid : Prop := fnExactEndedUptoRow.holds Tryz.pinned (OpenSpec.upto fnExactEndedSpec)

/-- 'laws.FnExactNoted', WHERE WHAT IT READS IS OF BULK AT MOST 1048576: true; the input reads as it did. -/
def fnExactNotedUptoRow : OpenClaim := { program := "ytngccjeicolcpaagreatdoor", sum := "c7840e46a14b44e922778ce13d5bbf38c151a51301ccd8208f22ef223bafbe72", func := "loop.example/g00648/laws.FnExactNoted", spec := "fnExactNoted", inPlace := ["internal/bytealg.IndexByteString", "internal/bytealg.IndexString", "internal/abi.NoEscape", "internal/bytealg.MakeNoZero", "slices.overlaps[loop.example/g00648/impl.Line]"], unfollowed := true, recurses := true, named := ["unicode/utf8.first", "unicode/utf8.acceptRanges", "internal/bytealg.MaxLen"], apart := false, laid := [("unicode/utf8.acceptRanges", laid_unicode_utf8_acceptRanges), ("unicode/utf8.first", laid_unicode_utf8_first)], narrowed := true }
def FnExactNotedUptoSaid : Prop := fnExactNotedUptoRow.holds Tryz.pinned (OpenSpec.upto fnExactNotedSpec)

/-- 'laws.FnExactLogged', WHERE WHAT IT READS IS OF BULK AT MOST 1048576: true; the input reads as it did. -/
def fnExactLoggedUptoRow : OpenClaim := { program := "ytngccjeicolcpaagreatdoor", sum := "c7840e46a14b44e922778ce13d5bbf38c151a51301ccd8208f22ef223bafbe72", func := "loop.example/g00648/laws.FnExactLogged", spec := "fnExactLogged", inPlace := ["internal/bytealg.IndexByteString", "internal/bytealg.IndexString", "internal/abi.NoEscape", "internal/bytealg.MakeNoZero", "slices.overlaps[loop.example/g00648/impl.Line]"], unfollowed := true, recurses := true, named := ["unicode/utf8.first", "unicode/utf8.acceptRanges", "internal/bytealg.MaxLen"], apart := false, laid := [("unicode/utf8.acceptRanges", laid_unicode_utf8_acceptRanges), ("unicode/utf8.first", laid_unicode_utf8_first)], narrowed := true }
def FnExactLoggedUptoSaid : Prop := fnExactLoggedUptoRow.holds Tryz.pinned (OpenSpec.upto fnExactLoggedSpec)

/-- 'laws.FnExactLogOf', WHERE WHAT IT READS IS OF BULK AT MOST 1048576: true; the input reads as it did. -/
def fnExactLogOfUptoRow : OpenClaim := { program := "ytngccjeicolcpaagreatdoor", sum := "c7840e46a14b44e922778ce13d5bbf38c151a51301ccd8208f22ef223bafbe72", func := "loop.example/g00648/laws.FnExactLogOf", spec := "fnExactLogOf", inPlace := ["internal/bytealg.IndexByteString", "internal/bytealg.IndexString", "internal/abi.NoEscape", "internal/bytealg.MakeNoZero"], unfollowed := true, recurses := true, named := ["unicode/utf8.first", "unicode/utf8.acceptRanges", "internal/bytealg.MaxLen"], apart := false, laid := [("unicode/utf8.acceptRanges", laid_unicode_utf8_acceptRanges), ("unicode/utf8.first", laid_unicode_utf8_first)], narrowed := true }
def FnExactLogOfUptoSaid : Prop := fnExactLogOfUptoRow.holds Tryz.pinned (OpenSpec.upto fnExactLogOfSpec)

/-- 'laws.FnLogFull', WHERE WHAT IT READS IS OF BULK AT MOST 1048576: true; the input reads as it did. -/
def fnLogFullUptoRow : OpenClaim := { program := "ytngccjeicolcpaagreatdoor", sum := "c7840e46a14b44e922778ce13d5bbf38c151a51301ccd8208f22ef223bafbe72", func := "loop.example/g00648/laws.FnLogFull", spec := "fnLogFull", inPlace := ["internal/bytealg.IndexByteString", "internal/bytealg.IndexString", "internal/abi.NoEscape", "internal/bytealg.MakeNoZero", "slices.overlaps[loop.example/g00648/impl.Line]"], unfollowed := true, recurses := true, named := ["unicode/utf8.first", "unicode/utf8.acceptRanges", "internal/bytealg.MaxLen"], apart := false, laid := [("unicode/utf8.acceptRanges", laid_unicode_utf8_acceptRanges), ("unicode/utf8.first", laid_unicode_utf8_first)], narrowed := true }
def FnLogFullUptoSaid : Prop := fnLogFullUptoRow.holds Tryz.pinned (OpenSpec.upto fnLogFullSpec)

end Rows
end Go.Proofs.YtngccjeicolcpaaGreatDoor
