/-
  NARROWER THAN 'FOR EVERY INPUT', by the rows' own cells (each row's printed sentence says how): FnExactRunOf: laid · FnExactTypesOk: laid · FnRuns: laid · FnExactConfigOk: laid · FnExactFirstData: laid · FnExactObjOk: laid · FnExactForwarded: laid · FnExactObjectBytes: laid · FnExactSuperLine: laid · FnExactFormat: laid · FnExactEpochOf: laid · FnExactReadObject: laid · FnExactReadSuper: laid · FnFormats: laid · FnSupers: laid.
  DERIVED. THE GIVEN ROWS OF THIS SEAT. 15 by the template 'for every input the law returns true; each argument reads behind the call as it read before'; 0 by the template 'total and deterministic' (their statements: YtknllhfhcgahiaaDoorTotals.lean).
  GIVEN WITH THE SEED: the statements are not yours to turn. If you find one false, say at which input.
  Laid BY PROGRAM, IN A SANDBOX (cutbox-rows.mjs): the forced cells as the released guide's own fill.sh prints them over the translation 1d99270290ab8818… (all of the seat's roots in one cut). By AI agents, Wed Nov 11 2026. No macro, syntax, notation, axiom, sorry.
-/
import Derived.Test.YtknllhfhcgahiaaDoorChecked
import GoSem.PinnedTables
import GoSem.Claim
import GoSem.ClaimJoined
import GoSem.ClaimMapViews
import Derived.JoinedTies
import Derived.KernelRfl
namespace Go.Proofs.YtknllhfhcgahiaaDoor
/- THE CELL 'sum', in the pinned program and in every row, IS THE sha256 OF THE DUMP (.gsa) THAT YtknllhfhcgahiaaDoorProg.lean LOADS. Nothing in Lean hashes anything: it is a label: what it is worth is what the hold of that sum in a sandbox is worth. -/
noncomputable def Tryd.pinned : Pinned := { name := "ytknllhfhcgahiaadoor", sum := "1d99270290ab8818033ded5db48465d631afcd3b801d2176690f72199ba674f2", checked := Tryd.checked }
namespace Rows
def none {H : Type} : Left H := { results := [], args := [] }

/- WHAT THE LISTED PACKAGE-LEVEL VARIABLES READ AS WHEN THE CALL BEGINS. Each datum BY PROGRAM (the guide's laid-datum.mjs) off the statement by which the dump's own 'gosem.cut.vars' lays the variable. In a bare row this is a premise. The card (YtknllhfhcgahiaaDoorCards.lean) ties it to the program's text. -/
def laid_unicode_utf8_acceptRanges {H : Type} : DataW H := .agg [.agg [.lit (.int .u8 128), .lit (.int .u8 191)], .agg [.lit (.int .u8 160), .lit (.int .u8 191)], .agg [.lit (.int .u8 128), .lit (.int .u8 159)], .agg [.lit (.int .u8 144), .lit (.int .u8 191)], .agg [.lit (.int .u8 128), .lit (.int .u8 143)], .agg [.lit (.int .u8 0), .lit (.int .u8 0)], .agg [.lit (.int .u8 0), .lit (.int .u8 0)], .agg [.lit (.int .u8 0), .lit (.int .u8 0)], .agg [.lit (.int .u8 0), .lit (.int .u8 0)], .agg [.lit (.int .u8 0), .lit (.int .u8 0)], .agg [.lit (.int .u8 0), .lit (.int .u8 0)], .agg [.lit (.int .u8 0), .lit (.int .u8 0)], .agg [.lit (.int .u8 0), .lit (.int .u8 0)], .agg [.lit (.int .u8 0), .lit (.int .u8 0)], .agg [.lit (.int .u8 0), .lit (.int .u8 0)], .agg [.lit (.int .u8 0), .lit (.int .u8 0)]]
/-- One of Go's own tables, pinned by name: the form's constant. -/
def laid_unicode_utf8_first : DataW Unit := Go.Pinned.utf8First

/-- 'laws.FnExactRunOf': WHATEVER THE INPUT: true; the input reads as it did. -/
def fnExactRunOfSpec : ChangeSpec := { name := "fnExactRunOf", fn := fun _ => fun
  | [d] => { results := [.lit (.bool true)], args := [d] }
  | _ => none }
def fnExactRunOfRow : OpenClaim := { program := "ytknllhfhcgahiaadoor", sum := "1d99270290ab8818033ded5db48465d631afcd3b801d2176690f72199ba674f2", func := "loop.example/g00648/laws.FnExactRunOf", spec := "fnExactRunOf", inPlace := ["internal/bytealg.IndexByteString", "internal/bytealg.IndexString"], named := ["unicode/utf8.first", "unicode/utf8.acceptRanges", "internal/bytealg.MaxLen"], apart := false, laid := [("unicode/utf8.acceptRanges", laid_unicode_utf8_acceptRanges), ("unicode/utf8.first", laid_unicode_utf8_first)] }
def FnExactRunOfSaid : Prop := fnExactRunOfRow.holds Tryd.pinned (OpenSpec.ofChange fnExactRunOfSpec)

/-- ITS FALSE NEIGHBOUR: 'it returns false'. Refute it at one input. -/
def fnExactRunOfWrong : ChangeSpec := { name := "fnExactRunOf", fn := fun _ => fun
  | [d] => { results := [.lit (.bool false)], args := [d] }
  | _ => none }
def FnExactRunOfWrongFalsely : Prop := fnExactRunOfRow.holds Tryd.pinned (OpenSpec.ofChange fnExactRunOfWrong)

/-- 'laws.FnExactTypesOk': WHATEVER THE INPUT: true; the input reads as it did. -/
def fnExactTypesOkSpec : ChangeSpec := { name := "fnExactTypesOk", fn := fun _ => fun
  | [d] => { results := [.lit (.bool true)], args := [d] }
  | _ => none }
def fnExactTypesOkRow : OpenClaim := { program := "ytknllhfhcgahiaadoor", sum := "1d99270290ab8818033ded5db48465d631afcd3b801d2176690f72199ba674f2", func := "loop.example/g00648/laws.FnExactTypesOk", spec := "fnExactTypesOk", inPlace := ["internal/bytealg.IndexByteString", "internal/bytealg.IndexString"], unfollowed := true, recurses := true, named := ["unicode/utf8.first", "unicode/utf8.acceptRanges", "internal/bytealg.MaxLen"], apart := false, laid := [("unicode/utf8.acceptRanges", laid_unicode_utf8_acceptRanges), ("unicode/utf8.first", laid_unicode_utf8_first)] }
def FnExactTypesOkSaid : Prop := fnExactTypesOkRow.holds Tryd.pinned (OpenSpec.ofChange fnExactTypesOkSpec)

/-- ITS FALSE NEIGHBOUR: 'it returns false'. Refute it at one input. -/
def fnExactTypesOkWrong : ChangeSpec := { name := "fnExactTypesOk", fn := fun _ => fun
  | [d] => { results := [.lit (.bool false)], args := [d] }
  | _ => none }
def FnExactTypesOkWrongFalsely : Prop := fnExactTypesOkRow.holds Tryd.pinned (OpenSpec.ofChange fnExactTypesOkWrong)

/-- 'laws.FnRuns': WHATEVER THE INPUT: true; the input reads as it did. -/
def fnRunsSpec : ChangeSpec := { name := "fnRuns", fn := fun _ => fun
  | [d] => { results := [.lit (.bool true)], args := [d] }
  | _ => none }
def fnRunsRow : OpenClaim := { program := "ytknllhfhcgahiaadoor", sum := "1d99270290ab8818033ded5db48465d631afcd3b801d2176690f72199ba674f2", func := "loop.example/g00648/laws.FnRuns", spec := "fnRuns", inPlace := ["internal/bytealg.IndexByteString", "internal/bytealg.IndexString"], named := ["unicode/utf8.first", "unicode/utf8.acceptRanges", "internal/bytealg.MaxLen"], apart := false, laid := [("unicode/utf8.acceptRanges", laid_unicode_utf8_acceptRanges), ("unicode/utf8.first", laid_unicode_utf8_first)] }
def FnRunsSaid : Prop := fnRunsRow.holds Tryd.pinned (OpenSpec.ofChange fnRunsSpec)

/-- ITS FALSE NEIGHBOUR: 'it returns false'. Refute it at one input. -/
def fnRunsWrong : ChangeSpec := { name := "fnRuns", fn := fun _ => fun
  | [d] => { results := [.lit (.bool false)], args := [d] }
  | _ => none }
def FnRunsWrongFalsely : Prop := fnRunsRow.holds Tryd.pinned (OpenSpec.ofChange fnRunsWrong)

/-- 'laws.FnExactConfigOk': WHATEVER THE INPUT: true; the input reads as it did. -/
def fnExactConfigOkSpec : ChangeSpec := { name := "fnExactConfigOk", fn := fun _ => fun
  | [d] => { results := [.lit (.bool true)], args := [d] }
  | _ => none }
def fnExactConfigOkRow : OpenClaim := { program := "ytknllhfhcgahiaadoor", sum := "1d99270290ab8818033ded5db48465d631afcd3b801d2176690f72199ba674f2", func := "loop.example/g00648/laws.FnExactConfigOk", spec := "fnExactConfigOk", inPlace := ["internal/bytealg.IndexByteString", "internal/bytealg.IndexString"], unfollowed := true, recurses := true, named := ["unicode/utf8.first", "unicode/utf8.acceptRanges", "internal/bytealg.MaxLen"], apart := false, laid := [("unicode/utf8.acceptRanges", laid_unicode_utf8_acceptRanges), ("unicode/utf8.first", laid_unicode_utf8_first)] }
def FnExactConfigOkSaid : Prop := fnExactConfigOkRow.holds Tryd.pinned (OpenSpec.ofChange fnExactConfigOkSpec)

/-- ITS FALSE NEIGHBOUR: 'it returns false'. Refute it at one input. -/
def fnExactConfigOkWrong : ChangeSpec := { name := "fnExactConfigOk", fn := fun _ => fun
  | [d] => { results := [.lit (.bool false)], args := [d] }
  | _ => none }
def FnExactConfigOkWrongFalsely : Prop := fnExactConfigOkRow.holds Tryd.pinned (OpenSpec.ofChange fnExactConfigOkWrong)

/-- 'laws.FnExactFirstData': WHATEVER THE INPUT: true; the input reads as it did. -/
def fnExactFirstDataSpec : ChangeSpec := { name := "fnExactFirstData", fn := fun _ => fun
  | [d] => { results := [.lit (.bool true)], args := [d] }
  | _ => none }
def fnExactFirstDataRow : OpenClaim := { program := "ytknllhfhcgahiaadoor", sum := "1d99270290ab8818033ded5db48465d631afcd3b801d2176690f72199ba674f2", func := "loop.example/g00648/laws.FnExactFirstData", spec := "fnExactFirstData", inPlace := ["internal/bytealg.IndexByteString", "internal/bytealg.IndexString"], unfollowed := true, recurses := true, named := ["unicode/utf8.first", "unicode/utf8.acceptRanges", "internal/bytealg.MaxLen"], apart := false, laid := [("unicode/utf8.acceptRanges", laid_unicode_utf8_acceptRanges), ("unicode/utf8.first", laid_unicode_utf8_first)] }
def FnExactFirstDataSaid : Prop := fnExactFirstDataRow.holds Tryd.pinned (OpenSpec.ofChange fnExactFirstDataSpec)

/-- ITS FALSE NEIGHBOUR: 'it returns false'. Refute it at one input. -/
def fnExactFirstDataWrong : ChangeSpec := { name := "fnExactFirstData", fn := fun _ => fun
  | [d] => { results := [.lit (.bool false)], args := [d] }
  | _ => none }
def FnExactFirstDataWrongFalsely : Prop := fnExactFirstDataRow.holds Tryd.pinned (OpenSpec.ofChange fnExactFirstDataWrong)

/-- 'laws.FnExactObjOk': WHATEVER THE INPUT: true; the input reads as it did. -/
def fnExactObjOkSpec : ChangeSpec := { name := "fnExactObjOk", fn := fun _ => fun
  | [d1, d2] => { results := [.lit (.bool true)], args := [d1, d2] }
  | _ => none }
def fnExactObjOkRow : OpenClaim := { program := "ytknllhfhcgahiaadoor", sum := "1d99270290ab8818033ded5db48465d631afcd3b801d2176690f72199ba674f2", func := "loop.example/g00648/laws.FnExactObjOk", spec := "fnExactObjOk", inPlace := ["internal/bytealg.IndexByteString", "internal/bytealg.IndexString"], unfollowed := true, recurses := true, named := ["unicode/utf8.first", "unicode/utf8.acceptRanges", "internal/bytealg.MaxLen"], apart := false, laid := [("unicode/utf8.acceptRanges", laid_unicode_utf8_acceptRanges), ("unicode/utf8.first", laid_unicode_utf8_first)] }
def FnExactObjOkSaid : Prop := fnExactObjOkRow.holds Tryd.pinned (OpenSpec.ofChange fnExactObjOkSpec)

/-- ITS FALSE NEIGHBOUR: 'it returns false'. Refute it at one input. -/
def fnExactObjOkWrong : ChangeSpec := { name := "fnExactObjOk", fn := fun _ => fun
  | [d1, d2] => { results := [.lit (.bool false)], args := [d1, d2] }
  | _ => none }
def FnExactObjOkWrongFalsely : Prop := fnExactObjOkRow.holds Tryd.pinned (OpenSpec.ofChange fnExactObjOkWrong)

/-- 'laws.FnExactForwarded': WHATEVER THE INPUT: true; the input reads as it did. -/
def fnExactForwardedSpec : ChangeSpec := { name := "fnExactForwarded", fn := fun _ => fun
  | [d1, d2, d3, d4] => { results := [.lit (.bool true)], args := [d1, d2, d3, d4] }
  | _ => none }
def fnExactForwardedRow : OpenClaim := { program := "ytknllhfhcgahiaadoor", sum := "1d99270290ab8818033ded5db48465d631afcd3b801d2176690f72199ba674f2", func := "loop.example/g00648/laws.FnExactForwarded", spec := "fnExactForwarded", inPlace := ["internal/bytealg.IndexByteString", "internal/bytealg.IndexString"], unfollowed := true, recurses := true, named := ["unicode/utf8.first", "unicode/utf8.acceptRanges", "internal/bytealg.MaxLen"], apart := false, laid := [("unicode/utf8.acceptRanges", laid_unicode_utf8_acceptRanges), ("unicode/utf8.first", laid_unicode_utf8_first)] }
def FnExactForwardedSaid : Prop := fnExactForwardedRow.holds Tryd.pinned (OpenSpec.ofChange fnExactForwardedSpec)

/-- ITS FALSE NEIGHBOUR: 'it returns false'. Refute it at one input. -/
def fnExactForwardedWrong : ChangeSpec := { name := "fnExactForwarded", fn := fun _ => fun
  | [d1, d2, d3, d4] => { results := [.lit (.bool false)], args := [d1, d2, d3, d4] }
  | _ => none }
def FnExactForwardedWrongFalsely : Prop := fnExactForwardedRow.holds Tryd.pinned (OpenSpec.ofChange fnExactForwardedWrong)

/-- 'laws.FnExactObjectBytes': WHATEVER THE INPUT: true; the input reads as it did. -/
def fnExactObjectBytesSpec : ChangeSpec := { name := "fnExactObjectBytes", fn := fun _ => fun
  | [d1, d2] => { results := [.lit (.bool true)], args := [d1, d2] }
  | _ => none }
def fnExactObjectBytesRow : OpenClaim := { program := "ytknllhfhcgahiaadoor", sum := "1d99270290ab8818033ded5db48465d631afcd3b801d2176690f72199ba674f2", func := "loop.example/g00648/laws.FnExactObjectBytes", spec := "fnExactObjectBytes", inPlace := ["internal/bytealg.IndexByteString", "internal/bytealg.IndexString", "internal/abi.NoEscape", "internal/bytealg.MakeNoZero"], unfollowed := true, recurses := true, named := ["unicode/utf8.first", "unicode/utf8.acceptRanges", "internal/bytealg.MaxLen"], apart := false, laid := [("unicode/utf8.acceptRanges", laid_unicode_utf8_acceptRanges), ("unicode/utf8.first", laid_unicode_utf8_first)] }
def FnExactObjectBytesSaid : Prop := fnExactObjectBytesRow.holds Tryd.pinned (OpenSpec.ofChange fnExactObjectBytesSpec)

/-- ITS FALSE NEIGHBOUR: 'it returns false'. Refute it at one input. -/
def fnExactObjectBytesWrong : ChangeSpec := { name := "fnExactObjectBytes", fn := fun _ => fun
  | [d1, d2] => { results := [.lit (.bool false)], args := [d1, d2] }
  | _ => none }
def FnExactObjectBytesWrongFalsely : Prop := fnExactObjectBytesRow.holds Tryd.pinned (OpenSpec.ofChange fnExactObjectBytesWrong)

/-- 'laws.FnExactSuperLine': WHATEVER THE INPUT: true; the input reads as it did. -/
def fnExactSuperLineSpec : ChangeSpec := { name := "fnExactSuperLine", fn := fun _ => fun
  | [d] => { results := [.lit (.bool true)], args := [d] }
  | _ => none }
def fnExactSuperLineRow : OpenClaim := { program := "ytknllhfhcgahiaadoor", sum := "1d99270290ab8818033ded5db48465d631afcd3b801d2176690f72199ba674f2", func := "loop.example/g00648/laws.FnExactSuperLine", spec := "fnExactSuperLine", inPlace := ["internal/bytealg.IndexByteString", "internal/bytealg.IndexString", "internal/abi.NoEscape", "internal/bytealg.MakeNoZero"], unfollowed := true, recurses := true, named := ["unicode/utf8.first", "unicode/utf8.acceptRanges", "internal/bytealg.MaxLen"], apart := false, laid := [("unicode/utf8.acceptRanges", laid_unicode_utf8_acceptRanges), ("unicode/utf8.first", laid_unicode_utf8_first)] }
def FnExactSuperLineSaid : Prop := fnExactSuperLineRow.holds Tryd.pinned (OpenSpec.ofChange fnExactSuperLineSpec)

/-- ITS FALSE NEIGHBOUR: 'it returns false'. Refute it at one input. -/
def fnExactSuperLineWrong : ChangeSpec := { name := "fnExactSuperLine", fn := fun _ => fun
  | [d] => { results := [.lit (.bool false)], args := [d] }
  | _ => none }
def FnExactSuperLineWrongFalsely : Prop := fnExactSuperLineRow.holds Tryd.pinned (OpenSpec.ofChange fnExactSuperLineWrong)

/-- 'laws.FnExactFormat': WHATEVER THE INPUT: true; the input reads as it did. -/
def fnExactFormatSpec : ChangeSpec := { name := "fnExactFormat", fn := fun _ => fun
  | [d] => { results := [.lit (.bool true)], args := [d] }
  | _ => none }
def fnExactFormatRow : OpenClaim := { program := "ytknllhfhcgahiaadoor", sum := "1d99270290ab8818033ded5db48465d631afcd3b801d2176690f72199ba674f2", func := "loop.example/g00648/laws.FnExactFormat", spec := "fnExactFormat", inPlace := ["internal/bytealg.IndexByteString", "internal/bytealg.IndexString", "internal/abi.NoEscape", "internal/bytealg.MakeNoZero"], unfollowed := true, recurses := true, named := ["unicode/utf8.first", "unicode/utf8.acceptRanges", "internal/bytealg.MaxLen"], apart := false, laid := [("unicode/utf8.acceptRanges", laid_unicode_utf8_acceptRanges), ("unicode/utf8.first", laid_unicode_utf8_first)] }
def FnExactFormatSaid : Prop := fnExactFormatRow.holds Tryd.pinned (OpenSpec.ofChange fnExactFormatSpec)

/-- ITS FALSE NEIGHBOUR: 'it returns false'. Refute it at one input. -/
def fnExactFormatWrong : ChangeSpec := { name := "fnExactFormat", fn := fun _ => fun
  | [d] => { results := [.lit (.bool false)], args := [d] }
  | _ => none }
def FnExactFormatWrongFalsely : Prop := fnExactFormatRow.holds Tryd.pinned (OpenSpec.ofChange fnExactFormatWrong)

/-- 'laws.FnExactEpochOf': WHATEVER THE INPUT: true; the input reads as it did. -/
def fnExactEpochOfSpec : ChangeSpec := { name := "fnExactEpochOf", fn := fun _ => fun
  | [d1, d2] => { results := [.lit (.bool true)], args := [d1, d2] }
  | _ => none }
def fnExactEpochOfRow : OpenClaim := { program := "ytknllhfhcgahiaadoor", sum := "1d99270290ab8818033ded5db48465d631afcd3b801d2176690f72199ba674f2", func := "loop.example/g00648/laws.FnExactEpochOf", spec := "fnExactEpochOf", inPlace := ["internal/bytealg.IndexByteString", "internal/bytealg.IndexString", "internal/abi.NoEscape", "internal/bytealg.MakeNoZero"], unfollowed := true, recurses := true, named := ["unicode/utf8.first", "unicode/utf8.acceptRanges", "internal/bytealg.MaxLen"], apart := false, laid := [("unicode/utf8.acceptRanges", laid_unicode_utf8_acceptRanges), ("unicode/utf8.first", laid_unicode_utf8_first)] }
def FnExactEpochOfSaid : Prop := fnExactEpochOfRow.holds Tryd.pinned (OpenSpec.ofChange fnExactEpochOfSpec)

/-- ITS FALSE NEIGHBOUR: 'it returns false'. Refute it at one input. -/
def fnExactEpochOfWrong : ChangeSpec := { name := "fnExactEpochOf", fn := fun _ => fun
  | [d1, d2] => { results := [.lit (.bool false)], args := [d1, d2] }
  | _ => none }
def FnExactEpochOfWrongFalsely : Prop := fnExactEpochOfRow.holds Tryd.pinned (OpenSpec.ofChange fnExactEpochOfWrong)

/-- 'laws.FnExactReadObject': WHATEVER THE INPUT: true; the input reads as it did. -/
def fnExactReadObjectSpec : ChangeSpec := { name := "fnExactReadObject", fn := fun _ => fun
  | [d1, d2] => { results := [.lit (.bool true)], args := [d1, d2] }
  | _ => none }
def fnExactReadObjectRow : OpenClaim := { program := "ytknllhfhcgahiaadoor", sum := "1d99270290ab8818033ded5db48465d631afcd3b801d2176690f72199ba674f2", func := "loop.example/g00648/laws.FnExactReadObject", spec := "fnExactReadObject", inPlace := ["internal/bytealg.IndexByteString", "internal/bytealg.IndexString", "internal/abi.NoEscape", "internal/bytealg.MakeNoZero"], unfollowed := true, recurses := true, named := ["unicode/utf8.first", "unicode/utf8.acceptRanges", "internal/bytealg.MaxLen"], apart := false, laid := [("unicode/utf8.acceptRanges", laid_unicode_utf8_acceptRanges), ("unicode/utf8.first", laid_unicode_utf8_first)] }
def FnExactReadObjectSaid : Prop := fnExactReadObjectRow.holds Tryd.pinned (OpenSpec.ofChange fnExactReadObjectSpec)

/-- ITS FALSE NEIGHBOUR: 'it returns false'. Refute it at one input. -/
def fnExactReadObjectWrong : ChangeSpec := { name := "fnExactReadObject", fn := fun _ => fun
  | [d1, d2] => { results := [.lit (.bool false)], args := [d1, d2] }
  | _ => none }
def FnExactReadObjectWrongFalsely : Prop := fnExactReadObjectRow.holds Tryd.pinned (OpenSpec.ofChange fnExactReadObjectWrong)

/-- 'laws.FnExactReadSuper': WHATEVER THE INPUT: true; the input reads as it did. -/
def fnExactReadSuperSpec : ChangeSpec := { name := "fnExactReadSuper", fn := fun _ => fun
  | [d] => { results := [.lit (.bool true)], args := [d] }
  | _ => none }
def fnExactReadSuperRow : OpenClaim := { program := "ytknllhfhcgahiaadoor", sum := "1d99270290ab8818033ded5db48465d631afcd3b801d2176690f72199ba674f2", func := "loop.example/g00648/laws.FnExactReadSuper", spec := "fnExactReadSuper", inPlace := ["internal/bytealg.IndexByteString", "internal/bytealg.IndexString", "internal/abi.NoEscape", "internal/bytealg.MakeNoZero"], unfollowed := true, recurses := true, named := ["unicode/utf8.first", "unicode/utf8.acceptRanges", "internal/bytealg.MaxLen"], apart := false, laid := [("unicode/utf8.acceptRanges", laid_unicode_utf8_acceptRanges), ("unicode/utf8.first", laid_unicode_utf8_first)] }
def FnExactReadSuperSaid : Prop := fnExactReadSuperRow.holds Tryd.pinned (OpenSpec.ofChange fnExactReadSuperSpec)

/-- ITS FALSE NEIGHBOUR: 'it returns false'. Refute it at one input. -/
def fnExactReadSuperWrong : ChangeSpec := { name := "fnExactReadSuper", fn := fun _ => fun
  | [d] => { results := [.lit (.bool false)], args := [d] }
  | _ => none }
def FnExactReadSuperWrongFalsely : Prop := fnExactReadSuperRow.holds Tryd.pinned (OpenSpec.ofChange fnExactReadSuperWrong)

/-- 'laws.FnFormats': WHATEVER THE INPUT: true; the input reads as it did. -/
def fnFormatsSpec : ChangeSpec := { name := "fnFormats", fn := fun _ => fun
  | [d] => { results := [.lit (.bool true)], args := [d] }
  | _ => none }
def fnFormatsRow : OpenClaim := { program := "ytknllhfhcgahiaadoor", sum := "1d99270290ab8818033ded5db48465d631afcd3b801d2176690f72199ba674f2", func := "loop.example/g00648/laws.FnFormats", spec := "fnFormats", inPlace := ["internal/bytealg.IndexByteString", "internal/bytealg.IndexString", "internal/abi.NoEscape", "internal/bytealg.MakeNoZero"], unfollowed := true, recurses := true, named := ["unicode/utf8.first", "unicode/utf8.acceptRanges", "internal/bytealg.MaxLen"], apart := false, laid := [("unicode/utf8.acceptRanges", laid_unicode_utf8_acceptRanges), ("unicode/utf8.first", laid_unicode_utf8_first)] }
def FnFormatsSaid : Prop := fnFormatsRow.holds Tryd.pinned (OpenSpec.ofChange fnFormatsSpec)

/-- ITS FALSE NEIGHBOUR: 'it returns false'. Refute it at one input. -/
def fnFormatsWrong : ChangeSpec := { name := "fnFormats", fn := fun _ => fun
  | [d] => { results := [.lit (.bool false)], args := [d] }
  | _ => none }
def FnFormatsWrongFalsely : Prop := fnFormatsRow.holds Tryd.pinned (OpenSpec.ofChange fnFormatsWrong)

/-- 'laws.FnSupers': WHATEVER THE INPUT: true; the input reads as it did. -/
def fnSupersSpec : ChangeSpec := { name := "fnSupers", fn := fun _ => fun
  | [d] => { results := [.lit (.bool true)], args := [d] }
  | _ => none }
def fnSupersRow : OpenClaim := { program := "ytknllhfhcgahiaadoor", sum := "1d99270290ab8818033ded5db48465d631afcd3b801d2176690f72199ba674f2", func := "loop.example/g00648/laws.FnSupers", spec := "fnSupers", inPlace := ["internal/bytealg.IndexByteString", "internal/bytealg.IndexString", "internal/abi.NoEscape", "internal/bytealg.MakeNoZero"], unfollowed := true, recurses := true, named := ["unicode/utf8.first", "unicode/utf8.acceptRanges", "internal/bytealg.MaxLen"], apart := false, laid := [("unicode/utf8.acceptRanges", laid_unicode_utf8_acceptRanges), ("unicode/utf8.first", laid_unicode_utf8_first)] }
def FnSupersSaid : Prop := fnSupersRow.holds Tryd.pinned (OpenSpec.ofChange fnSupersSpec)

/-- ITS FALSE NEIGHBOUR: 'it returns false'. Refute it at one input. -/
def fnSupersWrong : ChangeSpec := { name := "fnSupers", fn := fun _ => fun
  | [d] => { results := [.lit (.bool false)], args := [d] }
  | _ => none }
def FnSupersWrongFalsely : Prop := fnSupersRow.holds Tryd.pinned (OpenSpec.ofChange fnSupersWrong)

/- THE SECOND FORM. 'bulk': how many values and letters a reading holds, each counted each time it is reached (what is shared counts as often as it is met; a slice's spare places count too). A statement '..UptoSaid' is the law's where the arguments, and the package variables that the reading takes, are together of bulk at most 1048576: NARROWER than '..Said'. Prove '..Said' where nothing that the law and all that it calls make is longer than what came in: it says more and counts as full. Else prove '..UptoSaid'. A law counts once. -/
mutual
def uptoBulk {H : Type} : DataW H → Nat
  | .lit (.string bytes) => bytes.length + 1
  | .lit _ => 1
  | .nil => 1
  | .ptr d => uptoBulk d + 1
  | .slice elems spare => uptoBulkAll elems + uptoBulkAll spare + 1
  | .agg parts => uptoBulkAll parts + 1
  | .iface _ d => uptoBulk d + 1
  | .map entries => uptoBulkEntries entries + 1
  | .held _ => 1
def uptoBulkAll {H : Type} : List (DataW H) → Nat
  | [] => 0
  | d :: r => uptoBulk d + uptoBulkAll r
def uptoBulkEntries {H : Type} : List (Lit × DataW H) → Nat
  | [] => 0
  | x :: r => uptoBulkEntry x + uptoBulkEntries r
def uptoBulkEntry {H : Type} : Lit × DataW H → Nat
  | (.string bytes, d) => bytes.length + uptoBulk d + 1
  | (_, d) => uptoBulk d + 1
 end
def uptoSmall : (H : Type) → List (DataW H) → Bool := fun _ ds => decide (uptoBulkAll ds ≤ 1048576)
def OpenSpec.upto (s : _root_.Go.ChangeSpec) : _root_.Go.OpenSpec := { _root_.Go.OpenSpec.ofChange s with cond := some uptoSmall }

/-- 'laws.FnExactRunOf', WHERE WHAT IT READS IS OF BULK AT MOST 1048576: true; the input reads as it did. -/
def fnExactRunOfUptoRow : OpenClaim := { program := "ytknllhfhcgahiaadoor", sum := "1d99270290ab8818033ded5db48465d631afcd3b801d2176690f72199ba674f2", func := "loop.example/g00648/laws.FnExactRunOf", spec := "fnExactRunOf", inPlace := ["internal/bytealg.IndexByteString", "internal/bytealg.IndexString"], named := ["unicode/utf8.first", "unicode/utf8.acceptRanges", "internal/bytealg.MaxLen"], apart := false, laid := [("unicode/utf8.acceptRanges", laid_unicode_utf8_acceptRanges), ("unicode/utf8.first", laid_unicode_utf8_first)], narrowed := true }
def FnExactRunOfUptoSaid : Prop := fnExactRunOfUptoRow.holds Tryd.pinned (OpenSpec.upto fnExactRunOfSpec)

/-- 'laws.FnExactTypesOk', WHERE WHAT IT READS IS OF BULK AT MOST 1048576: true; the input reads as it did. -/
def fnExactTypesOkUptoRow : OpenClaim := { program := "ytknllhfhcgahiaadoor", sum := "1d99270290ab8818033ded5db48465d631afcd3b801d2176690f72199ba674f2", func := "loop.example/g00648/laws.FnExactTypesOk", spec := "fnExactTypesOk", inPlace := ["internal/bytealg.IndexByteString", "internal/bytealg.IndexString"], unfollowed := true, recurses := true, named := ["unicode/utf8.first", "unicode/utf8.acceptRanges", "internal/bytealg.MaxLen"], apart := false, laid := [("unicode/utf8.acceptRanges", laid_unicode_utf8_acceptRanges), ("unicode/utf8.first", laid_unicode_utf8_first)], narrowed := true }
def FnExactTypesOkUptoSaid : Prop := fnExactTypesOkUptoRow.holds Tryd.pinned (OpenSpec.upto fnExactTypesOkSpec)

/-- 'laws.FnRuns', WHERE WHAT IT READS IS OF BULK AT MOST 1048576: true; the input reads as it did. -/
def fnRunsUptoRow : OpenClaim := { program := "ytknllhfhcgahiaadoor", sum := "1d99270290ab8818033ded5db48465d631afcd3b801d2176690f72199ba674f2", func := "loop.example/g00648/laws.FnRuns", spec := "fnRuns", inPlace := ["internal/bytealg.IndexByteString", "internal/bytealg.IndexString"], named := ["unicode/utf8.first", "unicode/utf8.acceptRanges", "internal/bytealg.MaxLen"], apart := false, laid := [("unicode/utf8.acceptRanges", laid_unicode_utf8_acceptRanges), ("unicode/utf8.first", laid_unicode_utf8_first)], narrowed := true }
def FnRunsUptoSaid : Prop := fnRunsUptoRow.holds Tryd.pinned (OpenSpec.upto fnRunsSpec)

/-- 'laws.FnExactConfigOk', WHERE WHAT IT READS IS OF BULK AT MOST 1048576: true; the input reads as it did. -/
def fnExactConfigOkUptoRow : OpenClaim := { program := "ytknllhfhcgahiaadoor", sum := "1d99270290ab8818033ded5db48465d631afcd3b801d2176690f72199ba674f2", func := "loop.example/g00648/laws.FnExactConfigOk", spec := "fnExactConfigOk", inPlace := ["internal/bytealg.IndexByteString", "internal/bytealg.IndexString"], unfollowed := true, recurses := true, named := ["unicode/utf8.first", "unicode/utf8.acceptRanges", "internal/bytealg.MaxLen"], apart := false, laid := [("unicode/utf8.acceptRanges", laid_unicode_utf8_acceptRanges), ("unicode/utf8.first", laid_unicode_utf8_first)], narrowed := true }
def FnExactConfigOkUptoSaid : Prop := fnExactConfigOkUptoRow.holds Tryd.pinned (OpenSpec.upto fnExactConfigOkSpec)

/-- 'laws.FnExactFirstData', WHERE WHAT IT READS IS OF BULK AT MOST 1048576: true; the input reads as it did. -/
def fnExactFirstDataUptoRow : OpenClaim := { program := "ytknllhfhcgahiaadoor", sum := "1d99270290ab8818033ded5db48465d631afcd3b801d2176690f72199ba674f2", func := "loop.example/g00648/laws.FnExactFirstData", spec := "fnExactFirstData", inPlace := ["internal/bytealg.IndexByteString", "internal/bytealg.IndexString"], unfollowed := true, recurses := true, named := ["unicode/utf8.first", "unicode/utf8.acceptRanges", "internal/bytealg.MaxLen"], apart := false, laid := [("unicode/utf8.acceptRanges", laid_unicode_utf8_acceptRanges), ("unicode/utf8.first", laid_unicode_utf8_first)], narrowed := true }
def FnExactFirstDataUptoSaid : Prop := fnExactFirstDataUptoRow.holds Tryd.pinned (OpenSpec.upto fnExactFirstDataSpec)

/-- 'laws.FnExactObjOk', WHERE WHAT IT READS IS OF BULK AT MOST 1048576: true; the input reads as it did. -/
def fnExactObjOkUptoRow : OpenClaim := { program := "ytknllhfhcgahiaadoor", sum := "1d99270290ab8818033ded5db48465d631afcd3b801d2176690f72199ba674f2", func := "loop.example/g00648/laws.FnExactObjOk", spec := "fnExactObjOk", inPlace := ["internal/bytealg.IndexByteString", "internal/bytealg.IndexString"], unfollowed := true, recurses := true, named := ["unicode/utf8.first", "unicode/utf8.acceptRanges", "internal/bytealg.MaxLen"], apart := false, laid := [("unicode/utf8.acceptRanges", laid_unicode_utf8_acceptRanges), ("unicode/utf8.first", laid_unicode_utf8_first)], narrowed := true }
def FnExactObjOkUptoSaid : Prop := fnExactObjOkUptoRow.holds Tryd.pinned (OpenSpec.upto fnExactObjOkSpec)

/-- 'laws.FnExactForwarded', WHERE WHAT IT READS IS OF BULK AT MOST 1048576: true; the input reads as it did. -/
def fnExactForwardedUptoRow : OpenClaim := { program := "ytknllhfhcgahiaadoor", sum := "1d99270290ab8818033ded5db48465d631afcd3b801d2176690f72199ba674f2", func := "loop.example/g00648/laws.FnExactForwarded", spec := "fnExactForwarded", inPlace := ["internal/bytealg.IndexByteString", "internal/bytealg.IndexString"], unfollowed := true, recurses := true, named := ["unicode/utf8.first", "unicode/utf8.acceptRanges", "internal/bytealg.MaxLen"], apart := false, laid := [("unicode/utf8.acceptRanges", laid_unicode_utf8_acceptRanges), ("unicode/utf8.first", laid_unicode_utf8_first)], narrowed := true }
def FnExactForwardedUptoSaid : Prop := fnExactForwardedUptoRow.holds Tryd.pinned (OpenSpec.upto fnExactForwardedSpec)

/-- 'laws.FnExactObjectBytes', WHERE WHAT IT READS IS OF BULK AT MOST 1048576: true; the input reads as it did. -/
def fnExactObjectBytesUptoRow : OpenClaim := { program := "ytknllhfhcgahiaadoor", sum := "1d99270290ab8818033ded5db48465d631afcd3b801d2176690f72199ba674f2", func := "loop.example/g00648/laws.FnExactObjectBytes", spec := "fnExactObjectBytes", inPlace := ["internal/bytealg.IndexByteString", "internal/bytealg.IndexString", "internal/abi.NoEscape", "internal/bytealg.MakeNoZero"], unfollowed := true, recurses := true, named := ["unicode/utf8.first", "unicode/utf8.acceptRanges", "internal/bytealg.MaxLen"], apart := false, laid := [("unicode/utf8.acceptRanges", laid_unicode_utf8_acceptRanges), ("unicode/utf8.first", laid_unicode_utf8_first)], narrowed := true }
def FnExactObjectBytesUptoSaid : Prop := fnExactObjectBytesUptoRow.holds Tryd.pinned (OpenSpec.upto fnExactObjectBytesSpec)

/-- 'laws.FnExactSuperLine', WHERE WHAT IT READS IS OF BULK AT MOST 1048576: true; the input reads as it did. -/
def fnExactSuperLineUptoRow : OpenClaim := { program := "ytknllhfhcgahiaadoor", sum := "1d99270290ab8818033ded5db48465d631afcd3b801d2176690f72199ba674f2", func := "loop.example/g00648/laws.FnExactSuperLine", spec := "fnExactSuperLine", inPlace := ["internal/bytealg.IndexByteString", "internal/bytealg.IndexString", "internal/abi.NoEscape", "internal/bytealg.MakeNoZero"], unfollowed := true, recurses := true, named := ["unicode/utf8.first", "unicode/utf8.acceptRanges", "internal/bytealg.MaxLen"], apart := false, laid := [("unicode/utf8.acceptRanges", laid_unicode_utf8_acceptRanges), ("unicode/utf8.first", laid_unicode_utf8_first)], narrowed := true }
def FnExactSuperLineUptoSaid : Prop := fnExactSuperLineUptoRow.holds Tryd.pinned (OpenSpec.upto fnExactSuperLineSpec)

/-- 'laws.FnExactFormat', WHERE WHAT IT READS IS OF BULK AT MOST 1048576: true; the input reads as it did. -/
def fnExactFormatUptoRow : OpenClaim := { program := "ytknllhfhcgahiaadoor", sum := "1d99270290ab8818033ded5db48465d631afcd3b801d2176690f72199ba674f2", func := "loop.example/g00648/laws.FnExactFormat", spec := "fnExactFormat", inPlace := ["internal/bytealg.IndexByteString", "internal/bytealg.IndexString", "internal/abi.NoEscape", "internal/bytealg.MakeNoZero"], unfollowed := true, recurses := true, named := ["unicode/utf8.first", "unicode/utf8.acceptRanges", "internal/bytealg.MaxLen"], apart := false, laid := [("unicode/utf8.acceptRanges", laid_unicode_utf8_acceptRanges), ("unicode/utf8.first", laid_unicode_utf8_first)], narrowed := true }
def FnExactFormatUptoSaid : Prop := fnExactFormatUptoRow.holds Tryd.pinned (OpenSpec.upto fnExactFormatSpec)

/-- 'laws.FnExactEpochOf', WHERE WHAT IT READS IS OF BULK AT MOST 1048576: true; the input reads as it did. -/
def fnExactEpochOfUptoRow : OpenClaim := { program := "ytknllhfhcgahiaadoor", sum := "1d99270290ab8818033ded5db48465d631afcd3b801d2176690f72199ba674f2", func := "loop.example/g00648/laws.FnExactEpochOf", spec := "fnExactEpochOf", inPlace := ["internal/bytealg.IndexByteString", "internal/bytealg.IndexString", "internal/abi.NoEscape", "internal/bytealg.MakeNoZero"], unfollowed := true, recurses := true, named := ["unicode/utf8.first", "unicode/utf8.acceptRanges", "internal/bytealg.MaxLen"], apart := false, laid := [("unicode/utf8.acceptRanges", laid_unicode_utf8_acceptRanges), ("unicode/utf8.first", laid_unicode_utf8_first)], narrowed := true }
def FnExactEpochOfUptoSaid : Prop := fnExactEpochOfUptoRow.holds Tryd.pinned (OpenSpec.upto fnExactEpochOfSpec)

/-- 'laws.FnExactReadObject', WHERE WHAT IT READS IS OF BULK AT MOST 1048576: true; the input reads as it did. -/
def fnExactReadObjectUptoRow : OpenClaim := { program := "ytknllhfhcgahiaadoor", sum := "1d99270290ab8818033ded5db48465d631afcd3b801d2176690f72199ba674f2", func := "loop.example/g00648/laws.FnExactReadObject", spec := "fnExactReadObject", inPlace := ["internal/bytealg.IndexByteString", "internal/bytealg.IndexString", "internal/abi.NoEscape", "internal/bytealg.MakeNoZero"], unfollowed := true, recurses := true, named := ["unicode/utf8.first", "unicode/utf8.acceptRanges", "internal/bytealg.MaxLen"], apart := false, laid := [("unicode/utf8.acceptRanges", laid_unicode_utf8_acceptRanges), ("unicode/utf8.first", laid_unicode_utf8_first)], narrowed := true }
def FnExactReadObjectUptoSaid : Prop := fnExactReadObjectUptoRow.holds Tryd.pinned (OpenSpec.upto fnExactReadObjectSpec)

/-- 'laws.FnExactReadSuper', WHERE WHAT IT READS IS OF BULK AT MOST 1048576: true; the input reads as it did. -/
def fnExactReadSuperUptoRow : OpenClaim := { program := "ytknllhfhcgahiaadoor", sum := "1d99270290ab8818033ded5db48465d631afcd3b801d2176690f72199ba674f2", func := "loop.example/g00648/laws.FnExactReadSuper", spec := "fnExactReadSuper", inPlace := ["internal/bytealg.IndexByteString", "internal/bytealg.IndexString", "internal/abi.NoEscape", "internal/bytealg.MakeNoZero"], unfollowed := true, recurses := true, named := ["unicode/utf8.first", "unicode/utf8.acceptRanges", "internal/bytealg.MaxLen"], apart := false, laid := [("unicode/utf8.acceptRanges", laid_unicode_utf8_acceptRanges), ("unicode/utf8.first", laid_unicode_utf8_first)], narrowed := true }
def FnExactReadSuperUptoSaid : Prop := fnExactReadSuperUptoRow.holds Tryd.pinned (OpenSpec.upto fnExactReadSuperSpec)

/-- 'laws.FnFormats', WHERE WHAT IT READS IS OF BULK AT MOST 1048576: true; the input reads as it did. -/
def fnFormatsUptoRow : OpenClaim := { program := "ytknllhfhcgahiaadoor", sum := "1d99270290ab8818033ded5db48465d631afcd3b801d2176690f72199ba674f2", func := "loop.example/g00648/laws.FnFormats", spec := "fnFormats", inPlace := ["internal/bytealg.IndexByteString", "internal/bytealg.IndexString", "internal/abi.NoEscape", "internal/bytealg.MakeNoZero"], unfollowed := true, recurses := true, named := ["unicode/utf8.first", "unicode/utf8.acceptRanges", "internal/bytealg.MaxLen"], apart := false, laid := [("unicode/utf8.acceptRanges", laid_unicode_utf8_acceptRanges), ("unicode/utf8.first", laid_unicode_utf8_first)], narrowed := true }
def FnFormatsUptoSaid : Prop := fnFormatsUptoRow.holds Tryd.pinned (OpenSpec.upto fnFormatsSpec)

/-- 'laws.FnSupers', WHERE WHAT IT READS IS OF BULK AT MOST 1048576: true; the input reads as it did. -/
def fnSupersUptoRow : OpenClaim := { program := "ytknllhfhcgahiaadoor", sum := "1d99270290ab8818033ded5db48465d631afcd3b801d2176690f72199ba674f2", func := "loop.example/g00648/laws.FnSupers", spec := "fnSupers", inPlace := ["internal/bytealg.IndexByteString", "internal/bytealg.IndexString", "internal/abi.NoEscape", "internal/bytealg.MakeNoZero"], unfollowed := true, recurses := true, named := ["unicode/utf8.first", "unicode/utf8.acceptRanges", "internal/bytealg.MaxLen"], apart := false, laid := [("unicode/utf8.acceptRanges", laid_unicode_utf8_acceptRanges), ("unicode/utf8.first", laid_unicode_utf8_first)], narrowed := true }
def FnSupersUptoSaid : Prop := fnSupersUptoRow.holds Tryd.pinned (OpenSpec.upto fnSupersSpec)

end Rows
end Go.Proofs.YtknllhfhcgahiaaDoor
