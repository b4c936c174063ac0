/-
  No cell of these rows narrows 'for every input' (looked for: loops, veiled, ifaces, maps, wideKeys, modest, calm, conditions, laid).
  DERIVED. THE GIVEN ROWS OF THIS SEAT. 12 by the template 'for every input the law returns true; each argument reads behind the call as it read before'; 0 by the template 'total and deterministic' (their statements: YtgajdaijkoomcaaTotals.lean).
  GIVEN WITH THE SEED: the statements are not yours to turn. If you find one false, say at which input.
  Laid BY PROGRAM, IN A SANDBOX (cutbox-rows.mjs): the forced cells as the released guide's own fill.sh prints them over the translation b932ac6fd08403ca… (all of the seat's roots in one cut). By AI agents, Wed Nov 11 2026. No macro, syntax, notation, axiom, sorry.
-/
import Derived.Test.YtgajdaijkoomcaaChecked
import GoSem.Claim
import GoSem.ClaimJoined
import GoSem.ClaimMapViews
import Derived.JoinedTies
import Derived.KernelRfl
namespace Go.Proofs.Ytgajdaijkoomcaa
/- THE CELL 'sum', in the pinned program and in every row, IS THE sha256 OF THE DUMP (.gsa) THAT YtgajdaijkoomcaaProg.lean LOADS. Nothing in Lean hashes anything: it is a label: what it is worth is what the hold of that sum in a sandbox is worth. -/
noncomputable def Try.pinned : Pinned := { name := "ytgajdaijkoomcaa", sum := "b932ac6fd08403ca4c700bd0f27b2220f02beda1f92ad9f0bfa5e570a3c7ff8d", checked := Try.checked }
namespace Rows
def none {H : Type} : Left H := { results := [], args := [] }

/-- 'laws.FnExactConstants': WHATEVER THE INPUT: true; the input reads as it did. -/
def fnExactConstantsSpec : ChangeSpec := { name := "fnExactConstants", fn := fun _ => fun
  | [] => { results := [.lit (.bool true)], args := [] }
  | _ => none }
def fnExactConstantsRow : OpenClaim := { program := "ytgajdaijkoomcaa", sum := "b932ac6fd08403ca4c700bd0f27b2220f02beda1f92ad9f0bfa5e570a3c7ff8d", func := "loop.example/g00648/laws.FnExactConstants", spec := "fnExactConstants", apart := false }
def FnExactConstantsSaid : Prop := fnExactConstantsRow.holds Try.pinned (OpenSpec.ofChange fnExactConstantsSpec)

/-- ITS FALSE NEIGHBOUR: 'it returns false'. Refute it at one input. -/
def fnExactConstantsWrong : ChangeSpec := { name := "fnExactConstants", fn := fun _ => fun
  | [] => { results := [.lit (.bool false)], args := [] }
  | _ => none }
def FnExactConstantsWrongFalsely : Prop := fnExactConstantsRow.holds Try.pinned (OpenSpec.ofChange fnExactConstantsWrong)

/-- 'laws.FnExactHalf': WHATEVER THE INPUT: true; the input reads as it did. -/
def fnExactHalfSpec : ChangeSpec := { name := "fnExactHalf", fn := fun _ => fun
  | [d1, d2] => { results := [.lit (.bool true)], args := [d1, d2] }
  | _ => none }
def fnExactHalfRow : OpenClaim := { program := "ytgajdaijkoomcaa", sum := "b932ac6fd08403ca4c700bd0f27b2220f02beda1f92ad9f0bfa5e570a3c7ff8d", func := "loop.example/g00648/laws.FnExactHalf", spec := "fnExactHalf", apart := false }
def FnExactHalfSaid : Prop := fnExactHalfRow.holds Try.pinned (OpenSpec.ofChange fnExactHalfSpec)

/-- ITS FALSE NEIGHBOUR: 'it returns false'. Refute it at one input. -/
def fnExactHalfWrong : ChangeSpec := { name := "fnExactHalf", fn := fun _ => fun
  | [d1, d2] => { results := [.lit (.bool false)], args := [d1, d2] }
  | _ => none }
def FnExactHalfWrongFalsely : Prop := fnExactHalfRow.holds Try.pinned (OpenSpec.ofChange fnExactHalfWrong)

/-- 'laws.FnExactReadShort': WHATEVER THE INPUT: true; the input reads as it did. -/
def fnExactReadShortSpec : ChangeSpec := { name := "fnExactReadShort", fn := fun _ => fun
  | [d] => { results := [.lit (.bool true)], args := [d] }
  | _ => none }
def fnExactReadShortRow : OpenClaim := { program := "ytgajdaijkoomcaa", sum := "b932ac6fd08403ca4c700bd0f27b2220f02beda1f92ad9f0bfa5e570a3c7ff8d", func := "loop.example/g00648/laws.FnExactReadShort", spec := "fnExactReadShort", apart := false }
def FnExactReadShortSaid : Prop := fnExactReadShortRow.holds Try.pinned (OpenSpec.ofChange fnExactReadShortSpec)

/-- ITS FALSE NEIGHBOUR: 'it returns false'. Refute it at one input. -/
def fnExactReadShortWrong : ChangeSpec := { name := "fnExactReadShort", fn := fun _ => fun
  | [d] => { results := [.lit (.bool false)], args := [d] }
  | _ => none }
def FnExactReadShortWrongFalsely : Prop := fnExactReadShortRow.holds Try.pinned (OpenSpec.ofChange fnExactReadShortWrong)

/-- 'laws.FnExactOldRef': WHATEVER THE INPUT: true; the input reads as it did. -/
def fnExactOldRefSpec : ChangeSpec := { name := "fnExactOldRef", fn := fun _ => fun
  | [d] => { results := [.lit (.bool true)], args := [d] }
  | _ => none }
def fnExactOldRefRow : OpenClaim := { program := "ytgajdaijkoomcaa", sum := "b932ac6fd08403ca4c700bd0f27b2220f02beda1f92ad9f0bfa5e570a3c7ff8d", func := "loop.example/g00648/laws.FnExactOldRef", spec := "fnExactOldRef", apart := false }
def FnExactOldRefSaid : Prop := fnExactOldRefRow.holds Try.pinned (OpenSpec.ofChange fnExactOldRefSpec)

/-- ITS FALSE NEIGHBOUR: 'it returns false'. Refute it at one input. -/
def fnExactOldRefWrong : ChangeSpec := { name := "fnExactOldRef", fn := fun _ => fun
  | [d] => { results := [.lit (.bool false)], args := [d] }
  | _ => none }
def FnExactOldRefWrongFalsely : Prop := fnExactOldRefRow.holds Try.pinned (OpenSpec.ofChange fnExactOldRefWrong)

/-- 'laws.FnExactYoungRef': WHATEVER THE INPUT: true; the input reads as it did. -/
def fnExactYoungRefSpec : ChangeSpec := { name := "fnExactYoungRef", fn := fun _ => fun
  | [d] => { results := [.lit (.bool true)], args := [d] }
  | _ => none }
def fnExactYoungRefRow : OpenClaim := { program := "ytgajdaijkoomcaa", sum := "b932ac6fd08403ca4c700bd0f27b2220f02beda1f92ad9f0bfa5e570a3c7ff8d", func := "loop.example/g00648/laws.FnExactYoungRef", spec := "fnExactYoungRef", apart := false }
def FnExactYoungRefSaid : Prop := fnExactYoungRefRow.holds Try.pinned (OpenSpec.ofChange fnExactYoungRefSpec)

/-- ITS FALSE NEIGHBOUR: 'it returns false'. Refute it at one input. -/
def fnExactYoungRefWrong : ChangeSpec := { name := "fnExactYoungRef", fn := fun _ => fun
  | [d] => { results := [.lit (.bool false)], args := [d] }
  | _ => none }
def FnExactYoungRefWrongFalsely : Prop := fnExactYoungRefRow.holds Try.pinned (OpenSpec.ofChange fnExactYoungRefWrong)

/-- 'laws.FnExactWordBytes': WHATEVER THE INPUT: true; the input reads as it did. -/
def fnExactWordBytesSpec : ChangeSpec := { name := "fnExactWordBytes", fn := fun _ => fun
  | [d] => { results := [.lit (.bool true)], args := [d] }
  | _ => none }
def fnExactWordBytesRow : OpenClaim := { program := "ytgajdaijkoomcaa", sum := "b932ac6fd08403ca4c700bd0f27b2220f02beda1f92ad9f0bfa5e570a3c7ff8d", func := "loop.example/g00648/laws.FnExactWordBytes", spec := "fnExactWordBytes", apart := false }
def FnExactWordBytesSaid : Prop := fnExactWordBytesRow.holds Try.pinned (OpenSpec.ofChange fnExactWordBytesSpec)

/-- ITS FALSE NEIGHBOUR: 'it returns false'. Refute it at one input. -/
def fnExactWordBytesWrong : ChangeSpec := { name := "fnExactWordBytes", fn := fun _ => fun
  | [d] => { results := [.lit (.bool false)], args := [d] }
  | _ => none }
def FnExactWordBytesWrongFalsely : Prop := fnExactWordBytesRow.holds Try.pinned (OpenSpec.ofChange fnExactWordBytesWrong)

/-- 'laws.FnExactShortBytes': WHATEVER THE INPUT: true; the input reads as it did. -/
def fnExactShortBytesSpec : ChangeSpec := { name := "fnExactShortBytes", fn := fun _ => fun
  | [d] => { results := [.lit (.bool true)], args := [d] }
  | _ => none }
def fnExactShortBytesRow : OpenClaim := { program := "ytgajdaijkoomcaa", sum := "b932ac6fd08403ca4c700bd0f27b2220f02beda1f92ad9f0bfa5e570a3c7ff8d", func := "loop.example/g00648/laws.FnExactShortBytes", spec := "fnExactShortBytes", apart := false }
def FnExactShortBytesSaid : Prop := fnExactShortBytesRow.holds Try.pinned (OpenSpec.ofChange fnExactShortBytesSpec)

/-- ITS FALSE NEIGHBOUR: 'it returns false'. Refute it at one input. -/
def fnExactShortBytesWrong : ChangeSpec := { name := "fnExactShortBytes", fn := fun _ => fun
  | [d] => { results := [.lit (.bool false)], args := [d] }
  | _ => none }
def FnExactShortBytesWrongFalsely : Prop := fnExactShortBytesRow.holds Try.pinned (OpenSpec.ofChange fnExactShortBytesWrong)

/-- 'laws.FnExactReadWord': WHATEVER THE INPUT: true; the input reads as it did. -/
def fnExactReadWordSpec : ChangeSpec := { name := "fnExactReadWord", fn := fun _ => fun
  | [d] => { results := [.lit (.bool true)], args := [d] }
  | _ => none }
def fnExactReadWordRow : OpenClaim := { program := "ytgajdaijkoomcaa", sum := "b932ac6fd08403ca4c700bd0f27b2220f02beda1f92ad9f0bfa5e570a3c7ff8d", func := "loop.example/g00648/laws.FnExactReadWord", spec := "fnExactReadWord", apart := false }
def FnExactReadWordSaid : Prop := fnExactReadWordRow.holds Try.pinned (OpenSpec.ofChange fnExactReadWordSpec)

/-- ITS FALSE NEIGHBOUR: 'it returns false'. Refute it at one input. -/
def fnExactReadWordWrong : ChangeSpec := { name := "fnExactReadWord", fn := fun _ => fun
  | [d] => { results := [.lit (.bool false)], args := [d] }
  | _ => none }
def FnExactReadWordWrongFalsely : Prop := fnExactReadWordRow.holds Try.pinned (OpenSpec.ofChange fnExactReadWordWrong)

/-- 'laws.FnExactRefKind': WHATEVER THE INPUT: true; the input reads as it did. -/
def fnExactRefKindSpec : ChangeSpec := { name := "fnExactRefKind", fn := fun _ => fun
  | [d] => { results := [.lit (.bool true)], args := [d] }
  | _ => none }
def fnExactRefKindRow : OpenClaim := { program := "ytgajdaijkoomcaa", sum := "b932ac6fd08403ca4c700bd0f27b2220f02beda1f92ad9f0bfa5e570a3c7ff8d", func := "loop.example/g00648/laws.FnExactRefKind", spec := "fnExactRefKind", apart := false }
def FnExactRefKindSaid : Prop := fnExactRefKindRow.holds Try.pinned (OpenSpec.ofChange fnExactRefKindSpec)

/-- ITS FALSE NEIGHBOUR: 'it returns false'. Refute it at one input. -/
def fnExactRefKindWrong : ChangeSpec := { name := "fnExactRefKind", fn := fun _ => fun
  | [d] => { results := [.lit (.bool false)], args := [d] }
  | _ => none }
def FnExactRefKindWrongFalsely : Prop := fnExactRefKindRow.holds Try.pinned (OpenSpec.ofChange fnExactRefKindWrong)

/-- 'laws.FnExactPlaceOf': WHATEVER THE INPUT: true; the input reads as it did. -/
def fnExactPlaceOfSpec : ChangeSpec := { name := "fnExactPlaceOf", fn := fun _ => fun
  | [d] => { results := [.lit (.bool true)], args := [d] }
  | _ => none }
def fnExactPlaceOfRow : OpenClaim := { program := "ytgajdaijkoomcaa", sum := "b932ac6fd08403ca4c700bd0f27b2220f02beda1f92ad9f0bfa5e570a3c7ff8d", func := "loop.example/g00648/laws.FnExactPlaceOf", spec := "fnExactPlaceOf", apart := false }
def FnExactPlaceOfSaid : Prop := fnExactPlaceOfRow.holds Try.pinned (OpenSpec.ofChange fnExactPlaceOfSpec)

/-- ITS FALSE NEIGHBOUR: 'it returns false'. Refute it at one input. -/
def fnExactPlaceOfWrong : ChangeSpec := { name := "fnExactPlaceOf", fn := fun _ => fun
  | [d] => { results := [.lit (.bool false)], args := [d] }
  | _ => none }
def FnExactPlaceOfWrongFalsely : Prop := fnExactPlaceOfRow.holds Try.pinned (OpenSpec.ofChange fnExactPlaceOfWrong)

/-- 'laws.FnExactCrc': WHATEVER THE INPUT: true; the input reads as it did. -/
def fnExactCrcSpec : ChangeSpec := { name := "fnExactCrc", fn := fun _ => fun
  | [d] => { results := [.lit (.bool true)], args := [d] }
  | _ => none }
def fnExactCrcRow : OpenClaim := { program := "ytgajdaijkoomcaa", sum := "b932ac6fd08403ca4c700bd0f27b2220f02beda1f92ad9f0bfa5e570a3c7ff8d", func := "loop.example/g00648/laws.FnExactCrc", spec := "fnExactCrc", apart := false }
def FnExactCrcSaid : Prop := fnExactCrcRow.holds Try.pinned (OpenSpec.ofChange fnExactCrcSpec)

/-- ITS FALSE NEIGHBOUR: 'it returns false'. Refute it at one input. -/
def fnExactCrcWrong : ChangeSpec := { name := "fnExactCrc", fn := fun _ => fun
  | [d] => { results := [.lit (.bool false)], args := [d] }
  | _ => none }
def FnExactCrcWrongFalsely : Prop := fnExactCrcRow.holds Try.pinned (OpenSpec.ofChange fnExactCrcWrong)

/-- 'laws.FnExactUnsealed': WHATEVER THE INPUT: true; the input reads as it did. -/
def fnExactUnsealedSpec : ChangeSpec := { name := "fnExactUnsealed", fn := fun _ => fun
  | [d] => { results := [.lit (.bool true)], args := [d] }
  | _ => none }
def fnExactUnsealedRow : OpenClaim := { program := "ytgajdaijkoomcaa", sum := "b932ac6fd08403ca4c700bd0f27b2220f02beda1f92ad9f0bfa5e570a3c7ff8d", func := "loop.example/g00648/laws.FnExactUnsealed", spec := "fnExactUnsealed", apart := false }
def FnExactUnsealedSaid : Prop := fnExactUnsealedRow.holds Try.pinned (OpenSpec.ofChange fnExactUnsealedSpec)

/-- ITS FALSE NEIGHBOUR: 'it returns false'. Refute it at one input. -/
def fnExactUnsealedWrong : ChangeSpec := { name := "fnExactUnsealed", fn := fun _ => fun
  | [d] => { results := [.lit (.bool false)], args := [d] }
  | _ => none }
def FnExactUnsealedWrongFalsely : Prop := fnExactUnsealedRow.holds Try.pinned (OpenSpec.ofChange fnExactUnsealedWrong)

/- THE SECOND FORM. 'bulk': how many values and letters a reading holds, each counted each time it is reached (what is shared counts as often as it is met; a slice's spare places count too). A statement '..UptoSaid' is the law's where the arguments, and the package variables that the reading takes, are together of bulk at most 1048576: NARROWER than '..Said'. Prove '..Said' where nothing that the law and all that it calls make is longer than what came in: it says more and counts as full. Else prove '..UptoSaid'. A law counts once. -/
mutual
def uptoBulk {H : Type} : DataW H → Nat
  | .lit (.string bytes) => bytes.length + 1
  | .lit _ => 1
  | .nil => 1
  | .ptr d => uptoBulk d + 1
  | .slice elems spare => uptoBulkAll elems + uptoBulkAll spare + 1
  | .agg parts => uptoBulkAll parts + 1
  | .iface _ d => uptoBulk d + 1
  | .map entries => uptoBulkEntries entries + 1
  | .held _ => 1
def uptoBulkAll {H : Type} : List (DataW H) → Nat
  | [] => 0
  | d :: r => uptoBulk d + uptoBulkAll r
def uptoBulkEntries {H : Type} : List (Lit × DataW H) → Nat
  | [] => 0
  | x :: r => uptoBulkEntry x + uptoBulkEntries r
def uptoBulkEntry {H : Type} : Lit × DataW H → Nat
  | (.string bytes, d) => bytes.length + uptoBulk d + 1
  | (_, d) => uptoBulk d + 1
 end
def uptoSmall : (H : Type) → List (DataW H) → Bool := fun _ ds => decide (uptoBulkAll ds ≤ 1048576)
def OpenSpec.upto (s : _root_.Go.ChangeSpec) : _root_.Go.OpenSpec := { _root_.Go.OpenSpec.ofChange s with cond := some uptoSmall }

/-- 'laws.FnExactConstants', WHERE WHAT IT READS IS OF BULK AT MOST 1048576: true; the input reads as it did. -/
def fnExactConstantsUptoRow : OpenClaim := { program := "ytgajdaijkoomcaa", sum := "b932ac6fd08403ca4c700bd0f27b2220f02beda1f92ad9f0bfa5e570a3c7ff8d", func := "loop.example/g00648/laws.FnExactConstants", spec := "fnExactConstants", apart := false, narrowed := true }
def FnExactConstantsUptoSaid : Prop := fnExactConstantsUptoRow.holds Try.pinned (OpenSpec.upto fnExactConstantsSpec)

/-- 'laws.FnExactHalf', WHERE WHAT IT READS IS OF BULK AT MOST 1048576: true; the input reads as it did. -/
def fnExactHalfUptoRow : OpenClaim := { program := "ytgajdaijkoomcaa", sum := "b932ac6fd08403ca4c700bd0f27b2220f02beda1f92ad9f0bfa5e570a3c7ff8d", func := "loop.example/g00648/laws.FnExactHalf", spec := "fnExactHalf", apart := false, narrowed := true }
def FnExactHalfUptoSaid : Prop := fnExactHalfUptoRow.holds Try.pinned (OpenSpec.upto fnExactHalfSpec)

/-- 'laws.FnExactReadShort', WHERE WHAT IT READS IS OF BULK AT MOST 1048576: true; the input reads as it did. -/
def fnExactReadShortUptoRow : OpenClaim := { program := "ytgajdaijkoomcaa", sum := "b932ac6fd08403ca4c700bd0f27b2220f02beda1f92ad9f0bfa5e570a3c7ff8d", func := "loop.example/g00648/laws.FnExactReadShort", spec := "fnExactReadShort", apart := false, narrowed := true }
def FnExactReadShortUptoSaid : Prop := fnExactReadShortUptoRow.holds Try.pinned (OpenSpec.upto fnExactReadShortSpec)

/-- 'laws.FnExactOldRef', WHERE WHAT IT READS IS OF BULK AT MOST 1048576: true; the input reads as it did. -/
def fnExactOldRefUptoRow : OpenClaim := { program := "ytgajdaijkoomcaa", sum := "b932ac6fd08403ca4c700bd0f27b2220f02beda1f92ad9f0bfa5e570a3c7ff8d", func := "loop.example/g00648/laws.FnExactOldRef", spec := "fnExactOldRef", apart := false, narrowed := true }
def FnExactOldRefUptoSaid : Prop := fnExactOldRefUptoRow.holds Try.pinned (OpenSpec.upto fnExactOldRefSpec)

/-- 'laws.FnExactYoungRef', WHERE WHAT IT READS IS OF BULK AT MOST 1048576: true; the input reads as it did. -/
def fnExactYoungRefUptoRow : OpenClaim := { program := "ytgajdaijkoomcaa", sum := "b932ac6fd08403ca4c700bd0f27b2220f02beda1f92ad9f0bfa5e570a3c7ff8d", func := "loop.example/g00648/laws.FnExactYoungRef", spec := "fnExactYoungRef", apart := false, narrowed := true }
def FnExactYoungRefUptoSaid : Prop := fnExactYoungRefUptoRow.holds Try.pinned (OpenSpec.upto fnExactYoungRefSpec)

/-- 'laws.FnExactWordBytes', WHERE WHAT IT READS IS OF BULK AT MOST 1048576: true; the input reads as it did. -/
def fnExactWordBytesUptoRow : OpenClaim := { program := "ytgajdaijkoomcaa", sum := "b932ac6fd08403ca4c700bd0f27b2220f02beda1f92ad9f0bfa5e570a3c7ff8d", func := "loop.example/g00648/laws.FnExactWordBytes", spec := "fnExactWordBytes", apart := false, narrowed := true }
def FnExactWordBytesUptoSaid : Prop := fnExactWordBytesUptoRow.holds Try.pinned (OpenSpec.upto fnExactWordBytesSpec)

/-- 'laws.FnExactShortBytes', WHERE WHAT IT READS IS OF BULK AT MOST 1048576: true; the input reads as it did. -/
def fnExactShortBytesUptoRow : OpenClaim := { program := "ytgajdaijkoomcaa", sum := "b932ac6fd08403ca4c700bd0f27b2220f02beda1f92ad9f0bfa5e570a3c7ff8d", func := "loop.example/g00648/laws.FnExactShortBytes", spec := "fnExactShortBytes", apart := false, narrowed := true }
def FnExactShortBytesUptoSaid : Prop := fnExactShortBytesUptoRow.holds Try.pinned (OpenSpec.upto fnExactShortBytesSpec)

/-- 'laws.FnExactReadWord', WHERE WHAT IT READS IS OF BULK AT MOST 1048576: true; the input reads as it did. -/
def fnExactReadWordUptoRow : OpenClaim := { program := "ytgajdaijkoomcaa", sum := "b932ac6fd08403ca4c700bd0f27b2220f02beda1f92ad9f0bfa5e570a3c7ff8d", func := "loop.example/g00648/laws.FnExactReadWord", spec := "fnExactReadWord", apart := false, narrowed := true }
def FnExactReadWordUptoSaid : Prop := fnExactReadWordUptoRow.holds Try.pinned (OpenSpec.upto fnExactReadWordSpec)

/-- 'laws.FnExactRefKind', WHERE WHAT IT READS IS OF BULK AT MOST 1048576: true; the input reads as it did. -/
def fnExactRefKindUptoRow : OpenClaim := { program := "ytgajdaijkoomcaa", sum := "b932ac6fd08403ca4c700bd0f27b2220f02beda1f92ad9f0bfa5e570a3c7ff8d", func := "loop.example/g00648/laws.FnExactRefKind", spec := "fnExactRefKind", apart := false, narrowed := true }
def FnExactRefKindUptoSaid : Prop := fnExactRefKindUptoRow.holds Try.pinned (OpenSpec.upto fnExactRefKindSpec)

/-- 'laws.FnExactPlaceOf', WHERE WHAT IT READS IS OF BULK AT MOST 1048576: true; the input reads as it did. -/
def fnExactPlaceOfUptoRow : OpenClaim := { program := "ytgajdaijkoomcaa", sum := "b932ac6fd08403ca4c700bd0f27b2220f02beda1f92ad9f0bfa5e570a3c7ff8d", func := "loop.example/g00648/laws.FnExactPlaceOf", spec := "fnExactPlaceOf", apart := false, narrowed := true }
def FnExactPlaceOfUptoSaid : Prop := fnExactPlaceOfUptoRow.holds Try.pinned (OpenSpec.upto fnExactPlaceOfSpec)

/-- 'laws.FnExactCrc', WHERE WHAT IT READS IS OF BULK AT MOST 1048576: true; the input reads as it did. -/
def fnExactCrcUptoRow : OpenClaim := { program := "ytgajdaijkoomcaa", sum := "b932ac6fd08403ca4c700bd0f27b2220f02beda1f92ad9f0bfa5e570a3c7ff8d", func := "loop.example/g00648/laws.FnExactCrc", spec := "fnExactCrc", apart := false, narrowed := true }
def FnExactCrcUptoSaid : Prop := fnExactCrcUptoRow.holds Try.pinned (OpenSpec.upto fnExactCrcSpec)

/-- 'laws.FnExactUnsealed', WHERE WHAT IT READS IS OF BULK AT MOST 1048576: true; the input reads as it did. -/
def fnExactUnsealedUptoRow : OpenClaim := { program := "ytgajdaijkoomcaa", sum := "b932ac6fd08403ca4c700bd0f27b2220f02beda1f92ad9f0bfa5e570a3c7ff8d", func := "loop.example/g00648/laws.FnExactUnsealed", spec := "fnExactUnsealed", apart := false, narrowed := true }
def FnExactUnsealedUptoSaid : Prop := fnExactUnsealedUptoRow.holds Try.pinned (OpenSpec.upto fnExactUnsealedSpec)

end Rows
end Go.Proofs.Ytgajdaijkoomcaa
