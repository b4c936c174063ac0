/-
  No cell of these rows narrows 'for every input' (looked for: loops, veiled, ifaces, maps, wideKeys, modest, calm, conditions, laid).
  DERIVED. THE GIVEN ROWS OF THIS SEAT. 5 by the template 'for every input the law returns true; each argument reads behind the call as it read before'; 0 by the template 'total and deterministic' (their statements: YtpkekjddhkngcaaTotals.lean).
  GIVEN WITH THE SEED: the statements are not yours to turn. If you find one false, say at which input.
  Laid BY PROGRAM, IN A SANDBOX (cutbox-rows.mjs): the forced cells as the released guide's own fill.sh prints them over the translation 5fcd24e824eae37b… (all of the seat's roots in one cut). By AI agents, Wed Nov 11 2026. No macro, syntax, notation, axiom, sorry.
-/
import Derived.Test.YtpkekjddhkngcaaChecked
import GoSem.Claim
import GoSem.ClaimJoined
import GoSem.ClaimMapViews
import Derived.JoinedTies
import Derived.KernelRfl
namespace Go.Proofs.Ytpkekjddhkngcaa
/- THE CELL 'sum', in the pinned program and in every row, IS THE sha256 OF THE DUMP (.gsa) THAT YtpkekjddhkngcaaProg.lean LOADS. Nothing in Lean hashes anything: it is a label: what it is worth is what the hold of that sum in a sandbox is worth. -/
noncomputable def Try.pinned : Pinned := { name := "ytpkekjddhkngcaa", sum := "5fcd24e824eae37b6b07b5cf8a164dcbad79f669b67542288411f5fda0bb1f37", checked := Try.checked }
namespace Rows
def none {H : Type} : Left H := { results := [], args := [] }

/-- 'laws.FnWordOrder': WHATEVER THE INPUT: true; the input reads as it did. -/
def fnWordOrderSpec : ChangeSpec := { name := "fnWordOrder", fn := fun _ => fun
  | [d1, d2] => { results := [.lit (.bool true)], args := [d1, d2] }
  | _ => none }
def fnWordOrderRow : OpenClaim := { program := "ytpkekjddhkngcaa", sum := "5fcd24e824eae37b6b07b5cf8a164dcbad79f669b67542288411f5fda0bb1f37", func := "loop.example/g00648/laws.FnWordOrder", spec := "fnWordOrder", apart := false }
def FnWordOrderSaid : Prop := fnWordOrderRow.holds Try.pinned (OpenSpec.ofChange fnWordOrderSpec)

/-- ITS FALSE NEIGHBOUR: 'it returns false'. Refute it at one input. -/
def fnWordOrderWrong : ChangeSpec := { name := "fnWordOrder", fn := fun _ => fun
  | [d1, d2] => { results := [.lit (.bool false)], args := [d1, d2] }
  | _ => none }
def FnWordOrderWrongFalsely : Prop := fnWordOrderRow.holds Try.pinned (OpenSpec.ofChange fnWordOrderWrong)

/-- 'laws.FnHalves': WHATEVER THE INPUT: true; the input reads as it did. -/
def fnHalvesSpec : ChangeSpec := { name := "fnHalves", fn := fun _ => fun
  | [d] => { results := [.lit (.bool true)], args := [d] }
  | _ => none }
def fnHalvesRow : OpenClaim := { program := "ytpkekjddhkngcaa", sum := "5fcd24e824eae37b6b07b5cf8a164dcbad79f669b67542288411f5fda0bb1f37", func := "loop.example/g00648/laws.FnHalves", spec := "fnHalves", apart := false }
def FnHalvesSaid : Prop := fnHalvesRow.holds Try.pinned (OpenSpec.ofChange fnHalvesSpec)

/-- ITS FALSE NEIGHBOUR: 'it returns false'. Refute it at one input. -/
def fnHalvesWrong : ChangeSpec := { name := "fnHalves", fn := fun _ => fun
  | [d] => { results := [.lit (.bool false)], args := [d] }
  | _ => none }
def FnHalvesWrongFalsely : Prop := fnHalvesRow.holds Try.pinned (OpenSpec.ofChange fnHalvesWrong)

/-- 'laws.FnRefs': WHATEVER THE INPUT: true; the input reads as it did. -/
def fnRefsSpec : ChangeSpec := { name := "fnRefs", fn := fun _ => fun
  | [d] => { results := [.lit (.bool true)], args := [d] }
  | _ => none }
def fnRefsRow : OpenClaim := { program := "ytpkekjddhkngcaa", sum := "5fcd24e824eae37b6b07b5cf8a164dcbad79f669b67542288411f5fda0bb1f37", func := "loop.example/g00648/laws.FnRefs", spec := "fnRefs", apart := false }
def FnRefsSaid : Prop := fnRefsRow.holds Try.pinned (OpenSpec.ofChange fnRefsSpec)

/-- ITS FALSE NEIGHBOUR: 'it returns false'. Refute it at one input. -/
def fnRefsWrong : ChangeSpec := { name := "fnRefs", fn := fun _ => fun
  | [d] => { results := [.lit (.bool false)], args := [d] }
  | _ => none }
def FnRefsWrongFalsely : Prop := fnRefsRow.holds Try.pinned (OpenSpec.ofChange fnRefsWrong)

/-- 'laws.FnWords': WHATEVER THE INPUT: true; the input reads as it did. -/
def fnWordsSpec : ChangeSpec := { name := "fnWords", fn := fun _ => fun
  | [d] => { results := [.lit (.bool true)], args := [d] }
  | _ => none }
def fnWordsRow : OpenClaim := { program := "ytpkekjddhkngcaa", sum := "5fcd24e824eae37b6b07b5cf8a164dcbad79f669b67542288411f5fda0bb1f37", func := "loop.example/g00648/laws.FnWords", spec := "fnWords", apart := false }
def FnWordsSaid : Prop := fnWordsRow.holds Try.pinned (OpenSpec.ofChange fnWordsSpec)

/-- ITS FALSE NEIGHBOUR: 'it returns false'. Refute it at one input. -/
def fnWordsWrong : ChangeSpec := { name := "fnWords", fn := fun _ => fun
  | [d] => { results := [.lit (.bool false)], args := [d] }
  | _ => none }
def FnWordsWrongFalsely : Prop := fnWordsRow.holds Try.pinned (OpenSpec.ofChange fnWordsWrong)

/-- 'laws.FnExactDeviceOk': WHATEVER THE INPUT: true; the input reads as it did. -/
def fnExactDeviceOkSpec : ChangeSpec := { name := "fnExactDeviceOk", fn := fun _ => fun
  | [d] => { results := [.lit (.bool true)], args := [d] }
  | _ => none }
def fnExactDeviceOkRow : OpenClaim := { program := "ytpkekjddhkngcaa", sum := "5fcd24e824eae37b6b07b5cf8a164dcbad79f669b67542288411f5fda0bb1f37", func := "loop.example/g00648/laws.FnExactDeviceOk", spec := "fnExactDeviceOk", apart := false }
def FnExactDeviceOkSaid : Prop := fnExactDeviceOkRow.holds Try.pinned (OpenSpec.ofChange fnExactDeviceOkSpec)

/-- ITS FALSE NEIGHBOUR: 'it returns false'. Refute it at one input. -/
def fnExactDeviceOkWrong : ChangeSpec := { name := "fnExactDeviceOk", fn := fun _ => fun
  | [d] => { results := [.lit (.bool false)], args := [d] }
  | _ => none }
def FnExactDeviceOkWrongFalsely : Prop := fnExactDeviceOkRow.holds Try.pinned (OpenSpec.ofChange fnExactDeviceOkWrong)

/- THE SECOND FORM. 'bulk': how many values and letters a reading holds, each counted each time it is reached (what is shared counts as often as it is met; a slice's spare places count too). A statement '..UptoSaid' is the law's where the arguments, and the package variables that the reading takes, are together of bulk at most 1048576: NARROWER than '..Said'. Prove '..Said' where nothing that the law and all that it calls make is longer than what came in: it says more and counts as full. Else prove '..UptoSaid'. A law counts once. -/
mutual
def uptoBulk {H : Type} : DataW H → Nat
  | .lit (.string bytes) => bytes.length + 1
  | .lit _ => 1
  | .nil => 1
  | .ptr d => uptoBulk d + 1
  | .slice elems spare => uptoBulkAll elems + uptoBulkAll spare + 1
  | .agg parts => uptoBulkAll parts + 1
  | .iface _ d => uptoBulk d + 1
  | .map entries => uptoBulkEntries entries + 1
  | .held _ => 1
def uptoBulkAll {H : Type} : List (DataW H) → Nat
  | [] => 0
  | d :: r => uptoBulk d + uptoBulkAll r
def uptoBulkEntries {H : Type} : List (Lit × DataW H) → Nat
  | [] => 0
  | x :: r => uptoBulkEntry x + uptoBulkEntries r
def uptoBulkEntry {H : Type} : Lit × DataW H → Nat
  | (.string bytes, d) => bytes.length + uptoBulk d + 1
  | (_, d) => uptoBulk d + 1
 end
def uptoSmall : (H : Type) → List (DataW H) → Bool := fun _ ds => decide (uptoBulkAll ds ≤ 1048576)
def OpenSpec.upto (s : _root_.Go.ChangeSpec) : _root_.Go.OpenSpec := { _root_.Go.OpenSpec.ofChange s with cond := some uptoSmall }

/-- 'laws.FnWordOrder', WHERE WHAT IT READS IS OF BULK AT MOST 1048576: true; the input reads as it did. -/
def fnWordOrderUptoRow : OpenClaim := { program := "ytpkekjddhkngcaa", sum := "5fcd24e824eae37b6b07b5cf8a164dcbad79f669b67542288411f5fda0bb1f37", func := "loop.example/g00648/laws.FnWordOrder", spec := "fnWordOrder", apart := false, narrowed := true }
def FnWordOrderUptoSaid : Prop := fnWordOrderUptoRow.holds Try.pinned (OpenSpec.upto fnWordOrderSpec)

/-- 'laws.FnHalves', WHERE WHAT IT READS IS OF BULK AT MOST 1048576: true; the input reads as it did. -/
def fnHalvesUptoRow : OpenClaim := { program := "ytpkekjddhkngcaa", sum := "5fcd24e824eae37b6b07b5cf8a164dcbad79f669b67542288411f5fda0bb1f37", func := "loop.example/g00648/laws.FnHalves", spec := "fnHalves", apart := false, narrowed := true }
def FnHalvesUptoSaid : Prop := fnHalvesUptoRow.holds Try.pinned (OpenSpec.upto fnHalvesSpec)

/-- 'laws.FnRefs', WHERE WHAT IT READS IS OF BULK AT MOST 1048576: true; the input reads as it did. -/
def fnRefsUptoRow : OpenClaim := { program := "ytpkekjddhkngcaa", sum := "5fcd24e824eae37b6b07b5cf8a164dcbad79f669b67542288411f5fda0bb1f37", func := "loop.example/g00648/laws.FnRefs", spec := "fnRefs", apart := false, narrowed := true }
def FnRefsUptoSaid : Prop := fnRefsUptoRow.holds Try.pinned (OpenSpec.upto fnRefsSpec)

/-- 'laws.FnWords', WHERE WHAT IT READS IS OF BULK AT MOST 1048576: true; the input reads as it did. -/
def fnWordsUptoRow : OpenClaim := { program := "ytpkekjddhkngcaa", sum := "5fcd24e824eae37b6b07b5cf8a164dcbad79f669b67542288411f5fda0bb1f37", func := "loop.example/g00648/laws.FnWords", spec := "fnWords", apart := false, narrowed := true }
def FnWordsUptoSaid : Prop := fnWordsUptoRow.holds Try.pinned (OpenSpec.upto fnWordsSpec)

/-- 'laws.FnExactDeviceOk', WHERE WHAT IT READS IS OF BULK AT MOST 1048576: true; the input reads as it did. -/
def fnExactDeviceOkUptoRow : OpenClaim := { program := "ytpkekjddhkngcaa", sum := "5fcd24e824eae37b6b07b5cf8a164dcbad79f669b67542288411f5fda0bb1f37", func := "loop.example/g00648/laws.FnExactDeviceOk", spec := "fnExactDeviceOk", apart := false, narrowed := true }
def FnExactDeviceOkUptoSaid : Prop := fnExactDeviceOkUptoRow.holds Try.pinned (OpenSpec.upto fnExactDeviceOkSpec)

end Rows
end Go.Proofs.Ytpkekjddhkngcaa
