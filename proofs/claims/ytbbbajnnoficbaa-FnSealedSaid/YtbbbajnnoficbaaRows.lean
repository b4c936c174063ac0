/-
  No cell of these rows narrows 'for every input' (looked for: loops, veiled, ifaces, maps, wideKeys, modest, calm, conditions, laid).
  DERIVED. THE GIVEN ROWS OF THIS SEAT. 13 by the template 'for every input the law returns true; each argument reads behind the call as it read before'; 0 by the template 'total and deterministic' (their statements: YtbbbajnnoficbaaTotals.lean).
  GIVEN WITH THE SEED: the statements are not yours to turn. If you find one false, say at which input.
  Laid BY PROGRAM, IN A SANDBOX (cutbox-rows.mjs): the forced cells as the released guide's own fill.sh prints them over the translation d7681b55289b5246… (all of the seat's roots in one cut). By AI agents, Wed Nov 11 2026. No macro, syntax, notation, axiom, sorry.
-/
import Derived.Test.YtbbbajnnoficbaaChecked
import GoSem.Claim
import GoSem.ClaimJoined
import GoSem.ClaimMapViews
import Derived.JoinedTies
import Derived.KernelRfl
namespace Go.Proofs.Ytbbbajnnoficbaa
/- THE CELL 'sum', in the pinned program and in every row, IS THE sha256 OF THE DUMP (.gsa) THAT YtbbbajnnoficbaaProg.lean LOADS. Nothing in Lean hashes anything: it is a label: what it is worth is what the hold of that sum in a sandbox is worth. -/
noncomputable def Try.pinned : Pinned := { name := "ytbbbajnnoficbaa", sum := "d7681b55289b524655cd32f31716d97ded14bfd9d73c26cd84c4aa86757b716c", checked := Try.checked }
namespace Rows
def none {H : Type} : Left H := { results := [], args := [] }

/-- 'laws.FnExactAtRisk': WHATEVER THE INPUT: true; the input reads as it did. -/
def fnExactAtRiskSpec : ChangeSpec := { name := "fnExactAtRisk", fn := fun _ => fun
  | [d] => { results := [.lit (.bool true)], args := [d] }
  | _ => none }
def fnExactAtRiskRow : OpenClaim := { program := "ytbbbajnnoficbaa", sum := "d7681b55289b524655cd32f31716d97ded14bfd9d73c26cd84c4aa86757b716c", func := "loop.example/g00648/laws.FnExactAtRisk", spec := "fnExactAtRisk", apart := false }
def FnExactAtRiskSaid : Prop := fnExactAtRiskRow.holds Try.pinned (OpenSpec.ofChange fnExactAtRiskSpec)

/-- ITS FALSE NEIGHBOUR: 'it returns false'. Refute it at one input. -/
def fnExactAtRiskWrong : ChangeSpec := { name := "fnExactAtRisk", fn := fun _ => fun
  | [d] => { results := [.lit (.bool false)], args := [d] }
  | _ => none }
def FnExactAtRiskWrongFalsely : Prop := fnExactAtRiskRow.holds Try.pinned (OpenSpec.ofChange fnExactAtRiskWrong)

/-- 'laws.FnExactCrash': WHATEVER THE INPUT: true; the input reads as it did. -/
def fnExactCrashSpec : ChangeSpec := { name := "fnExactCrash", fn := fun _ => fun
  | [d1, d2] => { results := [.lit (.bool true)], args := [d1, d2] }
  | _ => none }
def fnExactCrashRow : OpenClaim := { program := "ytbbbajnnoficbaa", sum := "d7681b55289b524655cd32f31716d97ded14bfd9d73c26cd84c4aa86757b716c", func := "loop.example/g00648/laws.FnExactCrash", spec := "fnExactCrash", apart := false }
def FnExactCrashSaid : Prop := fnExactCrashRow.holds Try.pinned (OpenSpec.ofChange fnExactCrashSpec)

/-- ITS FALSE NEIGHBOUR: 'it returns false'. Refute it at one input. -/
def fnExactCrashWrong : ChangeSpec := { name := "fnExactCrash", fn := fun _ => fun
  | [d1, d2] => { results := [.lit (.bool false)], args := [d1, d2] }
  | _ => none }
def FnExactCrashWrongFalsely : Prop := fnExactCrashRow.holds Try.pinned (OpenSpec.ofChange fnExactCrashWrong)

/-- 'laws.FnExactFence': WHATEVER THE INPUT: true; the input reads as it did. -/
def fnExactFenceSpec : ChangeSpec := { name := "fnExactFence", fn := fun _ => fun
  | [d] => { results := [.lit (.bool true)], args := [d] }
  | _ => none }
def fnExactFenceRow : OpenClaim := { program := "ytbbbajnnoficbaa", sum := "d7681b55289b524655cd32f31716d97ded14bfd9d73c26cd84c4aa86757b716c", func := "loop.example/g00648/laws.FnExactFence", spec := "fnExactFence", apart := false }
def FnExactFenceSaid : Prop := fnExactFenceRow.holds Try.pinned (OpenSpec.ofChange fnExactFenceSpec)

/-- ITS FALSE NEIGHBOUR: 'it returns false'. Refute it at one input. -/
def fnExactFenceWrong : ChangeSpec := { name := "fnExactFence", fn := fun _ => fun
  | [d] => { results := [.lit (.bool false)], args := [d] }
  | _ => none }
def FnExactFenceWrongFalsely : Prop := fnExactFenceRow.holds Try.pinned (OpenSpec.ofChange fnExactFenceWrong)

/-- 'laws.FnExactSeen': WHATEVER THE INPUT: true; the input reads as it did. -/
def fnExactSeenSpec : ChangeSpec := { name := "fnExactSeen", fn := fun _ => fun
  | [d] => { results := [.lit (.bool true)], args := [d] }
  | _ => none }
def fnExactSeenRow : OpenClaim := { program := "ytbbbajnnoficbaa", sum := "d7681b55289b524655cd32f31716d97ded14bfd9d73c26cd84c4aa86757b716c", func := "loop.example/g00648/laws.FnExactSeen", spec := "fnExactSeen", inPlace := ["internal/abi.NoEscape"], unfollowed := true, recurses := true, apart := false }
def FnExactSeenSaid : Prop := fnExactSeenRow.holds Try.pinned (OpenSpec.ofChange fnExactSeenSpec)

/-- ITS FALSE NEIGHBOUR: 'it returns false'. Refute it at one input. -/
def fnExactSeenWrong : ChangeSpec := { name := "fnExactSeen", fn := fun _ => fun
  | [d] => { results := [.lit (.bool false)], args := [d] }
  | _ => none }
def FnExactSeenWrongFalsely : Prop := fnExactSeenRow.holds Try.pinned (OpenSpec.ofChange fnExactSeenWrong)

/-- 'laws.FnExactLoad': WHATEVER THE INPUT: true; the input reads as it did. -/
def fnExactLoadSpec : ChangeSpec := { name := "fnExactLoad", fn := fun _ => fun
  | [d1, d2, d3] => { results := [.lit (.bool true)], args := [d1, d2, d3] }
  | _ => none }
def fnExactLoadRow : OpenClaim := { program := "ytbbbajnnoficbaa", sum := "d7681b55289b524655cd32f31716d97ded14bfd9d73c26cd84c4aa86757b716c", func := "loop.example/g00648/laws.FnExactLoad", spec := "fnExactLoad", inPlace := ["internal/abi.NoEscape"], unfollowed := true, recurses := true, apart := false }
def FnExactLoadSaid : Prop := fnExactLoadRow.holds Try.pinned (OpenSpec.ofChange fnExactLoadSpec)

/-- ITS FALSE NEIGHBOUR: 'it returns false'. Refute it at one input. -/
def fnExactLoadWrong : ChangeSpec := { name := "fnExactLoad", fn := fun _ => fun
  | [d1, d2, d3] => { results := [.lit (.bool false)], args := [d1, d2, d3] }
  | _ => none }
def FnExactLoadWrongFalsely : Prop := fnExactLoadRow.holds Try.pinned (OpenSpec.ofChange fnExactLoadWrong)

/-- 'laws.FnExactFlush': WHATEVER THE INPUT: true; the input reads as it did. -/
def fnExactFlushSpec : ChangeSpec := { name := "fnExactFlush", fn := fun _ => fun
  | [d1, d2] => { results := [.lit (.bool true)], args := [d1, d2] }
  | _ => none }
def fnExactFlushRow : OpenClaim := { program := "ytbbbajnnoficbaa", sum := "d7681b55289b524655cd32f31716d97ded14bfd9d73c26cd84c4aa86757b716c", func := "loop.example/g00648/laws.FnExactFlush", spec := "fnExactFlush", unfollowed := true, recurses := true, apart := false }
def FnExactFlushSaid : Prop := fnExactFlushRow.holds Try.pinned (OpenSpec.ofChange fnExactFlushSpec)

/-- ITS FALSE NEIGHBOUR: 'it returns false'. Refute it at one input. -/
def fnExactFlushWrong : ChangeSpec := { name := "fnExactFlush", fn := fun _ => fun
  | [d1, d2] => { results := [.lit (.bool false)], args := [d1, d2] }
  | _ => none }
def FnExactFlushWrongFalsely : Prop := fnExactFlushRow.holds Try.pinned (OpenSpec.ofChange fnExactFlushWrong)

/-- 'laws.FnExactEvict': WHATEVER THE INPUT: true; the input reads as it did. -/
def fnExactEvictSpec : ChangeSpec := { name := "fnExactEvict", fn := fun _ => fun
  | [d1, d2] => { results := [.lit (.bool true)], args := [d1, d2] }
  | _ => none }
def fnExactEvictRow : OpenClaim := { program := "ytbbbajnnoficbaa", sum := "d7681b55289b524655cd32f31716d97ded14bfd9d73c26cd84c4aa86757b716c", func := "loop.example/g00648/laws.FnExactEvict", spec := "fnExactEvict", unfollowed := true, recurses := true, apart := false }
def FnExactEvictSaid : Prop := fnExactEvictRow.holds Try.pinned (OpenSpec.ofChange fnExactEvictSpec)

/-- ITS FALSE NEIGHBOUR: 'it returns false'. Refute it at one input. -/
def fnExactEvictWrong : ChangeSpec := { name := "fnExactEvict", fn := fun _ => fun
  | [d1, d2] => { results := [.lit (.bool false)], args := [d1, d2] }
  | _ => none }
def FnExactEvictWrongFalsely : Prop := fnExactEvictRow.holds Try.pinned (OpenSpec.ofChange fnExactEvictWrong)

/-- 'laws.FnExactStore': WHATEVER THE INPUT: true; the input reads as it did. -/
def fnExactStoreSpec : ChangeSpec := { name := "fnExactStore", fn := fun _ => fun
  | [d1, d2, d3] => { results := [.lit (.bool true)], args := [d1, d2, d3] }
  | _ => none }
def fnExactStoreRow : OpenClaim := { program := "ytbbbajnnoficbaa", sum := "d7681b55289b524655cd32f31716d97ded14bfd9d73c26cd84c4aa86757b716c", func := "loop.example/g00648/laws.FnExactStore", spec := "fnExactStore", inPlace := ["slices.overlaps[loop.example/g00648/impl.Line]"], unfollowed := true, recurses := true, apart := false }
def FnExactStoreSaid : Prop := fnExactStoreRow.holds Try.pinned (OpenSpec.ofChange fnExactStoreSpec)

/-- ITS FALSE NEIGHBOUR: 'it returns false'. Refute it at one input. -/
def fnExactStoreWrong : ChangeSpec := { name := "fnExactStore", fn := fun _ => fun
  | [d1, d2, d3] => { results := [.lit (.bool false)], args := [d1, d2, d3] }
  | _ => none }
def FnExactStoreWrongFalsely : Prop := fnExactStoreRow.holds Try.pinned (OpenSpec.ofChange fnExactStoreWrong)

/-- 'laws.FnFlushes': WHATEVER THE INPUT: true; the input reads as it did. -/
def fnFlushesSpec : ChangeSpec := { name := "fnFlushes", fn := fun _ => fun
  | [d1, d2] => { results := [.lit (.bool true)], args := [d1, d2] }
  | _ => none }
def fnFlushesRow : OpenClaim := { program := "ytbbbajnnoficbaa", sum := "d7681b55289b524655cd32f31716d97ded14bfd9d73c26cd84c4aa86757b716c", func := "loop.example/g00648/laws.FnFlushes", spec := "fnFlushes", inPlace := ["internal/abi.NoEscape"], unfollowed := true, recurses := true, apart := false }
def FnFlushesSaid : Prop := fnFlushesRow.holds Try.pinned (OpenSpec.ofChange fnFlushesSpec)

/-- ITS FALSE NEIGHBOUR: 'it returns false'. Refute it at one input. -/
def fnFlushesWrong : ChangeSpec := { name := "fnFlushes", fn := fun _ => fun
  | [d1, d2] => { results := [.lit (.bool false)], args := [d1, d2] }
  | _ => none }
def FnFlushesWrongFalsely : Prop := fnFlushesRow.holds Try.pinned (OpenSpec.ofChange fnFlushesWrong)

/-- 'laws.FnFenced': WHATEVER THE INPUT: true; the input reads as it did. -/
def fnFencedSpec : ChangeSpec := { name := "fnFenced", fn := fun _ => fun
  | [d] => { results := [.lit (.bool true)], args := [d] }
  | _ => none }
def fnFencedRow : OpenClaim := { program := "ytbbbajnnoficbaa", sum := "d7681b55289b524655cd32f31716d97ded14bfd9d73c26cd84c4aa86757b716c", func := "loop.example/g00648/laws.FnFenced", spec := "fnFenced", inPlace := ["internal/abi.NoEscape"], unfollowed := true, recurses := true, apart := false }
def FnFencedSaid : Prop := fnFencedRow.holds Try.pinned (OpenSpec.ofChange fnFencedSpec)

/-- ITS FALSE NEIGHBOUR: 'it returns false'. Refute it at one input. -/
def fnFencedWrong : ChangeSpec := { name := "fnFenced", fn := fun _ => fun
  | [d] => { results := [.lit (.bool false)], args := [d] }
  | _ => none }
def FnFencedWrongFalsely : Prop := fnFencedRow.holds Try.pinned (OpenSpec.ofChange fnFencedWrong)

/-- 'laws.FnEvicted': WHATEVER THE INPUT: true; the input reads as it did. -/
def fnEvictedSpec : ChangeSpec := { name := "fnEvicted", fn := fun _ => fun
  | [d] => { results := [.lit (.bool true)], args := [d] }
  | _ => none }
def fnEvictedRow : OpenClaim := { program := "ytbbbajnnoficbaa", sum := "d7681b55289b524655cd32f31716d97ded14bfd9d73c26cd84c4aa86757b716c", func := "loop.example/g00648/laws.FnEvicted", spec := "fnEvicted", inPlace := ["internal/abi.NoEscape"], unfollowed := true, recurses := true, apart := false }
def FnEvictedSaid : Prop := fnEvictedRow.holds Try.pinned (OpenSpec.ofChange fnEvictedSpec)

/-- ITS FALSE NEIGHBOUR: 'it returns false'. Refute it at one input. -/
def fnEvictedWrong : ChangeSpec := { name := "fnEvicted", fn := fun _ => fun
  | [d] => { results := [.lit (.bool false)], args := [d] }
  | _ => none }
def FnEvictedWrongFalsely : Prop := fnEvictedRow.holds Try.pinned (OpenSpec.ofChange fnEvictedWrong)

/-- 'laws.FnStored': WHATEVER THE INPUT: true; the input reads as it did. -/
def fnStoredSpec : ChangeSpec := { name := "fnStored", fn := fun _ => fun
  | [d] => { results := [.lit (.bool true)], args := [d] }
  | _ => none }
def fnStoredRow : OpenClaim := { program := "ytbbbajnnoficbaa", sum := "d7681b55289b524655cd32f31716d97ded14bfd9d73c26cd84c4aa86757b716c", func := "loop.example/g00648/laws.FnStored", spec := "fnStored", inPlace := ["slices.overlaps[loop.example/g00648/impl.Line]", "internal/abi.NoEscape"], unfollowed := true, recurses := true, apart := false }
def FnStoredSaid : Prop := fnStoredRow.holds Try.pinned (OpenSpec.ofChange fnStoredSpec)

/-- ITS FALSE NEIGHBOUR: 'it returns false'. Refute it at one input. -/
def fnStoredWrong : ChangeSpec := { name := "fnStored", fn := fun _ => fun
  | [d] => { results := [.lit (.bool false)], args := [d] }
  | _ => none }
def FnStoredWrongFalsely : Prop := fnStoredRow.holds Try.pinned (OpenSpec.ofChange fnStoredWrong)

/-- 'laws.FnSealed': WHATEVER THE INPUT: true; the input reads as it did. -/
def fnSealedSpec : ChangeSpec := { name := "fnSealed", fn := fun _ => fun
  | [d] => { results := [.lit (.bool true)], args := [d] }
  | _ => none }
def fnSealedRow : OpenClaim := { program := "ytbbbajnnoficbaa", sum := "d7681b55289b524655cd32f31716d97ded14bfd9d73c26cd84c4aa86757b716c", func := "loop.example/g00648/laws.FnSealed", spec := "fnSealed", inPlace := ["internal/abi.NoEscape", "internal/bytealg.MakeNoZero"], apart := false }
def FnSealedSaid : Prop := fnSealedRow.holds Try.pinned (OpenSpec.ofChange fnSealedSpec)

/-- ITS FALSE NEIGHBOUR: 'it returns false'. Refute it at one input. -/
def fnSealedWrong : ChangeSpec := { name := "fnSealed", fn := fun _ => fun
  | [d] => { results := [.lit (.bool false)], args := [d] }
  | _ => none }
def FnSealedWrongFalsely : Prop := fnSealedRow.holds Try.pinned (OpenSpec.ofChange fnSealedWrong)

/- THE SECOND FORM. 'bulk': how many values and letters a reading holds, each counted each time it is reached (what is shared counts as often as it is met; a slice's spare places count too). A statement '..UptoSaid' is the law's where the arguments, and the package variables that the reading takes, are together of bulk at most 1048576: NARROWER than '..Said'. Prove '..Said' where nothing that the law and all that it calls make is longer than what came in: it says more and counts as full. Else prove '..UptoSaid'. A law counts once. -/
mutual
def uptoBulk {H : Type} : DataW H → Nat
  | .lit (.string bytes) => bytes.length + 1
  | .lit _ => 1
  | .nil => 1
  | .ptr d => uptoBulk d + 1
  | .slice elems spare => uptoBulkAll elems + uptoBulkAll spare + 1
  | .agg parts => uptoBulkAll parts + 1
  | .iface _ d => uptoBulk d + 1
  | .map entries => uptoBulkEntries entries + 1
  | .held _ => 1
def uptoBulkAll {H : Type} : List (DataW H) → Nat
  | [] => 0
  | d :: r => uptoBulk d + uptoBulkAll r
def uptoBulkEntries {H : Type} : List (Lit × DataW H) → Nat
  | [] => 0
  | x :: r => uptoBulkEntry x + uptoBulkEntries r
def uptoBulkEntry {H : Type} : Lit × DataW H → Nat
  | (.string bytes, d) => bytes.length + uptoBulk d + 1
  | (_, d) => uptoBulk d + 1
 end
def uptoSmall : (H : Type) → List (DataW H) → Bool := fun _ ds => decide (uptoBulkAll ds ≤ 1048576)
def OpenSpec.upto (s : _root_.Go.ChangeSpec) : _root_.Go.OpenSpec := { _root_.Go.OpenSpec.ofChange s with cond := some uptoSmall }

/-- 'laws.FnExactAtRisk', WHERE WHAT IT READS IS OF BULK AT MOST 1048576: true; the input reads as it did. -/
def fnExactAtRiskUptoRow : OpenClaim := { program := "ytbbbajnnoficbaa", sum := "d7681b55289b524655cd32f31716d97ded14bfd9d73c26cd84c4aa86757b716c", func := "loop.example/g00648/laws.FnExactAtRisk", spec := "fnExactAtRisk", apart := false, narrowed := true }
def FnExactAtRiskUptoSaid : Prop := fnExactAtRiskUptoRow.holds Try.pinned (OpenSpec.upto fnExactAtRiskSpec)

/-- 'laws.FnExactCrash', WHERE WHAT IT READS IS OF BULK AT MOST 1048576: true; the input reads as it did. -/
def fnExactCrashUptoRow : OpenClaim := { program := "ytbbbajnnoficbaa", sum := "d7681b55289b524655cd32f31716d97ded14bfd9d73c26cd84c4aa86757b716c", func := "loop.example/g00648/laws.FnExactCrash", spec := "fnExactCrash", apart := false, narrowed := true }
def FnExactCrashUptoSaid : Prop := fnExactCrashUptoRow.holds Try.pinned (OpenSpec.upto fnExactCrashSpec)

/-- 'laws.FnExactFence', WHERE WHAT IT READS IS OF BULK AT MOST 1048576: true; the input reads as it did. -/
def fnExactFenceUptoRow : OpenClaim := { program := "ytbbbajnnoficbaa", sum := "d7681b55289b524655cd32f31716d97ded14bfd9d73c26cd84c4aa86757b716c", func := "loop.example/g00648/laws.FnExactFence", spec := "fnExactFence", apart := false, narrowed := true }
def FnExactFenceUptoSaid : Prop := fnExactFenceUptoRow.holds Try.pinned (OpenSpec.upto fnExactFenceSpec)

/-- 'laws.FnExactSeen', WHERE WHAT IT READS IS OF BULK AT MOST 1048576: true; the input reads as it did. -/
def fnExactSeenUptoRow : OpenClaim := { program := "ytbbbajnnoficbaa", sum := "d7681b55289b524655cd32f31716d97ded14bfd9d73c26cd84c4aa86757b716c", func := "loop.example/g00648/laws.FnExactSeen", spec := "fnExactSeen", inPlace := ["internal/abi.NoEscape"], unfollowed := true, recurses := true, apart := false, narrowed := true }
def FnExactSeenUptoSaid : Prop := fnExactSeenUptoRow.holds Try.pinned (OpenSpec.upto fnExactSeenSpec)

/-- 'laws.FnExactLoad', WHERE WHAT IT READS IS OF BULK AT MOST 1048576: true; the input reads as it did. -/
def fnExactLoadUptoRow : OpenClaim := { program := "ytbbbajnnoficbaa", sum := "d7681b55289b524655cd32f31716d97ded14bfd9d73c26cd84c4aa86757b716c", func := "loop.example/g00648/laws.FnExactLoad", spec := "fnExactLoad", inPlace := ["internal/abi.NoEscape"], unfollowed := true, recurses := true, apart := false, narrowed := true }
def FnExactLoadUptoSaid : Prop := fnExactLoadUptoRow.holds Try.pinned (OpenSpec.upto fnExactLoadSpec)

/-- 'laws.FnExactFlush', WHERE WHAT IT READS IS OF BULK AT MOST 1048576: true; the input reads as it did. -/
def fnExactFlushUptoRow : OpenClaim := { program := "ytbbbajnnoficbaa", sum := "d7681b55289b524655cd32f31716d97ded14bfd9d73c26cd84c4aa86757b716c", func := "loop.example/g00648/laws.FnExactFlush", spec := "fnExactFlush", unfollowed := true, recurses := true, apart := false, narrowed := true }
def FnExactFlushUptoSaid : Prop := fnExactFlushUptoRow.holds Try.pinned (OpenSpec.upto fnExactFlushSpec)

/-- 'laws.FnExactEvict', WHERE WHAT IT READS IS OF BULK AT MOST 1048576: true; the input reads as it did. -/
def fnExactEvictUptoRow : OpenClaim := { program := "ytbbbajnnoficbaa", sum := "d7681b55289b524655cd32f31716d97ded14bfd9d73c26cd84c4aa86757b716c", func := "loop.example/g00648/laws.FnExactEvict", spec := "fnExactEvict", unfollowed := true, recurses := true, apart := false, narrowed := true }
def FnExactEvictUptoSaid : Prop := fnExactEvictUptoRow.holds Try.pinned (OpenSpec.upto fnExactEvictSpec)

/-- 'laws.FnExactStore', WHERE WHAT IT READS IS OF BULK AT MOST 1048576: true; the input reads as it did. -/
def fnExactStoreUptoRow : OpenClaim := { program := "ytbbbajnnoficbaa", sum := "d7681b55289b524655cd32f31716d97ded14bfd9d73c26cd84c4aa86757b716c", func := "loop.example/g00648/laws.FnExactStore", spec := "fnExactStore", inPlace := ["slices.overlaps[loop.example/g00648/impl.Line]"], unfollowed := true, recurses := true, apart := false, narrowed := true }
def FnExactStoreUptoSaid : Prop := fnExactStoreUptoRow.holds Try.pinned (OpenSpec.upto fnExactStoreSpec)

/-- 'laws.FnFlushes', WHERE WHAT IT READS IS OF BULK AT MOST 1048576: true; the input reads as it did. -/
def fnFlushesUptoRow : OpenClaim := { program := "ytbbbajnnoficbaa", sum := "d7681b55289b524655cd32f31716d97ded14bfd9d73c26cd84c4aa86757b716c", func := "loop.example/g00648/laws.FnFlushes", spec := "fnFlushes", inPlace := ["internal/abi.NoEscape"], unfollowed := true, recurses := true, apart := false, narrowed := true }
def FnFlushesUptoSaid : Prop := fnFlushesUptoRow.holds Try.pinned (OpenSpec.upto fnFlushesSpec)

/-- 'laws.FnFenced', WHERE WHAT IT READS IS OF BULK AT MOST 1048576: true; the input reads as it did. -/
def fnFencedUptoRow : OpenClaim := { program := "ytbbbajnnoficbaa", sum := "d7681b55289b524655cd32f31716d97ded14bfd9d73c26cd84c4aa86757b716c", func := "loop.example/g00648/laws.FnFenced", spec := "fnFenced", inPlace := ["internal/abi.NoEscape"], unfollowed := true, recurses := true, apart := false, narrowed := true }
def FnFencedUptoSaid : Prop := fnFencedUptoRow.holds Try.pinned (OpenSpec.upto fnFencedSpec)

/-- 'laws.FnEvicted', WHERE WHAT IT READS IS OF BULK AT MOST 1048576: true; the input reads as it did. -/
def fnEvictedUptoRow : OpenClaim := { program := "ytbbbajnnoficbaa", sum := "d7681b55289b524655cd32f31716d97ded14bfd9d73c26cd84c4aa86757b716c", func := "loop.example/g00648/laws.FnEvicted", spec := "fnEvicted", inPlace := ["internal/abi.NoEscape"], unfollowed := true, recurses := true, apart := false, narrowed := true }
def FnEvictedUptoSaid : Prop := fnEvictedUptoRow.holds Try.pinned (OpenSpec.upto fnEvictedSpec)

/-- 'laws.FnStored', WHERE WHAT IT READS IS OF BULK AT MOST 1048576: true; the input reads as it did. -/
def fnStoredUptoRow : OpenClaim := { program := "ytbbbajnnoficbaa", sum := "d7681b55289b524655cd32f31716d97ded14bfd9d73c26cd84c4aa86757b716c", func := "loop.example/g00648/laws.FnStored", spec := "fnStored", inPlace := ["slices.overlaps[loop.example/g00648/impl.Line]", "internal/abi.NoEscape"], unfollowed := true, recurses := true, apart := false, narrowed := true }
def FnStoredUptoSaid : Prop := fnStoredUptoRow.holds Try.pinned (OpenSpec.upto fnStoredSpec)

/-- 'laws.FnSealed', WHERE WHAT IT READS IS OF BULK AT MOST 1048576: true; the input reads as it did. -/
def fnSealedUptoRow : OpenClaim := { program := "ytbbbajnnoficbaa", sum := "d7681b55289b524655cd32f31716d97ded14bfd9d73c26cd84c4aa86757b716c", func := "loop.example/g00648/laws.FnSealed", spec := "fnSealed", inPlace := ["internal/abi.NoEscape", "internal/bytealg.MakeNoZero"], apart := false, narrowed := true }
def FnSealedUptoSaid : Prop := fnSealedUptoRow.holds Try.pinned (OpenSpec.upto fnSealedSpec)

end Rows
end Go.Proofs.Ytbbbajnnoficbaa
