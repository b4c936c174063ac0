/-
  No cell of these rows narrows 'for every input' (looked for: loops, veiled, ifaces, maps, wideKeys, modest, calm, conditions, laid).
  DERIVED. THE GIVEN ROWS OF THIS SEAT. 20 by the template 'for every input the law returns true; each argument reads behind the call as it read before'; 0 by the template 'total and deterministic' (their statements: YtfcnangllgaliaaTotals.lean).
  GIVEN WITH THE SEED: the statements are not yours to turn. If you find one false, say at which input.
  Laid BY PROGRAM, IN A SANDBOX (cutbox-rows.mjs): the forced cells as the released guide's own fill.sh prints them over the translation 84aa2d14f83f7411… (all of the seat's roots in one cut). By AI agents, Wed Nov 11 2026. No macro, syntax, notation, axiom, sorry.
-/
import Derived.Test.YtfcnangllgaliaaChecked
import GoSem.Claim
import GoSem.ClaimJoined
import GoSem.ClaimMapViews
import Derived.JoinedTies
import Derived.KernelRfl
namespace Go.Proofs.Ytfcnangllgaliaa
/- THE CELL 'sum', in the pinned program and in every row, IS THE sha256 OF THE DUMP (.gsa) THAT YtfcnangllgaliaaProg.lean LOADS. Nothing in Lean hashes anything: it is a label: what it is worth is what the hold of that sum in a sandbox is worth. -/
noncomputable def Try.pinned : Pinned := { name := "ytfcnangllgaliaa", sum := "84aa2d14f83f7411c3ea83b54ed17fa809dff558edb6e67a2f7d5bfe41ce49d3", checked := Try.checked }
namespace Rows
def none {H : Type} : Left H := { results := [], args := [] }

/-- 'laws.FnExactAtRisk': WHATEVER THE INPUT: true; the input reads as it did. -/
def fnExactAtRiskSpec : ChangeSpec := { name := "fnExactAtRisk", fn := fun _ => fun
  | [d] => { results := [.lit (.bool true)], args := [d] }
  | _ => none }
def fnExactAtRiskRow : OpenClaim := { program := "ytfcnangllgaliaa", sum := "84aa2d14f83f7411c3ea83b54ed17fa809dff558edb6e67a2f7d5bfe41ce49d3", func := "loop.example/g00648/laws.FnExactAtRisk", spec := "fnExactAtRisk", apart := false }
def FnExactAtRiskSaid : Prop := fnExactAtRiskRow.holds Try.pinned (OpenSpec.ofChange fnExactAtRiskSpec)

/-- ITS FALSE NEIGHBOUR: 'it returns false'. Refute it at one input. -/
def fnExactAtRiskWrong : ChangeSpec := { name := "fnExactAtRisk", fn := fun _ => fun
  | [d] => { results := [.lit (.bool false)], args := [d] }
  | _ => none }
def FnExactAtRiskWrongFalsely : Prop := fnExactAtRiskRow.holds Try.pinned (OpenSpec.ofChange fnExactAtRiskWrong)

/-- 'laws.FnExactSealed': WHATEVER THE INPUT: true; the input reads as it did. -/
def fnExactSealedSpec : ChangeSpec := { name := "fnExactSealed", fn := fun _ => fun
  | [d] => { results := [.lit (.bool true)], args := [d] }
  | _ => none }
def fnExactSealedRow : OpenClaim := { program := "ytfcnangllgaliaa", sum := "84aa2d14f83f7411c3ea83b54ed17fa809dff558edb6e67a2f7d5bfe41ce49d3", func := "loop.example/g00648/laws.FnExactSealed", spec := "fnExactSealed", inPlace := ["internal/abi.NoEscape", "internal/bytealg.MakeNoZero"], apart := false }
def FnExactSealedSaid : Prop := fnExactSealedRow.holds Try.pinned (OpenSpec.ofChange fnExactSealedSpec)

/-- ITS FALSE NEIGHBOUR: 'it returns false'. Refute it at one input. -/
def fnExactSealedWrong : ChangeSpec := { name := "fnExactSealed", fn := fun _ => fun
  | [d] => { results := [.lit (.bool false)], args := [d] }
  | _ => none }
def FnExactSealedWrongFalsely : Prop := fnExactSealedRow.holds Try.pinned (OpenSpec.ofChange fnExactSealedWrong)

/-- 'laws.FnExactLoad': WHATEVER THE INPUT: true; the input reads as it did. -/
def fnExactLoadSpec : ChangeSpec := { name := "fnExactLoad", fn := fun _ => fun
  | [d1, d2, d3] => { results := [.lit (.bool true)], args := [d1, d2, d3] }
  | _ => none }
def fnExactLoadRow : OpenClaim := { program := "ytfcnangllgaliaa", sum := "84aa2d14f83f7411c3ea83b54ed17fa809dff558edb6e67a2f7d5bfe41ce49d3", func := "loop.example/g00648/laws.FnExactLoad", spec := "fnExactLoad", inPlace := ["internal/abi.NoEscape"], unfollowed := true, recurses := true, apart := false }
def FnExactLoadSaid : Prop := fnExactLoadRow.holds Try.pinned (OpenSpec.ofChange fnExactLoadSpec)

/-- ITS FALSE NEIGHBOUR: 'it returns false'. Refute it at one input. -/
def fnExactLoadWrong : ChangeSpec := { name := "fnExactLoad", fn := fun _ => fun
  | [d1, d2, d3] => { results := [.lit (.bool false)], args := [d1, d2, d3] }
  | _ => none }
def FnExactLoadWrongFalsely : Prop := fnExactLoadRow.holds Try.pinned (OpenSpec.ofChange fnExactLoadWrong)

/-- 'laws.FnExactSeen': WHATEVER THE INPUT: true; the input reads as it did. -/
def fnExactSeenSpec : ChangeSpec := { name := "fnExactSeen", fn := fun _ => fun
  | [d] => { results := [.lit (.bool true)], args := [d] }
  | _ => none }
def fnExactSeenRow : OpenClaim := { program := "ytfcnangllgaliaa", sum := "84aa2d14f83f7411c3ea83b54ed17fa809dff558edb6e67a2f7d5bfe41ce49d3", func := "loop.example/g00648/laws.FnExactSeen", spec := "fnExactSeen", inPlace := ["internal/abi.NoEscape"], unfollowed := true, recurses := true, apart := false }
def FnExactSeenSaid : Prop := fnExactSeenRow.holds Try.pinned (OpenSpec.ofChange fnExactSeenSpec)

/-- ITS FALSE NEIGHBOUR: 'it returns false'. Refute it at one input. -/
def fnExactSeenWrong : ChangeSpec := { name := "fnExactSeen", fn := fun _ => fun
  | [d] => { results := [.lit (.bool false)], args := [d] }
  | _ => none }
def FnExactSeenWrongFalsely : Prop := fnExactSeenRow.holds Try.pinned (OpenSpec.ofChange fnExactSeenWrong)

/-- 'laws.FnExactFence': WHATEVER THE INPUT: true; the input reads as it did. -/
def fnExactFenceSpec : ChangeSpec := { name := "fnExactFence", fn := fun _ => fun
  | [d] => { results := [.lit (.bool true)], args := [d] }
  | _ => none }
def fnExactFenceRow : OpenClaim := { program := "ytfcnangllgaliaa", sum := "84aa2d14f83f7411c3ea83b54ed17fa809dff558edb6e67a2f7d5bfe41ce49d3", func := "loop.example/g00648/laws.FnExactFence", spec := "fnExactFence", apart := false }
def FnExactFenceSaid : Prop := fnExactFenceRow.holds Try.pinned (OpenSpec.ofChange fnExactFenceSpec)

/-- ITS FALSE NEIGHBOUR: 'it returns false'. Refute it at one input. -/
def fnExactFenceWrong : ChangeSpec := { name := "fnExactFence", fn := fun _ => fun
  | [d] => { results := [.lit (.bool false)], args := [d] }
  | _ => none }
def FnExactFenceWrongFalsely : Prop := fnExactFenceRow.holds Try.pinned (OpenSpec.ofChange fnExactFenceWrong)

/-- 'laws.FnExactEpochLine': WHATEVER THE INPUT: true; the input reads as it did. -/
def fnExactEpochLineSpec : ChangeSpec := { name := "fnExactEpochLine", fn := fun _ => fun
  | [d] => { results := [.lit (.bool true)], args := [d] }
  | _ => none }
def fnExactEpochLineRow : OpenClaim := { program := "ytfcnangllgaliaa", sum := "84aa2d14f83f7411c3ea83b54ed17fa809dff558edb6e67a2f7d5bfe41ce49d3", func := "loop.example/g00648/laws.FnExactEpochLine", spec := "fnExactEpochLine", inPlace := ["internal/abi.NoEscape", "internal/bytealg.MakeNoZero"], apart := false }
def FnExactEpochLineSaid : Prop := fnExactEpochLineRow.holds Try.pinned (OpenSpec.ofChange fnExactEpochLineSpec)

/-- ITS FALSE NEIGHBOUR: 'it returns false'. Refute it at one input. -/
def fnExactEpochLineWrong : ChangeSpec := { name := "fnExactEpochLine", fn := fun _ => fun
  | [d] => { results := [.lit (.bool false)], args := [d] }
  | _ => none }
def FnExactEpochLineWrongFalsely : Prop := fnExactEpochLineRow.holds Try.pinned (OpenSpec.ofChange fnExactEpochLineWrong)

/-- 'laws.FnExactCrash': WHATEVER THE INPUT: true; the input reads as it did. -/
def fnExactCrashSpec : ChangeSpec := { name := "fnExactCrash", fn := fun _ => fun
  | [d1, d2] => { results := [.lit (.bool true)], args := [d1, d2] }
  | _ => none }
def fnExactCrashRow : OpenClaim := { program := "ytfcnangllgaliaa", sum := "84aa2d14f83f7411c3ea83b54ed17fa809dff558edb6e67a2f7d5bfe41ce49d3", func := "loop.example/g00648/laws.FnExactCrash", spec := "fnExactCrash", apart := false }
def FnExactCrashSaid : Prop := fnExactCrashRow.holds Try.pinned (OpenSpec.ofChange fnExactCrashSpec)

/-- ITS FALSE NEIGHBOUR: 'it returns false'. Refute it at one input. -/
def fnExactCrashWrong : ChangeSpec := { name := "fnExactCrash", fn := fun _ => fun
  | [d1, d2] => { results := [.lit (.bool false)], args := [d1, d2] }
  | _ => none }
def FnExactCrashWrongFalsely : Prop := fnExactCrashRow.holds Try.pinned (OpenSpec.ofChange fnExactCrashWrong)

/-- 'laws.FnSealed': WHATEVER THE INPUT: true; the input reads as it did. -/
def fnSealedSpec : ChangeSpec := { name := "fnSealed", fn := fun _ => fun
  | [d] => { results := [.lit (.bool true)], args := [d] }
  | _ => none }
def fnSealedRow : OpenClaim := { program := "ytfcnangllgaliaa", sum := "84aa2d14f83f7411c3ea83b54ed17fa809dff558edb6e67a2f7d5bfe41ce49d3", func := "loop.example/g00648/laws.FnSealed", spec := "fnSealed", inPlace := ["internal/abi.NoEscape", "internal/bytealg.MakeNoZero"], apart := false }
def FnSealedSaid : Prop := fnSealedRow.holds Try.pinned (OpenSpec.ofChange fnSealedSpec)

/-- ITS FALSE NEIGHBOUR: 'it returns false'. Refute it at one input. -/
def fnSealedWrong : ChangeSpec := { name := "fnSealed", fn := fun _ => fun
  | [d] => { results := [.lit (.bool false)], args := [d] }
  | _ => none }
def FnSealedWrongFalsely : Prop := fnSealedRow.holds Try.pinned (OpenSpec.ofChange fnSealedWrong)

/-- 'laws.FnExactFlush': WHATEVER THE INPUT: true; the input reads as it did. -/
def fnExactFlushSpec : ChangeSpec := { name := "fnExactFlush", fn := fun _ => fun
  | [d1, d2] => { results := [.lit (.bool true)], args := [d1, d2] }
  | _ => none }
def fnExactFlushRow : OpenClaim := { program := "ytfcnangllgaliaa", sum := "84aa2d14f83f7411c3ea83b54ed17fa809dff558edb6e67a2f7d5bfe41ce49d3", func := "loop.example/g00648/laws.FnExactFlush", spec := "fnExactFlush", unfollowed := true, recurses := true, apart := false }
def FnExactFlushSaid : Prop := fnExactFlushRow.holds Try.pinned (OpenSpec.ofChange fnExactFlushSpec)

/-- ITS FALSE NEIGHBOUR: 'it returns false'. Refute it at one input. -/
def fnExactFlushWrong : ChangeSpec := { name := "fnExactFlush", fn := fun _ => fun
  | [d1, d2] => { results := [.lit (.bool false)], args := [d1, d2] }
  | _ => none }
def FnExactFlushWrongFalsely : Prop := fnExactFlushRow.holds Try.pinned (OpenSpec.ofChange fnExactFlushWrong)

/-- 'laws.FnExactRecordLine': WHATEVER THE INPUT: true; the input reads as it did. -/
def fnExactRecordLineSpec : ChangeSpec := { name := "fnExactRecordLine", fn := fun _ => fun
  | [d] => { results := [.lit (.bool true)], args := [d] }
  | _ => none }
def fnExactRecordLineRow : OpenClaim := { program := "ytfcnangllgaliaa", sum := "84aa2d14f83f7411c3ea83b54ed17fa809dff558edb6e67a2f7d5bfe41ce49d3", func := "loop.example/g00648/laws.FnExactRecordLine", spec := "fnExactRecordLine", inPlace := ["internal/abi.NoEscape", "internal/bytealg.MakeNoZero"], apart := false }
def FnExactRecordLineSaid : Prop := fnExactRecordLineRow.holds Try.pinned (OpenSpec.ofChange fnExactRecordLineSpec)

/-- ITS FALSE NEIGHBOUR: 'it returns false'. Refute it at one input. -/
def fnExactRecordLineWrong : ChangeSpec := { name := "fnExactRecordLine", fn := fun _ => fun
  | [d] => { results := [.lit (.bool false)], args := [d] }
  | _ => none }
def FnExactRecordLineWrongFalsely : Prop := fnExactRecordLineRow.holds Try.pinned (OpenSpec.ofChange fnExactRecordLineWrong)

/-- 'laws.FnExactEvict': WHATEVER THE INPUT: true; the input reads as it did. -/
def fnExactEvictSpec : ChangeSpec := { name := "fnExactEvict", fn := fun _ => fun
  | [d1, d2] => { results := [.lit (.bool true)], args := [d1, d2] }
  | _ => none }
def fnExactEvictRow : OpenClaim := { program := "ytfcnangllgaliaa", sum := "84aa2d14f83f7411c3ea83b54ed17fa809dff558edb6e67a2f7d5bfe41ce49d3", func := "loop.example/g00648/laws.FnExactEvict", spec := "fnExactEvict", unfollowed := true, recurses := true, apart := false }
def FnExactEvictSaid : Prop := fnExactEvictRow.holds Try.pinned (OpenSpec.ofChange fnExactEvictSpec)

/-- ITS FALSE NEIGHBOUR: 'it returns false'. Refute it at one input. -/
def fnExactEvictWrong : ChangeSpec := { name := "fnExactEvict", fn := fun _ => fun
  | [d1, d2] => { results := [.lit (.bool false)], args := [d1, d2] }
  | _ => none }
def FnExactEvictWrongFalsely : Prop := fnExactEvictRow.holds Try.pinned (OpenSpec.ofChange fnExactEvictWrong)

/-- 'laws.FnExactReadEpoch': WHATEVER THE INPUT: true; the input reads as it did. -/
def fnExactReadEpochSpec : ChangeSpec := { name := "fnExactReadEpoch", fn := fun _ => fun
  | [d] => { results := [.lit (.bool true)], args := [d] }
  | _ => none }
def fnExactReadEpochRow : OpenClaim := { program := "ytfcnangllgaliaa", sum := "84aa2d14f83f7411c3ea83b54ed17fa809dff558edb6e67a2f7d5bfe41ce49d3", func := "loop.example/g00648/laws.FnExactReadEpoch", spec := "fnExactReadEpoch", inPlace := ["internal/abi.NoEscape", "internal/bytealg.MakeNoZero"], apart := false }
def FnExactReadEpochSaid : Prop := fnExactReadEpochRow.holds Try.pinned (OpenSpec.ofChange fnExactReadEpochSpec)

/-- ITS FALSE NEIGHBOUR: 'it returns false'. Refute it at one input. -/
def fnExactReadEpochWrong : ChangeSpec := { name := "fnExactReadEpoch", fn := fun _ => fun
  | [d] => { results := [.lit (.bool false)], args := [d] }
  | _ => none }
def FnExactReadEpochWrongFalsely : Prop := fnExactReadEpochRow.holds Try.pinned (OpenSpec.ofChange fnExactReadEpochWrong)

/-- 'laws.FnExactReadRecord': WHATEVER THE INPUT: true; the input reads as it did. -/
def fnExactReadRecordSpec : ChangeSpec := { name := "fnExactReadRecord", fn := fun _ => fun
  | [d] => { results := [.lit (.bool true)], args := [d] }
  | _ => none }
def fnExactReadRecordRow : OpenClaim := { program := "ytfcnangllgaliaa", sum := "84aa2d14f83f7411c3ea83b54ed17fa809dff558edb6e67a2f7d5bfe41ce49d3", func := "loop.example/g00648/laws.FnExactReadRecord", spec := "fnExactReadRecord", inPlace := ["internal/abi.NoEscape", "internal/bytealg.MakeNoZero"], apart := false }
def FnExactReadRecordSaid : Prop := fnExactReadRecordRow.holds Try.pinned (OpenSpec.ofChange fnExactReadRecordSpec)

/-- ITS FALSE NEIGHBOUR: 'it returns false'. Refute it at one input. -/
def fnExactReadRecordWrong : ChangeSpec := { name := "fnExactReadRecord", fn := fun _ => fun
  | [d] => { results := [.lit (.bool false)], args := [d] }
  | _ => none }
def FnExactReadRecordWrongFalsely : Prop := fnExactReadRecordRow.holds Try.pinned (OpenSpec.ofChange fnExactReadRecordWrong)

/-- 'laws.FnEpochs': WHATEVER THE INPUT: true; the input reads as it did. -/
def fnEpochsSpec : ChangeSpec := { name := "fnEpochs", fn := fun _ => fun
  | [d1, d2] => { results := [.lit (.bool true)], args := [d1, d2] }
  | _ => none }
def fnEpochsRow : OpenClaim := { program := "ytfcnangllgaliaa", sum := "84aa2d14f83f7411c3ea83b54ed17fa809dff558edb6e67a2f7d5bfe41ce49d3", func := "loop.example/g00648/laws.FnEpochs", spec := "fnEpochs", inPlace := ["internal/abi.NoEscape", "internal/bytealg.MakeNoZero"], apart := false }
def FnEpochsSaid : Prop := fnEpochsRow.holds Try.pinned (OpenSpec.ofChange fnEpochsSpec)

/-- ITS FALSE NEIGHBOUR: 'it returns false'. Refute it at one input. -/
def fnEpochsWrong : ChangeSpec := { name := "fnEpochs", fn := fun _ => fun
  | [d1, d2] => { results := [.lit (.bool false)], args := [d1, d2] }
  | _ => none }
def FnEpochsWrongFalsely : Prop := fnEpochsRow.holds Try.pinned (OpenSpec.ofChange fnEpochsWrong)

/-- 'laws.FnFlushes': WHATEVER THE INPUT: true; the input reads as it did. -/
def fnFlushesSpec : ChangeSpec := { name := "fnFlushes", fn := fun _ => fun
  | [d1, d2] => { results := [.lit (.bool true)], args := [d1, d2] }
  | _ => none }
def fnFlushesRow : OpenClaim := { program := "ytfcnangllgaliaa", sum := "84aa2d14f83f7411c3ea83b54ed17fa809dff558edb6e67a2f7d5bfe41ce49d3", func := "loop.example/g00648/laws.FnFlushes", spec := "fnFlushes", inPlace := ["internal/abi.NoEscape"], unfollowed := true, recurses := true, apart := false }
def FnFlushesSaid : Prop := fnFlushesRow.holds Try.pinned (OpenSpec.ofChange fnFlushesSpec)

/-- ITS FALSE NEIGHBOUR: 'it returns false'. Refute it at one input. -/
def fnFlushesWrong : ChangeSpec := { name := "fnFlushes", fn := fun _ => fun
  | [d1, d2] => { results := [.lit (.bool false)], args := [d1, d2] }
  | _ => none }
def FnFlushesWrongFalsely : Prop := fnFlushesRow.holds Try.pinned (OpenSpec.ofChange fnFlushesWrong)

/-- 'laws.FnExactStore': WHATEVER THE INPUT: true; the input reads as it did. -/
def fnExactStoreSpec : ChangeSpec := { name := "fnExactStore", fn := fun _ => fun
  | [d1, d2, d3] => { results := [.lit (.bool true)], args := [d1, d2, d3] }
  | _ => none }
def fnExactStoreRow : OpenClaim := { program := "ytfcnangllgaliaa", sum := "84aa2d14f83f7411c3ea83b54ed17fa809dff558edb6e67a2f7d5bfe41ce49d3", func := "loop.example/g00648/laws.FnExactStore", spec := "fnExactStore", inPlace := ["slices.overlaps[loop.example/g00648/impl.Line]"], unfollowed := true, recurses := true, apart := false }
def FnExactStoreSaid : Prop := fnExactStoreRow.holds Try.pinned (OpenSpec.ofChange fnExactStoreSpec)

/-- ITS FALSE NEIGHBOUR: 'it returns false'. Refute it at one input. -/
def fnExactStoreWrong : ChangeSpec := { name := "fnExactStore", fn := fun _ => fun
  | [d1, d2, d3] => { results := [.lit (.bool false)], args := [d1, d2, d3] }
  | _ => none }
def FnExactStoreWrongFalsely : Prop := fnExactStoreRow.holds Try.pinned (OpenSpec.ofChange fnExactStoreWrong)

/-- 'laws.FnFenced': WHATEVER THE INPUT: true; the input reads as it did. -/
def fnFencedSpec : ChangeSpec := { name := "fnFenced", fn := fun _ => fun
  | [d] => { results := [.lit (.bool true)], args := [d] }
  | _ => none }
def fnFencedRow : OpenClaim := { program := "ytfcnangllgaliaa", sum := "84aa2d14f83f7411c3ea83b54ed17fa809dff558edb6e67a2f7d5bfe41ce49d3", func := "loop.example/g00648/laws.FnFenced", spec := "fnFenced", inPlace := ["internal/abi.NoEscape"], unfollowed := true, recurses := true, apart := false }
def FnFencedSaid : Prop := fnFencedRow.holds Try.pinned (OpenSpec.ofChange fnFencedSpec)

/-- ITS FALSE NEIGHBOUR: 'it returns false'. Refute it at one input. -/
def fnFencedWrong : ChangeSpec := { name := "fnFenced", fn := fun _ => fun
  | [d] => { results := [.lit (.bool false)], args := [d] }
  | _ => none }
def FnFencedWrongFalsely : Prop := fnFencedRow.holds Try.pinned (OpenSpec.ofChange fnFencedWrong)

/-- 'laws.FnRecords': WHATEVER THE INPUT: true; the input reads as it did. -/
def fnRecordsSpec : ChangeSpec := { name := "fnRecords", fn := fun _ => fun
  | [d] => { results := [.lit (.bool true)], args := [d] }
  | _ => none }
def fnRecordsRow : OpenClaim := { program := "ytfcnangllgaliaa", sum := "84aa2d14f83f7411c3ea83b54ed17fa809dff558edb6e67a2f7d5bfe41ce49d3", func := "loop.example/g00648/laws.FnRecords", spec := "fnRecords", inPlace := ["internal/abi.NoEscape", "internal/bytealg.MakeNoZero"], apart := false }
def FnRecordsSaid : Prop := fnRecordsRow.holds Try.pinned (OpenSpec.ofChange fnRecordsSpec)

/-- ITS FALSE NEIGHBOUR: 'it returns false'. Refute it at one input. -/
def fnRecordsWrong : ChangeSpec := { name := "fnRecords", fn := fun _ => fun
  | [d] => { results := [.lit (.bool false)], args := [d] }
  | _ => none }
def FnRecordsWrongFalsely : Prop := fnRecordsRow.holds Try.pinned (OpenSpec.ofChange fnRecordsWrong)

/-- 'laws.FnEvicted': WHATEVER THE INPUT: true; the input reads as it did. -/
def fnEvictedSpec : ChangeSpec := { name := "fnEvicted", fn := fun _ => fun
  | [d] => { results := [.lit (.bool true)], args := [d] }
  | _ => none }
def fnEvictedRow : OpenClaim := { program := "ytfcnangllgaliaa", sum := "84aa2d14f83f7411c3ea83b54ed17fa809dff558edb6e67a2f7d5bfe41ce49d3", func := "loop.example/g00648/laws.FnEvicted", spec := "fnEvicted", inPlace := ["internal/abi.NoEscape"], unfollowed := true, recurses := true, apart := false }
def FnEvictedSaid : Prop := fnEvictedRow.holds Try.pinned (OpenSpec.ofChange fnEvictedSpec)

/-- ITS FALSE NEIGHBOUR: 'it returns false'. Refute it at one input. -/
def fnEvictedWrong : ChangeSpec := { name := "fnEvicted", fn := fun _ => fun
  | [d] => { results := [.lit (.bool false)], args := [d] }
  | _ => none }
def FnEvictedWrongFalsely : Prop := fnEvictedRow.holds Try.pinned (OpenSpec.ofChange fnEvictedWrong)

/-- 'laws.FnStored': WHATEVER THE INPUT: true; the input reads as it did. -/
def fnStoredSpec : ChangeSpec := { name := "fnStored", fn := fun _ => fun
  | [d] => { results := [.lit (.bool true)], args := [d] }
  | _ => none }
def fnStoredRow : OpenClaim := { program := "ytfcnangllgaliaa", sum := "84aa2d14f83f7411c3ea83b54ed17fa809dff558edb6e67a2f7d5bfe41ce49d3", func := "loop.example/g00648/laws.FnStored", spec := "fnStored", inPlace := ["slices.overlaps[loop.example/g00648/impl.Line]", "internal/abi.NoEscape"], unfollowed := true, recurses := true, apart := false }
def FnStoredSaid : Prop := fnStoredRow.holds Try.pinned (OpenSpec.ofChange fnStoredSpec)

/-- ITS FALSE NEIGHBOUR: 'it returns false'. Refute it at one input. -/
def fnStoredWrong : ChangeSpec := { name := "fnStored", fn := fun _ => fun
  | [d] => { results := [.lit (.bool false)], args := [d] }
  | _ => none }
def FnStoredWrongFalsely : Prop := fnStoredRow.holds Try.pinned (OpenSpec.ofChange fnStoredWrong)

/- THE SECOND FORM. 'bulk': how many values and letters a reading holds, each counted each time it is reached (what is shared counts as often as it is met; a slice's spare places count too). A statement '..UptoSaid' is the law's where the arguments, and the package variables that the reading takes, are together of bulk at most 1048576: NARROWER than '..Said'. Prove '..Said' where nothing that the law and all that it calls make is longer than what came in: it says more and counts as full. Else prove '..UptoSaid'. A law counts once. -/
mutual
def uptoBulk {H : Type} : DataW H → Nat
  | .lit (.string bytes) => bytes.length + 1
  | .lit _ => 1
  | .nil => 1
  | .ptr d => uptoBulk d + 1
  | .slice elems spare => uptoBulkAll elems + uptoBulkAll spare + 1
  | .agg parts => uptoBulkAll parts + 1
  | .iface _ d => uptoBulk d + 1
  | .map entries => uptoBulkEntries entries + 1
  | .held _ => 1
def uptoBulkAll {H : Type} : List (DataW H) → Nat
  | [] => 0
  | d :: r => uptoBulk d + uptoBulkAll r
def uptoBulkEntries {H : Type} : List (Lit × DataW H) → Nat
  | [] => 0
  | x :: r => uptoBulkEntry x + uptoBulkEntries r
def uptoBulkEntry {H : Type} : Lit × DataW H → Nat
  | (.string bytes, d) => bytes.length + uptoBulk d + 1
  | (_, d) => uptoBulk d + 1
 end
def uptoSmall : (H : Type) → List (DataW H) → Bool := fun _ ds => decide (uptoBulkAll ds ≤ 1048576)
def OpenSpec.upto (s : _root_.Go.ChangeSpec) : _root_.Go.OpenSpec := { _root_.Go.OpenSpec.ofChange s with cond := some uptoSmall }

/-- 'laws.FnExactAtRisk', WHERE WHAT IT READS IS OF BULK AT MOST 1048576: true; the input reads as it did. -/
def fnExactAtRiskUptoRow : OpenClaim := { program := "ytfcnangllgaliaa", sum := "84aa2d14f83f7411c3ea83b54ed17fa809dff558edb6e67a2f7d5bfe41ce49d3", func := "loop.example/g00648/laws.FnExactAtRisk", spec := "fnExactAtRisk", apart := false, narrowed := true }
def FnExactAtRiskUptoSaid : Prop := fnExactAtRiskUptoRow.holds Try.pinned (OpenSpec.upto fnExactAtRiskSpec)

/-- 'laws.FnExactSealed', WHERE WHAT IT READS IS OF BULK AT MOST 1048576: true; the input reads as it did. -/
def fnExactSealedUptoRow : OpenClaim := { program := "ytfcnangllgaliaa", sum := "84aa2d14f83f7411c3ea83b54ed17fa809dff558edb6e67a2f7d5bfe41ce49d3", func := "loop.example/g00648/laws.FnExactSealed", spec := "fnExactSealed", inPlace := ["internal/abi.NoEscape", "internal/bytealg.MakeNoZero"], apart := false, narrowed := true }
def FnExactSealedUptoSaid : Prop := fnExactSealedUptoRow.holds Try.pinned (OpenSpec.upto fnExactSealedSpec)

/-- 'laws.FnExactLoad', WHERE WHAT IT READS IS OF BULK AT MOST 1048576: true; the input reads as it did. -/
def fnExactLoadUptoRow : OpenClaim := { program := "ytfcnangllgaliaa", sum := "84aa2d14f83f7411c3ea83b54ed17fa809dff558edb6e67a2f7d5bfe41ce49d3", func := "loop.example/g00648/laws.FnExactLoad", spec := "fnExactLoad", inPlace := ["internal/abi.NoEscape"], unfollowed := true, recurses := true, apart := false, narrowed := true }
def FnExactLoadUptoSaid : Prop := fnExactLoadUptoRow.holds Try.pinned (OpenSpec.upto fnExactLoadSpec)

/-- 'laws.FnExactSeen', WHERE WHAT IT READS IS OF BULK AT MOST 1048576: true; the input reads as it did. -/
def fnExactSeenUptoRow : OpenClaim := { program := "ytfcnangllgaliaa", sum := "84aa2d14f83f7411c3ea83b54ed17fa809dff558edb6e67a2f7d5bfe41ce49d3", func := "loop.example/g00648/laws.FnExactSeen", spec := "fnExactSeen", inPlace := ["internal/abi.NoEscape"], unfollowed := true, recurses := true, apart := false, narrowed := true }
def FnExactSeenUptoSaid : Prop := fnExactSeenUptoRow.holds Try.pinned (OpenSpec.upto fnExactSeenSpec)

/-- 'laws.FnExactFence', WHERE WHAT IT READS IS OF BULK AT MOST 1048576: true; the input reads as it did. -/
def fnExactFenceUptoRow : OpenClaim := { program := "ytfcnangllgaliaa", sum := "84aa2d14f83f7411c3ea83b54ed17fa809dff558edb6e67a2f7d5bfe41ce49d3", func := "loop.example/g00648/laws.FnExactFence", spec := "fnExactFence", apart := false, narrowed := true }
def FnExactFenceUptoSaid : Prop := fnExactFenceUptoRow.holds Try.pinned (OpenSpec.upto fnExactFenceSpec)

/-- 'laws.FnExactEpochLine', WHERE WHAT IT READS IS OF BULK AT MOST 1048576: true; the input reads as it did. -/
def fnExactEpochLineUptoRow : OpenClaim := { program := "ytfcnangllgaliaa", sum := "84aa2d14f83f7411c3ea83b54ed17fa809dff558edb6e67a2f7d5bfe41ce49d3", func := "loop.example/g00648/laws.FnExactEpochLine", spec := "fnExactEpochLine", inPlace := ["internal/abi.NoEscape", "internal/bytealg.MakeNoZero"], apart := false, narrowed := true }
def FnExactEpochLineUptoSaid : Prop := fnExactEpochLineUptoRow.holds Try.pinned (OpenSpec.upto fnExactEpochLineSpec)

/-- 'laws.FnExactCrash', WHERE WHAT IT READS IS OF BULK AT MOST 1048576: true; the input reads as it did. -/
def fnExactCrashUptoRow : OpenClaim := { program := "ytfcnangllgaliaa", sum := "84aa2d14f83f7411c3ea83b54ed17fa809dff558edb6e67a2f7d5bfe41ce49d3", func := "loop.example/g00648/laws.FnExactCrash", spec := "fnExactCrash", apart := false, narrowed := true }
def FnExactCrashUptoSaid : Prop := fnExactCrashUptoRow.holds Try.pinned (OpenSpec.upto fnExactCrashSpec)

/-- 'laws.FnSealed', WHERE WHAT IT READS IS OF BULK AT MOST 1048576: true; the input reads as it did. -/
def fnSealedUptoRow : OpenClaim := { program := "ytfcnangllgaliaa", sum := "84aa2d14f83f7411c3ea83b54ed17fa809dff558edb6e67a2f7d5bfe41ce49d3", func := "loop.example/g00648/laws.FnSealed", spec := "fnSealed", inPlace := ["internal/abi.NoEscape", "internal/bytealg.MakeNoZero"], apart := false, narrowed := true }
def FnSealedUptoSaid : Prop := fnSealedUptoRow.holds Try.pinned (OpenSpec.upto fnSealedSpec)

/-- 'laws.FnExactFlush', WHERE WHAT IT READS IS OF BULK AT MOST 1048576: true; the input reads as it did. -/
def fnExactFlushUptoRow : OpenClaim := { program := "ytfcnangllgaliaa", sum := "84aa2d14f83f7411c3ea83b54ed17fa809dff558edb6e67a2f7d5bfe41ce49d3", func := "loop.example/g00648/laws.FnExactFlush", spec := "fnExactFlush", unfollowed := true, recurses := true, apart := false, narrowed := true }
def FnExactFlushUptoSaid : Prop := fnExactFlushUptoRow.holds Try.pinned (OpenSpec.upto fnExactFlushSpec)

/-- 'laws.FnExactRecordLine', WHERE WHAT IT READS IS OF BULK AT MOST 1048576: true; the input reads as it did. -/
def fnExactRecordLineUptoRow : OpenClaim := { program := "ytfcnangllgaliaa", sum := "84aa2d14f83f7411c3ea83b54ed17fa809dff558edb6e67a2f7d5bfe41ce49d3", func := "loop.example/g00648/laws.FnExactRecordLine", spec := "fnExactRecordLine", inPlace := ["internal/abi.NoEscape", "internal/bytealg.MakeNoZero"], apart := false, narrowed := true }
def FnExactRecordLineUptoSaid : Prop := fnExactRecordLineUptoRow.holds Try.pinned (OpenSpec.upto fnExactRecordLineSpec)

/-- 'laws.FnExactEvict', WHERE WHAT IT READS IS OF BULK AT MOST 1048576: true; the input reads as it did. -/
def fnExactEvictUptoRow : OpenClaim := { program := "ytfcnangllgaliaa", sum := "84aa2d14f83f7411c3ea83b54ed17fa809dff558edb6e67a2f7d5bfe41ce49d3", func := "loop.example/g00648/laws.FnExactEvict", spec := "fnExactEvict", unfollowed := true, recurses := true, apart := false, narrowed := true }
def FnExactEvictUptoSaid : Prop := fnExactEvictUptoRow.holds Try.pinned (OpenSpec.upto fnExactEvictSpec)

/-- 'laws.FnExactReadEpoch', WHERE WHAT IT READS IS OF BULK AT MOST 1048576: true; the input reads as it did. -/
def fnExactReadEpochUptoRow : OpenClaim := { program := "ytfcnangllgaliaa", sum := "84aa2d14f83f7411c3ea83b54ed17fa809dff558edb6e67a2f7d5bfe41ce49d3", func := "loop.example/g00648/laws.FnExactReadEpoch", spec := "fnExactReadEpoch", inPlace := ["internal/abi.NoEscape", "internal/bytealg.MakeNoZero"], apart := false, narrowed := true }
def FnExactReadEpochUptoSaid : Prop := fnExactReadEpochUptoRow.holds Try.pinned (OpenSpec.upto fnExactReadEpochSpec)

/-- 'laws.FnExactReadRecord', WHERE WHAT IT READS IS OF BULK AT MOST 1048576: true; the input reads as it did. -/
def fnExactReadRecordUptoRow : OpenClaim := { program := "ytfcnangllgaliaa", sum := "84aa2d14f83f7411c3ea83b54ed17fa809dff558edb6e67a2f7d5bfe41ce49d3", func := "loop.example/g00648/laws.FnExactReadRecord", spec := "fnExactReadRecord", inPlace := ["internal/abi.NoEscape", "internal/bytealg.MakeNoZero"], apart := false, narrowed := true }
def FnExactReadRecordUptoSaid : Prop := fnExactReadRecordUptoRow.holds Try.pinned (OpenSpec.upto fnExactReadRecordSpec)

/-- 'laws.FnEpochs', WHERE WHAT IT READS IS OF BULK AT MOST 1048576: true; the input reads as it did. -/
def fnEpochsUptoRow : OpenClaim := { program := "ytfcnangllgaliaa", sum := "84aa2d14f83f7411c3ea83b54ed17fa809dff558edb6e67a2f7d5bfe41ce49d3", func := "loop.example/g00648/laws.FnEpochs", spec := "fnEpochs", inPlace := ["internal/abi.NoEscape", "internal/bytealg.MakeNoZero"], apart := false, narrowed := true }
def FnEpochsUptoSaid : Prop := fnEpochsUptoRow.holds Try.pinned (OpenSpec.upto fnEpochsSpec)

/-- 'laws.FnFlushes', WHERE WHAT IT READS IS OF BULK AT MOST 1048576: true; the input reads as it did. -/
def fnFlushesUptoRow : OpenClaim := { program := "ytfcnangllgaliaa", sum := "84aa2d14f83f7411c3ea83b54ed17fa809dff558edb6e67a2f7d5bfe41ce49d3", func := "loop.example/g00648/laws.FnFlushes", spec := "fnFlushes", inPlace := ["internal/abi.NoEscape"], unfollowed := true, recurses := true, apart := false, narrowed := true }
def FnFlushesUptoSaid : Prop := fnFlushesUptoRow.holds Try.pinned (OpenSpec.upto fnFlushesSpec)

/-- 'laws.FnExactStore', WHERE WHAT IT READS IS OF BULK AT MOST 1048576: true; the input reads as it did. -/
def fnExactStoreUptoRow : OpenClaim := { program := "ytfcnangllgaliaa", sum := "84aa2d14f83f7411c3ea83b54ed17fa809dff558edb6e67a2f7d5bfe41ce49d3", func := "loop.example/g00648/laws.FnExactStore", spec := "fnExactStore", inPlace := ["slices.overlaps[loop.example/g00648/impl.Line]"], unfollowed := true, recurses := true, apart := false, narrowed := true }
def FnExactStoreUptoSaid : Prop := fnExactStoreUptoRow.holds Try.pinned (OpenSpec.upto fnExactStoreSpec)

/-- 'laws.FnFenced', WHERE WHAT IT READS IS OF BULK AT MOST 1048576: true; the input reads as it did. -/
def fnFencedUptoRow : OpenClaim := { program := "ytfcnangllgaliaa", sum := "84aa2d14f83f7411c3ea83b54ed17fa809dff558edb6e67a2f7d5bfe41ce49d3", func := "loop.example/g00648/laws.FnFenced", spec := "fnFenced", inPlace := ["internal/abi.NoEscape"], unfollowed := true, recurses := true, apart := false, narrowed := true }
def FnFencedUptoSaid : Prop := fnFencedUptoRow.holds Try.pinned (OpenSpec.upto fnFencedSpec)

/-- 'laws.FnRecords', WHERE WHAT IT READS IS OF BULK AT MOST 1048576: true; the input reads as it did. -/
def fnRecordsUptoRow : OpenClaim := { program := "ytfcnangllgaliaa", sum := "84aa2d14f83f7411c3ea83b54ed17fa809dff558edb6e67a2f7d5bfe41ce49d3", func := "loop.example/g00648/laws.FnRecords", spec := "fnRecords", inPlace := ["internal/abi.NoEscape", "internal/bytealg.MakeNoZero"], apart := false, narrowed := true }
def FnRecordsUptoSaid : Prop := fnRecordsUptoRow.holds Try.pinned (OpenSpec.upto fnRecordsSpec)

/-- 'laws.FnEvicted', WHERE WHAT IT READS IS OF BULK AT MOST 1048576: true; the input reads as it did. -/
def fnEvictedUptoRow : OpenClaim := { program := "ytfcnangllgaliaa", sum := "84aa2d14f83f7411c3ea83b54ed17fa809dff558edb6e67a2f7d5bfe41ce49d3", func := "loop.example/g00648/laws.FnEvicted", spec := "fnEvicted", inPlace := ["internal/abi.NoEscape"], unfollowed := true, recurses := true, apart := false, narrowed := true }
def FnEvictedUptoSaid : Prop := fnEvictedUptoRow.holds Try.pinned (OpenSpec.upto fnEvictedSpec)

/-- 'laws.FnStored', WHERE WHAT IT READS IS OF BULK AT MOST 1048576: true; the input reads as it did. -/
def fnStoredUptoRow : OpenClaim := { program := "ytfcnangllgaliaa", sum := "84aa2d14f83f7411c3ea83b54ed17fa809dff558edb6e67a2f7d5bfe41ce49d3", func := "loop.example/g00648/laws.FnStored", spec := "fnStored", inPlace := ["slices.overlaps[loop.example/g00648/impl.Line]", "internal/abi.NoEscape"], unfollowed := true, recurses := true, apart := false, narrowed := true }
def FnStoredUptoSaid : Prop := fnStoredUptoRow.holds Try.pinned (OpenSpec.upto fnStoredSpec)

end Rows
end Go.Proofs.Ytfcnangllgaliaa
