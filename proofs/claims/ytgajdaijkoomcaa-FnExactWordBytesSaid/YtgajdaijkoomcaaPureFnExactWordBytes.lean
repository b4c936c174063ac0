/- Proved: for every number the program's WordBytes returns what the reference's returns, with no condition on the input. -/
import Derived.Test.YtgajdaijkoomcaaPFnExactWordBytesx1
namespace Go.Proofs.Ytgajdaijkoomcaa.Pure
open Go.RowKit Go.Proofs.Ytgajdaijkoomcaa.PFnExactWordBytes Go.Proofs.YtgajdaijkoomcaaW.PrintWords Go.Proofs.YtgajdaijkoomcaaW.PrintLast
theorem w64 {n : Int} (h0 : -9223372036854775808 ≤ n) (h1 : n ≤ 9223372036854775807) : wrap64 n = n := by unfold wrap64; omega
theorem u64 (n : Int) : IntKind.u64.wrap n = n % 18446744073709551616 := by simp [IntKind.wrap, IntKind.bits, IntKind.signed]
def wbx (x : Int) : List Int := [x / 72057594037927936 % 256, x / 281474976710656 % 256, x / 1099511627776 % 256, x / 4294967296 % 256, x / 16777216 % 256, x / 65536 % 256, x / 256 % 256, x % 256]
def wb (a : Int) : ByteArray := strOfNums (wbx (a % 18446744073709551616))
theorem specWB (k : Nat) (a0 : Int) : spec_WordBytes.f (k + 9) a0 = some (wb a0) := by
  unfold spec_WordBytes.f
  simp (config := {maxSteps := 1000000}) [spec_WordBytes.l0, wrap64, u64, List.replicate, shr, IntKind.bits, wb, wbx]
theorem implBB (k : Nat) (a0 : Int) : impl_bigBytes.f (k + 9) a0 8 = some (strOfNums (wbx a0)) := by
  unfold impl_bigBytes.f
  simp (config := {maxSteps := 1000000}) [impl_bigBytes.l0, wrap64, List.replicate, wbx, Int.ediv_ediv]
theorem impWB (k : Nat) (a0 : Int) : impl_WordBytes.f (k + 9) a0 = some (wb a0) := by
  unfold impl_WordBytes.f
  rw [implBB]; simp [u64, wb]
theorem FnExactWordBytes : laws_FnExactWordBytes.Pure := by
  intro a0 _
  refine ⟨9, ?_⟩
  unfold laws_FnExactWordBytes.f
  rw [specWB 0, impWB 0]; simp

end Go.Proofs.Ytgajdaijkoomcaa.Pure
