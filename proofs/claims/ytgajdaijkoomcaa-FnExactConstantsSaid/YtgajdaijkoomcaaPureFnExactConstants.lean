/- The program's constants have the values that the reference gives, with no condition. -/
import Derived.Test.YtgajdaijkoomcaaPFnExactConstantsx1
namespace Go.Proofs.Ytgajdaijkoomcaa.Pure
open Go.RowKit Go.Proofs.Ytgajdaijkoomcaa.PFnExactConstants Go.Proofs.YtgajdaijkoomcaaW.PrintWords Go.Proofs.YtgajdaijkoomcaaW.PrintLast
theorem w64 {n : Int} (h0 : -9223372036854775808 ≤ n) (h1 : n ≤ 9223372036854775807) : wrap64 n = n := by unfold wrap64; omega
theorem wf64 {n : Int} (h : (Lit.int .i64 n).wf = true) : -9223372036854775808 ≤ n ∧ n ≤ 9223372036854775807 := by
  simp [Lit.wf, IntKind.min, IntKind.max, IntKind.bits, IntKind.signed] at h
  omega
theorem u64 (n : Int) : IntKind.u64.wrap n = n % 18446744073709551616 := by simp [IntKind.wrap, IntKind.bits, IntKind.signed]
theorem FnExactConstants : laws_FnExactConstants.Pure := rfl

end Go.Proofs.Ytgajdaijkoomcaa.Pure
