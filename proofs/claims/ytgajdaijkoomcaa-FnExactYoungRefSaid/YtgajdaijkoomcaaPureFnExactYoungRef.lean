/- Proved: for every number the program's YoungRef returns what the reference's returns, with no condition on the input. -/
import Derived.Test.YtgajdaijkoomcaaPFnExactYoungRefx1
namespace Go.Proofs.Ytgajdaijkoomcaa.Pure
open Go.RowKit Go.Proofs.Ytgajdaijkoomcaa.PFnExactYoungRef Go.Proofs.YtgajdaijkoomcaaW.PrintWords Go.Proofs.YtgajdaijkoomcaaW.PrintLast
theorem w64 {n : Int} (h0 : -9223372036854775808 ≤ n) (h1 : n ≤ 9223372036854775807) : wrap64 n = n := by unfold wrap64; omega
theorem wf64 {n : Int} (h : (Lit.int .i64 n).wf = true) : -9223372036854775808 ≤ n ∧ n ≤ 9223372036854775807 := by
  simp [Lit.wf, IntKind.min, IntKind.max, IntKind.bits, IntKind.signed] at h
  omega
theorem u64 (n : Int) : IntKind.u64.wrap n = n % 18446744073709551616 := by simp [IntKind.wrap, IntKind.bits, IntKind.signed]
theorem FnExactYoungRef : laws_FnExactYoungRef.Pure := by
  intro n _
  unfold laws_FnExactYoungRef.f spec_YoungRef.f impl_YoungRef.f spec_l1In.f impl_within.f
  by_cases h : n ≥ 0
  · by_cases h2 : n ≤ 399 <;> simp [h, h2]
  · simp [h]

end Go.Proofs.Ytgajdaijkoomcaa.Pure
