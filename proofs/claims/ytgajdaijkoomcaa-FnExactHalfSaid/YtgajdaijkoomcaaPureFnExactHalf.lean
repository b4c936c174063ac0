/- Proved: for every image and every number the program's Half returns what the reference's returns, with no condition on the input. -/
import Derived.Test.YtgajdaijkoomcaaPFnExactHalfx1
namespace Go.Proofs.Ytgajdaijkoomcaa.Pure
open Go.RowKit Go.Proofs.Ytgajdaijkoomcaa.PFnExactHalf Go.Proofs.YtgajdaijkoomcaaW.PrintWords Go.Proofs.YtgajdaijkoomcaaW.PrintLast
theorem w64 {n : Int} (h0 : -9223372036854775808 ≤ n) (h1 : n ≤ 9223372036854775807) : wrap64 n = n := by unfold wrap64; omega
theorem wf64 {n : Int} (h : (Lit.int .i64 n).wf = true) : -9223372036854775808 ≤ n ∧ n ≤ 9223372036854775807 := by
  simp [Lit.wf, IntKind.min, IntKind.max, IntKind.bits, IntKind.signed] at h
  omega
theorem u64 (n : Int) : IntKind.u64.wrap n = n % 18446744073709551616 := by simp [IntKind.wrap, IntKind.bits, IntKind.signed]
theorem FnExactHalf : laws_FnExactHalf.Pure := by
  intro s n hs hn
  have hn := wf64 hn
  unfold laws_FnExactHalf.f
  by_cases h : (s.size : Int) > 1048576
  · rw [if_pos h]
  · rw [if_neg h]
    have e1 : wrap64 ((s.size : Int) / 32) = (s.size : Int) / 32 := w64 (by omega) (by omega)
    have e2 : wrap64 ((s.size : Int) / 32 - 1) = (s.size : Int) / 32 - 1 := w64 (by omega) (by omega)
    unfold impl_Half.f spec_Half.f
    rw [e1, e2]
    by_cases h1 : n < 0
    · rw [if_pos h1, if_pos h1]; simp
    · rw [if_neg h1, if_neg h1]
      by_cases h2 : n ≥ (s.size : Int) / 32
      · rw [if_pos h2]
        by_cases h3 : n > 10000000
        · rw [if_pos h3]; simp
        · rw [if_neg h3, if_pos (by omega)]; simp
      · have e3 : wrap64 (32 * n) = 32 * n := w64 (by omega) (by omega)
        have e4 : wrap64 (32 * n + 32) = 32 * n + 32 := w64 (by omega) (by omega)
        rw [if_neg h2, if_neg (by omega), if_neg (by omega), e3, e4, if_pos (by omega), if_pos (by omega), if_pos (by omega)]
        simp

end Go.Proofs.Ytgajdaijkoomcaa.Pure
