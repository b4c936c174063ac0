/- Proved: for every string the program's ReadShort returns what the reference's returns, with no condition on the input. -/
import Derived.Test.YtgajdaijkoomcaaPFnExactReadShortx1
namespace Go.Proofs.Ytgajdaijkoomcaa.Pure
open Go.RowKit Go.Proofs.Ytgajdaijkoomcaa.PFnExactReadShort Go.Proofs.YtgajdaijkoomcaaW.PrintWords Go.Proofs.YtgajdaijkoomcaaW.PrintLast
theorem w64 {n : Int} (h0 : -9223372036854775808 ≤ n) (h1 : n ≤ 9223372036854775807) : wrap64 n = n := by unfold wrap64; omega
theorem wf64 {n : Int} (h : (Lit.int .i64 n).wf = true) : -9223372036854775808 ≤ n ∧ n ≤ 9223372036854775807 := by
  simp [Lit.wf, IntKind.min, IntKind.max, IntKind.bits, IntKind.signed] at h
  omega
theorem u64 (n : Int) : IntKind.u64.wrap n = n % 18446744073709551616 := by simp [IntKind.wrap, IntKind.bits, IntKind.signed]
theorem or8 (a b : Int) (ha : 0 ≤ a) (ha1 : a ≤ 255) (hb : 0 ≤ b) (hb1 : b ≤ 255) : Go.bits .or .i64 (a * 256) b = a * 256 + b :=
  bits_join .i64 63 (by decide) (fun n h0 h1 => by rw [IntKind.wrap_i64]; omega) 8 _ _ (by omega) (by omega) (by omega) hb (by omega) (by omega)
theorem FnExactReadShort : laws_FnExactReadShort.Pure := by
  intro s hs
  unfold laws_FnExactReadShort.f
  by_cases h : (s.size : Int) > 1048576
  · rw [if_pos h]
  · rw [if_neg h]
    unfold spec_ReadShort.f impl_ReadShort.f
    have h0 := bt_range s 0
    have h1 := bt_range s 1
    have e0 : wrap64 (bt s 0) = bt s 0 := w64 (by omega) (by omega)
    have e1 : wrap64 (bt s 1) = bt s 1 := w64 (by omega) (by omega)
    have e2 : wrap64 (bt s 0 * 256) = bt s 0 * 256 := w64 (by omega) (by omega)
    have e3 : wrap64 (bt s 0 * 256 + bt s 1) = bt s 0 * 256 + bt s 1 := w64 (by omega) (by omega)
    rw [e0, e1, e2, e3, or8 _ _ h0.1 h0.2 h1.1 h1.2]
    by_cases h2 : (s.size : Int) = 2
    · rw [if_pos h2, if_pos (by omega), if_pos (by omega)]; simp
    · rw [if_neg h2]; simp

end Go.Proofs.Ytgajdaijkoomcaa.Pure
