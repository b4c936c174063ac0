/- Proved: for every number the program's ShortBytes returns what the reference's returns, with no condition on the input. -/
import Derived.Test.YtgajdaijkoomcaaPFnExactShortBytesx1
namespace Go.Proofs.Ytgajdaijkoomcaa.Pure
open Go.RowKit Go.Proofs.Ytgajdaijkoomcaa.PFnExactShortBytes Go.Proofs.YtgajdaijkoomcaaW.PrintWords Go.Proofs.YtgajdaijkoomcaaW.PrintLast
theorem w64 {n : Int} (h0 : -9223372036854775808 ≤ n) (h1 : n ≤ 9223372036854775807) : wrap64 n = n := by unfold wrap64; omega
theorem u64 (n : Int) : IntKind.u64.wrap n = n % 18446744073709551616 := by simp [IntKind.wrap, IntKind.bits, IntKind.signed]
def wbx (x : Int) : List Int := [x / 72057594037927936 % 256, x / 281474976710656 % 256, x / 1099511627776 % 256, x / 4294967296 % 256, x / 16777216 % 256, x / 65536 % 256, x / 256 % 256, x % 256]
def wb (a : Int) : ByteArray := strOfNums (wbx (a % 18446744073709551616))
theorem specWB (k : Nat) (a0 : Int) : spec_WordBytes.f (k + 9) a0 = some (wb a0) := by
  unfold spec_WordBytes.f
  simp (config := {maxSteps := 1000000}) [spec_WordBytes.l0, wrap64, u64, List.replicate, shr, IntKind.bits, wb, wbx]
theorem cut6 (a b c d e f g h : Int) : (strOfNums [a, b, c, d, e, f, g, h]).extract 6 (strOfNums [a, b, c, d, e, f, g, h]).size = strOfNums [g, h] := by
  apply ByteArray.ext
  simp [strOfNums, ByteArray.size]
theorem cut6s (x : Int) : (if 6 ≤ ((strOfNums (wbx x)).size : Int) then (some ((strOfNums (wbx x)).extract 6 (strOfNums (wbx x)).size)) else (none)) = some (strOfNums [x / 256 % 256, x % 256]) := by
  rw [if_pos (by rw [strOfNums_size]; simp [wbx])]
  unfold wbx; rw [cut6]
theorem FnExactShortBytes : laws_FnExactShortBytes.Pure := by
  intro n _
  refine ⟨9, ?_⟩
  unfold laws_FnExactShortBytes.f spec_ShortBytes.f impl_ShortBytes.f spec_l1In.f impl_within.f
  rw [specWB 0]
  by_cases h : n ≥ 0
  · by_cases h2 : n ≤ 65535
    · have e : n % 18446744073709551616 = n := by omega
      simp only [h, h2, wb, e, Option.bind_some, cut6s]
      simp
    · simp [h, h2]
  · simp [h]

end Go.Proofs.Ytgajdaijkoomcaa.Pure
