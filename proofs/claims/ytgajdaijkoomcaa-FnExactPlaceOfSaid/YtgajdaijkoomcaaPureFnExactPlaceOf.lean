/- Proved: for every number the program's PlaceOf returns what the reference's returns, with no condition on the input. -/
import Derived.Test.YtgajdaijkoomcaaPFnExactPlaceOfx1
namespace Go.Proofs.Ytgajdaijkoomcaa.Pure
open Go.RowKit Go.Proofs.Ytgajdaijkoomcaa.PFnExactPlaceOf Go.Proofs.YtgajdaijkoomcaaW.PrintWords Go.Proofs.YtgajdaijkoomcaaW.PrintLast
def rkP (n : Int) : Int := if n = 0 then 0 else if 2 ≤ n ∧ n ≤ 254 ∧ Int.tmod n 2 = 0 then 1 else if 1 ≤ n ∧ n ≤ 799 ∧ Int.tmod n 2 = 1 then 2 else -1
theorem rk1 (k : Nat) (n : Int) : spec_RefKind.f (k + 9) n = some (rkP n) := by
  unfold spec_RefKind.f spec_l1In.f rkP
  by_cases h0 : n = 0
  · simp [h0]
  · by_cases h1 : 2 ≤ n <;> by_cases h2 : n ≤ 254 <;> by_cases h3 : Int.tmod n 2 = 0 <;> by_cases h4 : 1 ≤ n <;> by_cases h5 : n ≤ 799 <;> by_cases h6 : Int.tmod n 2 = 1 <;> first | (exfalso; omega) | simp [spec_RefKind.j0, spec_l1In.f, h0, h1, h2, h3, h4, h5, h6]
theorem rk2 (k : Nat) (n : Int) : impl_RefKind.f (k + 9) n = some (rkP n) := by
  unfold impl_RefKind.f impl_within.f rkP
  by_cases h0 : n = 0
  · simp [h0]
  · by_cases h1 : 2 ≤ n <;> by_cases h2 : n ≤ 254 <;> by_cases h3 : Int.tmod n 2 = 0 <;> by_cases h4 : 1 ≤ n <;> by_cases h5 : n ≤ 799 <;> by_cases h6 : Int.tmod n 2 = 1 <;> first | (exfalso; omega) | simp [impl_RefKind.j0, impl_within.f, h0, h1, h2, h3, h4, h5, h6]
theorem rkP_range (n : Int) : rkP n = 0 ∨ rkP n = 1 ∨ rkP n = 2 ∨ rkP n = -1 := by
  unfold rkP
  split
  · simp
  · split
    · simp
    · split <;> simp
theorem FnExactPlaceOf : laws_FnExactPlaceOf.Pure := by
  intro n _
  refine ⟨9, ?_⟩
  unfold laws_FnExactPlaceOf.f spec_PlaceOf.f impl_PlaceOf.f impl_isOld.f impl_isYoung.f
  rw [rk2 0, rk1 0]
  rcases rkP_range n with h | h | h | h <;> simp [h]

end Go.Proofs.Ytgajdaijkoomcaa.Pure
