/- Proved: for every string the program's ReadWord returns what the reference's returns, with no condition on the input. -/
import Derived.Test.YtgajdaijkoomcaaPFnExactReadWordx1
namespace Go.Proofs.Ytgajdaijkoomcaa.Pure
open Go.RowKit Go.Proofs.Ytgajdaijkoomcaa.PFnExactReadWord Go.Proofs.YtgajdaijkoomcaaW.PrintWords Go.Proofs.YtgajdaijkoomcaaW.PrintLast
theorem w64 {n : Int} (h0 : -9223372036854775808 ≤ n) (h1 : n ≤ 9223372036854775807) : wrap64 n = n := by unfold wrap64; omega
theorem u64 (n : Int) : IntKind.u64.wrap n = n % 18446744073709551616 := by simp [IntKind.wrap, IntKind.bits, IntKind.signed]
theorem orNat (X b : Nat) (hb : b < 256) : (X * 256) ||| b = X * 256 + b := by
  have h := Nat.two_pow_add_eq_or_of_lt (i := 8) (b := b) (by omega) X
  rw [show 2 ^ 8 * X = X * 256 by omega] at h
  exact h.symm
theorem ofInt_toNat64 (z : Int) : (BitVec.ofInt 64 z).toNat = (z % 18446744073709551616).toNat := by
  rw [BitVec.toNat_ofInt]; rfl
theorem bitsOr (k : IntKind) (hk : k.bits = 64) (z w b : Int) (hz : z % 18446744073709551616 = (w * 256) % 18446744073709551616) (hb : 0 ≤ b) (hb1 : b ≤ 255) :
    Go.bits .or k z b = k.wrap ((w * 256) % 18446744073709551616 + b) := by
  unfold Go.bits
  rw [hk]
  simp only [BitVec.toNat_or, ofInt_toNat64, hz]
  have e : ((w * 256) % 18446744073709551616).toNat = (w % 72057594037927936).toNat * 256 := by omega
  have e2 : (b % 18446744073709551616).toNat = b.toNat := by omega
  rw [e, e2, orNat _ _ (by omega)]
  congr 1; omega
theorem orW (x b : Int) (hb : 0 ≤ b) (hb1 : b ≤ 255) : Go.bits .or .i64 (wrap64 (x * 256)) b = wrap64 (x * 256 + b) := by
  rw [bitsOr .i64 rfl _ x b (by unfold wrap64; omega) hb hb1, IntKind.wrap_i64]; unfold wrap64; omega
theorem orU (x b : Int) (hb : 0 ≤ b) (hb1 : b ≤ 255) : Go.bits .or .u64 ((x * 256) % 18446744073709551616) b = (x * 256 + b) % 18446744073709551616 := by
  rw [bitsOr .u64 rfl _ x b (by omega) hb hb1, u64]; omega
def hn (s : ByteArray) (i : Int) : Nat → Int
  | 0 => 0
  | n + 1 => hn s i n * 256 + bt s (i + n)
theorem sWl (s : ByteArray) (hs : (s.size : Int) = 8) (d : Nat) : ∀ (k j : Nat), j + d = 8 → d < k → spec_ReadWord.l0 k s (hn s 0 j % 18446744073709551616) j = some (wrap64 (hn s 0 8), true) := by
  induction d with
  | zero =>
    intro k j hj hk
    obtain ⟨k, rfl⟩ : ∃ m, k = m + 1 := ⟨k - 1, by omega⟩
    obtain rfl : j = 8 := by omega
    simp only [spec_ReadWord.l0]; rw [if_neg (by omega)]
    congr 2; unfold wrap64; omega
  | succ d ih =>
    intro k j hj hk
    obtain ⟨k, rfl⟩ : ∃ m, k = m + 1 := ⟨k - 1, by omega⟩
    have hb := bt_range s j
    simp only [spec_ReadWord.l0]; rw [if_pos (by omega), if_pos (by omega), if_pos (by omega), w64 (n := (j : Int) + 1) (by omega) (by omega)]
    have e : Go.bits .or .u64 (IntKind.u64.wrap (hn s 0 j % 18446744073709551616 * 256)) (IntKind.u64.wrap (bt s j)) = hn s 0 (j + 1) % 18446744073709551616 := by
      rw [u64, u64, show bt s j % 18446744073709551616 = bt s j by omega, orU _ _ hb.1 hb.2]
      simp only [hn, Int.zero_add]; omega
    rw [e]; exact ih k (j + 1) (by omega) (by omega)
theorem iWl (s : ByteArray) (at_ : Int) (h0 : 0 ≤ at_) (hs : at_ + 8 ≤ (s.size : Int)) (hm : (s.size : Int) ≤ 9223372036854775807) (d : Nat) : ∀ (k j : Nat), j + d = 8 → d < k → impl_wordAt.l0 k s at_ (wrap64 (hn s at_ j)) j = some (wrap64 (hn s at_ 8)) := by
  induction d with
  | zero =>
    intro k j hj hk
    obtain ⟨k, rfl⟩ : ∃ m, k = m + 1 := ⟨k - 1, by omega⟩
    obtain rfl : j = 8 := by omega
    simp only [impl_wordAt.l0]; rw [if_neg (by omega)]
  | succ d ih =>
    intro k j hj hk
    obtain ⟨k, rfl⟩ : ∃ m, k = m + 1 := ⟨k - 1, by omega⟩
    have hb := bt_range s (at_ + j)
    simp only [impl_wordAt.l0]; rw [w64 (n := at_ + (j : Int)) (by omega) (by omega), if_pos (by omega), if_pos (by omega), if_pos (by omega), w64 (n := (j : Int) + 1) (by omega) (by omega), w64 (n := bt s (at_ + j)) (by omega) (by omega)]
    have e : Go.bits .or .i64 (wrap64 (wrap64 (hn s at_ j) * 256)) (bt s (at_ + j)) = wrap64 (hn s at_ (j + 1)) := by
      rw [orW _ _ hb.1 hb.2]
      simp only [hn]; unfold wrap64; omega
    rw [e]; exact ih k (j + 1) (by omega) (by omega)
theorem FnExactReadWord : laws_FnExactReadWord.Pure := by
  intro s _
  refine ⟨9, ?_⟩
  unfold laws_FnExactReadWord.f
  by_cases h : (s.size : Int) > 1048576
  · rw [if_pos h]
  · rw [if_neg h]
    by_cases h8 : (s.size : Int) = 8
    · have e1 := sWl s h8 8 9 0 (by omega) (by omega)
      have e2 := iWl s 0 (by omega) (by omega) (by omega) 8 9 0 (by omega) (by omega)
      simp only [hn, Int.zero_emod, show ((0 : Nat) : Int) = 0 from rfl, w64 (n := 0) (by omega) (by omega)] at e1 e2
      unfold spec_ReadWord.f
      rw [if_pos h8, e1]
      unfold impl_ReadWord.f impl_wordAt.f
      rw [if_pos h8, e2]; simp
    · unfold spec_ReadWord.f impl_ReadWord.f
      rw [if_neg h8, if_neg h8]; simp

end Go.Proofs.Ytgajdaijkoomcaa.Pure
