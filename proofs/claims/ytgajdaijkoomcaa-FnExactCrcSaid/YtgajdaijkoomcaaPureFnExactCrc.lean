/- Proved: for every string the program's Crc returns what the reference's returns, with no condition on the input. -/
import Derived.Test.YtgajdaijkoomcaaPFnExactCrcx1
namespace Go.Proofs.Ytgajdaijkoomcaa.Pure
open Go.RowKit Go.Proofs.Ytgajdaijkoomcaa.PFnExactCrc Go.Proofs.YtgajdaijkoomcaaW.PrintWords Go.Proofs.YtgajdaijkoomcaaW.PrintLast
theorem w64 {n : Int} (h0 : -9223372036854775808 ≤ n) (h1 : n ≤ 9223372036854775807) : wrap64 n = n := by unfold wrap64; omega
theorem u64 (n : Int) : IntKind.u64.wrap n = n % 18446744073709551616 := by simp [IntKind.wrap, IntKind.bits, IntKind.signed]
theorem xorN (a b : Nat) (ha : a < 4294967296) (hb : b < 4294967296) : Go.bits .xor .u32 (a : Int) (b : Int) = ((a ^^^ b : Nat) : Int) := by
  have hx : a ^^^ b < 2 ^ 32 := Nat.xor_lt_two_pow (by omega) (by omega)
  show IntKind.u32.wrap (((BitVec.ofInt 32 (a : Int) ^^^ BitVec.ofInt 32 (b : Int)).toNat : Nat) : Int) = _
  rw [BitVec.toNat_xor, BitVec.ofInt_natCast, BitVec.ofInt_natCast, BitVec.toNat_ofNat, BitVec.toNat_ofNat, Nat.mod_eq_of_lt (by omega : a < 2 ^ 32), Nat.mod_eq_of_lt (by omega : b < 2 ^ 32), IntKind.wrap_u32]
  omega
theorem xor_lt (a b : Nat) (ha : a < 4294967296) (hb : b < 4294967296) : a ^^^ b < 4294967296 := Nat.xor_lt_two_pow (n := 32) (by omega) (by omega)
theorem and1 (c : Nat) (h : c < 4294967296) : Go.bits .and .u32 (c : Int) 1 = ((c % 2 : Nat) : Int) := by
  have e := bits_mask .u32 32 (by decide) (fun n h0 h1 => by rw [IntKind.wrap_u32]; omega) 1 (by decide) (c : Int) (by omega) (by omega)
  simpa using e
/-- one bit of the checksum -/
def crcBit (c : Nat) : Nat := if c % 2 = 1 then (c / 2) ^^^ 3988292384 else c / 2
def crcBits : Nat → Nat → Nat
  | 0, c => c
  | n + 1, c => crcBits n (crcBit c)
theorem crcBit_lt {c : Nat} (h : c < 4294967296) : crcBit c < 4294967296 := by
  unfold crcBit; split
  · exact xor_lt _ _ (by omega) (by omega)
  · omega
theorem crcBits_lt : ∀ (n : Nat) {c : Nat}, c < 4294967296 → crcBits n c < 4294967296
  | 0, _, h => h
  | n + 1, _, h => crcBits_lt n (crcBit_lt h)
/-- a byte, as a number -/
def btN (s : ByteArray) (i : Nat) : Nat := (bt s i).toNat
theorem btN_le (s : ByteArray) (i : Nat) : btN s i ≤ 255 := by have := bt_range s i; unfold btN; omega
theorem btN_cast (s : ByteArray) (i : Nat) : ((btN s i : Nat) : Int) = bt s i := by have := bt_range s i; unfold btN; omega
/-- the state behind the first n bytes -/
def crcAt (s : ByteArray) : Nat → Nat
  | 0 => 4294967295
  | n + 1 => crcBits 8 (crcAt s n ^^^ btN s n)
theorem crcAt_lt (s : ByteArray) : ∀ n, crcAt s n < 4294967296
  | 0 => by show 4294967295 < 4294967296; omega
  | n + 1 => crcBits_lt 8 (xor_lt _ _ (crcAt_lt s n) (by have := btN_le s n; omega))
def crcNum (s : ByteArray) : Nat := 4294967295 ^^^ crcAt s s.size
theorem crcNum_lt (s : ByteArray) : crcNum s < 4294967296 := xor_lt _ _ (by omega) (crcAt_lt s _)
def four (x : Int) : List Int := [x / 16777216 % 256, x / 65536 % 256, x / 256 % 256, x % 256]
def crcStr (s : ByteArray) : ByteArray := strOfNums (four (crcNum s))
theorem crcStr_size (s : ByteArray) : (crcStr s).size = 4 := by rw [crcStr, strOfNums_size]; rfl
theorem sCrc_in (s : ByteArray) (x4 : Int) (r : ByteArray) : ∀ (d j c : Nat), j + d = 8 → c < 4294967296 → Ev (fun k => spec_l1Crc.l0 k s (crcBits d c : Nat) (wrap64 (x4 + 1))) r → Ev (fun k => spec_l1Crc.l1 k s (c : Nat) x4 j) r := by
  intro d
  induction d with
  | zero =>
    intro j c hj hc h
    refine Ev.step (f := fun k => spec_l1Crc.l0 k s (c : Nat) (wrap64 (x4 + 1))) (fun k => ?_) h
    simp only [spec_l1Crc.l1]; rw [if_neg (by omega)]
  | succ d ih =>
    intro j c hj hc h
    refine Ev.step (f := fun k => spec_l1Crc.l1 k s (crcBit c : Nat) x4 ((j + 1 : Nat) : Int)) (fun k => ?_) (ih (j + 1) (crcBit c) (by omega) (crcBit_lt hc) h)
    simp only [spec_l1Crc.l1]; rw [if_pos (by omega), w64 (n := (j : Int) + 1) (by omega) (by omega)]
    have e2 : ((c : Int) / 2) = ((c / 2 : Nat) : Int) := by omega
    have e1 : Int.tmod (c : Int) 2 = ((c % 2 : Nat) : Int) := by rw [Int.tmod_eq_emod_of_nonneg (by omega)]; omega
    rw [e1, e2]
    unfold crcBit
    by_cases h1 : c % 2 = 1
    · rw [if_pos (by omega), if_pos h1, show (3988292384 : Int) = ((3988292384 : Nat) : Int) from rfl, xorN _ _ (by omega) (by omega)]; rfl
    · rw [if_neg (by omega), if_neg h1]; rfl
theorem sCrc_out (s : ByteArray) (hs : s.size ≤ 4611686018427387904) : ∀ (d i : Nat), i + d = s.size → Ev (fun k => spec_l1Crc.l0 k s (crcAt s i : Nat) i) (crcStr s) := by
  intro d
  induction d with
  | zero =>
    intro i hi
    refine Ev.step (f := fun _ => some (crcStr s)) (fun k => ?_) (Ev.now _)
    simp only [spec_l1Crc.l0]; rw [if_neg (by omega)]
    obtain rfl : i = s.size := by omega
    rw [show (4294967295 : Int) = ((4294967295 : Nat) : Int) from rfl, xorN _ _ (by omega) (crcAt_lt s _)]; rfl
  | succ d ih =>
    intro i hi
    have hb := btN_le s i
    refine Ev.step (f := fun k => spec_l1Crc.l1 k s ((crcAt s i ^^^ btN s i : Nat) : Int) i ((0 : Nat) : Int)) (fun k => ?_) ?_
    · simp only [spec_l1Crc.l0]; rw [if_pos (by omega), if_pos (by omega), ← btN_cast, show ((btN s i : Nat) : Int) % 4294967296 = (btN s i : Nat) by omega, xorN _ _ (crcAt_lt s i) (by omega)]; rfl
    · refine sCrc_in s i _ 8 0 _ rfl (xor_lt _ _ (crcAt_lt s i) (by omega)) ?_
      have := ih (i + 1) (by omega)
      rw [w64 (n := (i : Int) + 1) (by omega) (by omega)]
      exact this
theorem sCrc (s : ByteArray) (hs : s.size ≤ 4611686018427387904) : Ev (fun k => spec_l1Crc.f k s) (crcStr s) := by
  refine Ev.congr (fun k => ?_) (sCrc_out s hs s.size 0 (by omega))
  rfl
theorem iBB4 (k : Nat) (x : Int) : impl_bigBytes.f (k + 5) x 4 = some (strOfNums (four x)) := by
  unfold impl_bigBytes.f
  simp (config := {maxSteps := 1000000}) [impl_bigBytes.l0, wrap64, List.replicate, four, Int.ediv_ediv]
theorem iCrc_in (s : ByteArray) (x10 x11 : Int) (r : ByteArray) : ∀ (d j c : Nat), j + d = 8 → c < 4294967296 → Ev (fun k => impl_Crc.l0 k s (crcBits d c : Nat) x10 (wrap64 (x11 + 1))) r → Ev (fun k => impl_Crc.l1 k s (c : Nat) x10 x11 j) r := by
  intro d
  induction d with
  | zero =>
    intro j c hj hc h
    refine Ev.step (f := fun k => impl_Crc.l0 k s (c : Nat) x10 (wrap64 (x11 + 1))) (fun k => ?_) h
    simp only [impl_Crc.l1]; rw [if_neg (by omega)]
  | succ d ih =>
    intro j c hj hc h
    refine Ev.step (f := fun k => impl_Crc.l1 k s (crcBit c : Nat) x10 x11 ((j + 1 : Nat) : Int)) (fun k => ?_) (ih (j + 1) (crcBit c) (by omega) (crcBit_lt hc) h)
    simp only [impl_Crc.l1]; rw [if_pos (by omega), w64 (n := (j : Int) + 1) (by omega) (by omega), and1 c hc]
    have e2 : ((c : Int) / 2) = ((c / 2 : Nat) : Int) := by omega
    rw [e2]
    unfold crcBit
    by_cases h1 : c % 2 = 1
    · rw [if_pos (by omega), if_pos h1, show (3988292384 : Int) = ((3988292384 : Nat) : Int) from rfl, xorN _ _ (by omega) (by omega)]; rfl
    · rw [if_neg (by omega), if_neg h1]; rfl
theorem iCrc_out (s : ByteArray) (hs : s.size ≤ 4611686018427387904) : ∀ (d i : Nat), i + d = s.size → Ev (fun k => impl_Crc.l0 k s (crcAt s i : Nat) s.size i) (crcStr s) := by
  intro d
  induction d with
  | zero =>
    intro i hi
    obtain rfl : i = s.size := by omega
    refine Ev.step (f := fun k => (impl_bigBytes.f k (crcNum s : Nat) 4).bind fun t => some t) (fun k => ?_) ?_
    · simp only [impl_Crc.l0]; rw [if_neg (by omega), show (4294967295 : Int) = ((4294967295 : Nat) : Int) from rfl, xorN _ _ (by omega) (crcAt_lt s _), u64]
      have := crcNum_lt s
      rw [show ((4294967295 ^^^ crcAt s s.size : Nat) : Int) % 18446744073709551616 = (crcNum s : Nat) by unfold crcNum at *; omega]
    · refine ⟨5, fun k hk => ?_⟩
      obtain ⟨m, rfl⟩ : ∃ m, k = m + 5 := ⟨k - 5, by omega⟩
      show (impl_bigBytes.f (m + 5) (crcNum s : Nat) 4).bind _ = _
      rw [iBB4]; rfl
  | succ d ih =>
    intro i hi
    have hb := btN_le s i
    refine Ev.step (f := fun k => impl_Crc.l1 k s ((crcAt s i ^^^ btN s i : Nat) : Int) s.size i ((0 : Nat) : Int)) (fun k => ?_) ?_
    · simp only [impl_Crc.l0]; rw [if_pos (by omega), if_pos (by omega), if_pos (by omega), ← btN_cast, show ((btN s i : Nat) : Int) % 4294967296 = (btN s i : Nat) by omega, xorN _ _ (crcAt_lt s i) (by omega)]; rfl
    · refine iCrc_in s s.size i _ 8 0 _ rfl (xor_lt _ _ (crcAt_lt s i) (by omega)) ?_
      have := ih (i + 1) (by omega)
      rw [w64 (n := (i : Int) + 1) (by omega) (by omega)]
      exact this
theorem iCrc (s : ByteArray) (hs : s.size ≤ 20000) : Ev (fun k => impl_Crc.f k s) (crcStr s) := by
  refine Ev.congr (fun k => ?_) (iCrc_out s (by omega) s.size 0 (by omega))
  unfold impl_Crc.f; rw [if_neg (by omega)]; rfl
theorem FnExactCrc : laws_FnExactCrc.Pure := by
  intro s _
  refine Ev.rounds (Ev.congr (fun k => rfl : ∀ k, laws_FnExactCrc.f k s = laws_FnExactCrc.f k s) ?_)
  by_cases h : (s.size : Int) > 1048576
  · refine Ev.congr (fun k => ?_) (Ev.now true)
    unfold laws_FnExactCrc.f; rw [if_pos h]
  · by_cases h2 : (s.size : Int) > 20000
    · refine Ev.congr (fun k => ?_) (Ev.now true)
      unfold laws_FnExactCrc.f spec_Crc.f impl_Crc.f; rw [if_neg h, if_pos h2, if_pos h2]; simp
    · refine Ev.congr (f := fun k => ((spec_l1Crc.f k s).bind fun t104 => (some t104)).bind fun t110 => ((impl_Crc.f k s).bind fun t111 => (if t111.toList = t110.toList then (some true) else (some false)))) (fun k => ?_) ?_
      · unfold laws_FnExactCrc.f spec_Crc.f; rw [if_neg h, if_neg h2]
      · refine Ev.bind (a := crcStr s) (f := fun k t110 => ((impl_Crc.f k s).bind fun t111 => (if t111.toList = t110.toList then (some true) else (some false)))) (Ev.bind (sCrc s (by omega)) (Ev.now _)) ?_
        refine Ev.bind (f := fun _ (t111 : ByteArray) => (if t111.toList = (crcStr s).toList then (some true) else (some false))) (iCrc s (by omega)) ?_
        simp only [if_true]; exact Ev.now _
end Go.Proofs.Ytgajdaijkoomcaa.Pure
