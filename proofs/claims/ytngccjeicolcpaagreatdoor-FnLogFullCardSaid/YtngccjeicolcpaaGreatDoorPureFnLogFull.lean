/- The law FnLogFull answers true for every argument. -/
import Derived.Test.YtngccjeicolcpaaGreatDoorPFnLogFullx0
import Derived.Test.YtngccjeicolcpaaGreatDoorPFnLogFullx1
import Derived.Test.YtngccjeicolcpaaGreatDoorPFnLogFullx2
import Derived.Test.YtngccjeicolcpaaGreatDoorPFnLogFullx3
import Derived.Test.YtngccjeicolcpaaGreatDoorPFnLogFullx4
import Derived.Test.YtngccjeicolcpaaGreatDoorPFnLogFullx5
import Derived.Test.YtngccjeicolcpaaGreatDoorPFnLogFullx6
import Derived.Test.YtngccjeicolcpaaGreatDoorPFnLogFullx7
import Derived.Test.YtngccjeicolcpaaGreatDoorPFnLogFullx8
import Derived.Test.YtngccjeicolcpaaGreatDoorPFnLogFullx9
import Derived.Test.YtngccjeicolcpaaGreatDoorPFnLogFullx10
import Derived.Test.YtngccjeicolcpaaGreatDoorPFnLogFullx11
import Derived.Test.YtngccjeicolcpaaGreatDoorPFnLogFullx12
import Derived.Test.YtngccjeicolcpaaGreatDoorPFnLogFullx13
import Derived.Test.YtngccjeicolcpaaGreatDoorPFnLogFullx14
import Derived.Test.YtngccjeicolcpaaGreatDoorPFnLogFullx15
namespace Go.Proofs.YtngccjeicolcpaaGreatDoor.Pure
open Go.RowKit Go.Proofs.YtngccjeicolcpaaGreatDoor.PFnLogFull Go.Proofs.YtngccjeicolcpaaGreatDoorW.PrintWords Go.Proofs.YtngccjeicolcpaaGreatDoorW.PrintLast
set_option linter.unusedVariables false
set_option linter.unusedSimpArgs false
theorem iIn (a b c : Int) : impl_within.f a b c = some (decide (b ≤ a ∧ a ≤ c)) := by
  unfold impl_within.f
  by_cases h : a ≥ b
  · rw [if_pos h]; congr 1; rw [decide_eq_decide]; omega
  · rw [if_neg h]; congr 1; symm; rw [decide_eq_false_iff_not]; omega
theorem w64 {n : Int} (h0 : -9223372036854775808 ≤ n) (h1 : n ≤ 9223372036854775807) : wrap64 n = n := by unfold wrap64; omega
theorem u64 (n : Int) : IntKind.u64.wrap n = n % 18446744073709551616 := by simp [IntKind.wrap, IntKind.bits, IntKind.signed]
theorem evThen {α β : Type} {g : Nat → Option α} {h : Nat → Option β} {f : Nat → α → Option β} {a : α} {r : β} (e : Ev g a) (he : ∀ k, h k = (g k).bind (f k)) (k : Ev (fun n => f n a) r) : Ev h r := Ev.congr he (Ev.bind e k)
theorem evIs {α : Type} {g : Nat → Option α} {r : α} (h : ∀ k, g k = some r) : Ev g r := ⟨0, fun k _ => h k⟩
theorem evIs1 {α : Type} {g : Nat → Option α} {r : α} (h : ∀ k, g (k + 1) = some r) : Ev g r := ⟨1, fun k hk => by cases k with | zero => omega | succ k => exact h k⟩
theorem ok_at (s : ByteArray) (i : Nat) (h : i < s.size) (h' : i < s.data.toList.length) : impl_isType.ok (s.data.toList[i]) = (decide (bt s (i : Int) = 105) || decide (bt s (i : Int) = 114)) := by
  have e : bt s (i : Int) = ((s.data.toList[i]).toNat : Int) := by
    rw [← bt_at s (i : Int) (by rw [Int.toNat_natCast]; exact h)]
    simp only [Int.toNat_natCast, Array.getElem_toList]; rfl
  rw [e]
  generalize s.data.toList[i] = b
  unfold impl_isType.ok
  have g : ∀ n : UInt8, (b == n) = decide ((b.toNat : Int) = (n.toNat : Int)) := by
    intro n
    by_cases hb : b = n
    · subst hb; simp
    · have : ¬ ((b.toNat : Int) = (n.toNat : Int)) := fun q => hb (UInt8.toNat_inj.1 (by omega))
      simp [hb, this]
  rw [g 105, g 114]; rfl
def cfgB (a b c : Int) : Bool := decide ((8 ≤ a ∧ a ≤ 128) ∧ (1 ≤ b ∧ b ≤ 32) ∧ b ≤ a - 5 ∧ (2 ≤ c ∧ c ≤ 400))
def cfgP (a b c : Int) (l : List ByteArray) : Bool := cfgB a b c && impl_TypesOk.g l
theorem cfgB_no {a b c : Int} (h : ¬ ((8 ≤ a ∧ a ≤ 128) ∧ (1 ≤ b ∧ b ≤ 32) ∧ b ≤ a - 5 ∧ (2 ≤ c ∧ c ≤ 400))) : cfgB a b c = false := decide_eq_false h
theorem cfgP_of {a b c : Int} {l : List ByteArray} (h : cfgP a b c l = true) : ((8 ≤ a ∧ a ≤ 128) ∧ (1 ≤ b ∧ b ≤ 32) ∧ b ≤ a - 5 ∧ (2 ≤ c ∧ c ≤ 400)) ∧ impl_TypesOk.g l = true := by
  unfold cfgP cfgB at h; rw [Bool.and_eq_true, decide_eq_true_eq] at h; exact h
theorem tys_of {l : List ByteArray} (h : impl_TypesOk.g l = true) : 1 ≤ l.length ∧ l.length ≤ 12 ∧ ∀ s ∈ l, impl_isType.g s = true := by
  unfold impl_TypesOk.g at h; rw [Bool.and_eq_true, decide_eq_true_eq, List.all_eq_true] at h; exact ⟨by omega, by omega, h.2⟩
theorem iCfg (a b c : Int) (l : List ByteArray) : impl_ConfigOk.f a b c l = some (cfgP a b c l) := by
  unfold impl_ConfigOk.f cfgP
  rw [iIn, Option.bind_some]
  by_cases c1 : 8 ≤ a ∧ a ≤ 128
  · have hm : mn 32 (wrap64 (a - 5)) = mn 32 (a - 5) := by rw [w64 (by omega) (by omega)]
    rw [decide_eq_true c1, if_pos rfl, hm, iIn, Option.bind_some]
    by_cases c2 : 1 ≤ b ∧ b ≤ mn 32 (a - 5)
    · rw [decide_eq_true c2, if_pos rfl, iIn, Option.bind_some]
      have c2' : (1 ≤ b ∧ b ≤ 32) ∧ b ≤ a - 5 := by unfold mn at c2; split at c2 <;> omega
      by_cases c4 : 2 ≤ c ∧ c ≤ 400
      · rw [decide_eq_true c4, if_pos rfl, show cfgB a b c = true from decide_eq_true ⟨c1, c2'.1, c2'.2, c4⟩, Bool.true_and]; rfl
      · rw [decide_eq_false c4, if_neg (by decide), cfgB_no (fun h => c4 h.2.2.2)]; rfl
    · rw [decide_eq_false c2, if_neg (by decide), cfgB_no (fun h => c2 (by unfold mn; split <;> omega))]; rfl
  · rw [decide_eq_false c1, if_neg (by decide), cfgB_no (fun h => c1 h.1)]; rfl
theorem xorN (a b : Nat) (ha : a < 4294967296) (hb : b < 4294967296) : Go.bits .xor .u32 (a : Int) (b : Int) = ((a ^^^ b : Nat) : Int) := by
  have hx : a ^^^ b < 2 ^ 32 := Nat.xor_lt_two_pow (by omega) (by omega)
  show IntKind.u32.wrap (((BitVec.ofInt 32 (a : Int) ^^^ BitVec.ofInt 32 (b : Int)).toNat : Nat) : Int) = _
  rw [BitVec.toNat_xor, BitVec.ofInt_natCast, BitVec.ofInt_natCast, BitVec.toNat_ofNat, BitVec.toNat_ofNat, Nat.mod_eq_of_lt (by omega : a < 2 ^ 32), Nat.mod_eq_of_lt (by omega : b < 2 ^ 32), IntKind.wrap_u32]
  omega
theorem xor_lt (a b : Nat) (ha : a < 4294967296) (hb : b < 4294967296) : a ^^^ b < 4294967296 := Nat.xor_lt_two_pow (n := 32) (by omega) (by omega)
theorem and1 (c : Nat) (h : c < 4294967296) : Go.bits .and .u32 (c : Int) 1 = ((c % 2 : Nat) : Int) := by
  have e := bits_mask .u32 32 (by decide) (fun n h0 h1 => by rw [IntKind.wrap_u32]; omega) 1 (by decide) (c : Int) (by omega) (by omega)
  simpa using e
/-- one bit of the checksum -/
def crcBit (c : Nat) : Nat := if c % 2 = 1 then (c / 2) ^^^ 3988292384 else c / 2
def crcBits : Nat → Nat → Nat
  | 0, c => c
  | n + 1, c => crcBits n (crcBit c)
theorem crcBit_lt {c : Nat} (h : c < 4294967296) : crcBit c < 4294967296 := by
  unfold crcBit; split
  · exact xor_lt _ _ (by omega) (by omega)
  · omega
theorem crcBits_lt : ∀ (n : Nat) {c : Nat}, c < 4294967296 → crcBits n c < 4294967296
  | 0, _, h => h
  | n + 1, _, h => crcBits_lt n (crcBit_lt h)
/-- a byte, as a number -/
def btN (s : ByteArray) (i : Nat) : Nat := (bt s i).toNat
theorem btN_le (s : ByteArray) (i : Nat) : btN s i ≤ 255 := by have := bt_range s i; unfold btN; omega
theorem btN_cast (s : ByteArray) (i : Nat) : ((btN s i : Nat) : Int) = bt s i := by have := bt_range s i; unfold btN; omega
/-- the state behind the first n bytes -/
def crcAt (s : ByteArray) : Nat → Nat
  | 0 => 4294967295
  | n + 1 => crcBits 8 (crcAt s n ^^^ btN s n)
theorem crcAt_lt (s : ByteArray) : ∀ n, crcAt s n < 4294967296
  | 0 => by show 4294967295 < 4294967296; omega
  | n + 1 => crcBits_lt 8 (xor_lt _ _ (crcAt_lt s n) (by have := btN_le s n; omega))
def crcNum (s : ByteArray) : Nat := 4294967295 ^^^ crcAt s s.size
theorem crcNum_lt (s : ByteArray) : crcNum s < 4294967296 := xor_lt _ _ (by omega) (crcAt_lt s _)
def four (x : Int) : List Int := [x / 16777216 % 256, x / 65536 % 256, x / 256 % 256, x % 256]
def crcStr (s : ByteArray) : ByteArray := strOfNums (four (crcNum s))
theorem crcStr_size (s : ByteArray) : (crcStr s).size = 4 := by rw [crcStr, strOfNums_size]; rfl
/-- so many zero bytes -/
def zs (n : Nat) : ByteArray := strOfNums (List.replicate n 0)
theorem zs_size (n : Nat) : (zs n).size = n := by rw [zs, strOfNums_size]; simp
/-- what a string is sealed as -/
def pad (s : ByteArray) : ByteArray := s ++ zs (60 - s.size)
theorem pad_size (s : ByteArray) (h : s.size ≤ 60) : (pad s).size = 60 := by rw [pad, ByteArray.size_append, zs_size]; omega
def sealedP (s : ByteArray) : ByteArray := if 60 < s.size then (⟨#[]⟩ : ByteArray) else pad s ++ crcStr (pad s)
theorem sealedP_size (s : ByteArray) (h : s.size ≤ 60) : (sealedP s).size = 64 := by
  unfold sealedP; rw [if_neg (by omega), ByteArray.size_append, pad_size s h, crcStr_size]
theorem iZeros (n : Nat) (h : n ≤ 140737488355328) : impl_zeros.f (n : Int) = some (zs n) := by
  unfold impl_zeros.f; rw [if_pos (by omega), if_pos (by omega)]; rfl
def wbx (x : Int) : List Int := [x / 72057594037927936 % 256, x / 281474976710656 % 256, x / 1099511627776 % 256, x / 4294967296 % 256, x / 16777216 % 256, x / 65536 % 256, x / 256 % 256, x % 256]
def wb (a : Int) : ByteArray := strOfNums (wbx (a % 18446744073709551616))
theorem wb_size (a : Int) : (wb a).size = 8 := by rw [wb, strOfNums_size]; rfl
theorem bt_strOfNums (xs : List Int) (h : ∀ x ∈ xs, 0 ≤ x ∧ x ≤ 255) (i : Nat) (hi : i < xs.length) : bt (strOfNums xs) i = xs[i] := by
  have e := bt_at (strOfNums xs) i (by rw [strOfNums_size]; simpa using hi)
  rw [← e]
  have hx := h xs[i] (List.getElem_mem hi)
  simp only [strOfNums, ByteArray.getElem_eq_getElem_data]
  simp
  omega
theorem iBB4 (k : Nat) (x : Int) : impl_bigBytes.f (k + 5) x 4 = some (strOfNums (four x)) := by
  unfold impl_bigBytes.f
  simp (config := {maxSteps := 1000000}) [impl_bigBytes.l0, wrap64, List.replicate, four, Int.ediv_ediv]
theorem iBB8 (k : Nat) (x : Int) : impl_bigBytes.f (k + 9) x 8 = some (strOfNums (wbx x)) := by
  unfold impl_bigBytes.f
  simp (config := {maxSteps := 1000000}) [impl_bigBytes.l0, wrap64, List.replicate, wbx, Int.ediv_ediv]
theorem iCrc_in (s : ByteArray) (x10 x11 : Int) (r : ByteArray) : ∀ (d j c : Nat), j + d = 8 → c < 4294967296 → Ev (fun k => impl_Crc.l0 k s (crcBits d c : Nat) x10 (wrap64 (x11 + 1))) r → Ev (fun k => impl_Crc.l1 k s (c : Nat) x10 x11 j) r := by
  intro d
  induction d with
  | zero =>
    intro j c hj hc h
    refine Ev.step (f := fun k => impl_Crc.l0 k s (c : Nat) x10 (wrap64 (x11 + 1))) (fun k => ?_) h
    simp only [impl_Crc.l1]; rw [if_neg (by omega)]
  | succ d ih =>
    intro j c hj hc h
    refine Ev.step (f := fun k => impl_Crc.l1 k s (crcBit c : Nat) x10 x11 ((j + 1 : Nat) : Int)) (fun k => ?_) (ih (j + 1) (crcBit c) (by omega) (crcBit_lt hc) h)
    simp only [impl_Crc.l1]; rw [if_pos (by omega), w64 (n := (j : Int) + 1) (by omega) (by omega), and1 c hc]
    have e2 : ((c : Int) / 2) = ((c / 2 : Nat) : Int) := by omega
    rw [e2]
    unfold crcBit
    by_cases h1 : c % 2 = 1
    · rw [if_pos (by omega), if_pos h1, show (3988292384 : Int) = ((3988292384 : Nat) : Int) from rfl, xorN _ _ (by omega) (by omega)]; rfl
    · rw [if_neg (by omega), if_neg h1]; rfl
theorem iCrc_out (s : ByteArray) (hs : s.size ≤ 4611686018427387904) : ∀ (d i : Nat), i + d = s.size → Ev (fun k => impl_Crc.l0 k s (crcAt s i : Nat) s.size i) (crcStr s) := by
  intro d
  induction d with
  | zero =>
    intro i hi
    obtain rfl : i = s.size := by omega
    refine Ev.step (f := fun k => (impl_bigBytes.f k (crcNum s : Nat) 4).bind fun t => some t) (fun k => ?_) ?_
    · simp only [impl_Crc.l0]; rw [if_neg (by omega), show (4294967295 : Int) = ((4294967295 : Nat) : Int) from rfl, xorN _ _ (by omega) (crcAt_lt s _), u64]
      have := crcNum_lt s
      rw [show ((4294967295 ^^^ crcAt s s.size : Nat) : Int) % 18446744073709551616 = (crcNum s : Nat) by unfold crcNum at *; omega]
    · refine ⟨5, fun k hk => ?_⟩
      obtain ⟨m, rfl⟩ : ∃ m, k = m + 5 := ⟨k - 5, by omega⟩
      show (impl_bigBytes.f (m + 5) (crcNum s : Nat) 4).bind _ = _
      rw [iBB4]; rfl
  | succ d ih =>
    intro i hi
    have hb := btN_le s i
    refine Ev.step (f := fun k => impl_Crc.l1 k s ((crcAt s i ^^^ btN s i : Nat) : Int) s.size i ((0 : Nat) : Int)) (fun k => ?_) ?_
    · simp only [impl_Crc.l0]; rw [if_pos (by omega), if_pos (by omega), if_pos (by omega), ← btN_cast, show ((btN s i : Nat) : Int) % 4294967296 = (btN s i : Nat) by omega, xorN _ _ (crcAt_lt s i) (by omega)]; rfl
    · refine iCrc_in s s.size i _ 8 0 _ rfl (xor_lt _ _ (crcAt_lt s i) (by omega)) ?_
      have := ih (i + 1) (by omega)
      rw [w64 (n := (i : Int) + 1) (by omega) (by omega)]
      exact this
theorem iCrc (s : ByteArray) (hs : s.size ≤ 20000) : Ev (fun k => impl_Crc.f k s) (crcStr s) := by
  refine Ev.congr (fun k => ?_) (iCrc_out s (by omega) s.size 0 (by omega))
  unfold impl_Crc.f; rw [if_neg (by omega)]; rfl
theorem iSealed (s : ByteArray) (hs : s.size ≤ 4611686018427387904) : Ev (fun k => impl_Sealed.f k s) (sealedP s) := by
  by_cases h : (s.size : Int) > 60
  · refine evIs fun k => ?_
    unfold impl_Sealed.f sealedP; rw [if_pos h, if_pos (by omega)]
  · have hz := pad_size s (by omega)
    have e : ∀ k, impl_Sealed.f k s = (impl_Crc.f k (pad s)).bind fun t => (if (pad s).size + t.size ≤ 9223372036854775807 then some (pad s ++ t) else none) := by
      intro k
      unfold impl_Sealed.f
      rw [if_neg h, w64 (by omega) (by omega), show (60 : Int) - (s.size : Int) = ((60 - s.size : Nat) : Int) by omega, iZeros _ (by omega)]
      simp only [Option.bind_some]
      rw [if_pos (by rw [zs_size]; omega)]; rfl
    refine evThen (iCrc (pad s) (by omega)) e (evIs fun k => ?_)
    rw [if_pos (by rw [hz, crcStr_size]; omega)]
    unfold sealedP; rw [if_neg (by omega)]
theorem iWB (k : Nat) (a0 : Int) : impl_WordBytes.f (k + 9) a0 = some (wb a0) := by
  unfold impl_WordBytes.f
  rw [iBB8]; simp [u64, wb]
theorem iWB_ev (a0 : Int) : Ev (fun k => impl_WordBytes.f k a0) (wb a0) := ⟨9, fun k hk => by
  obtain ⟨m, rfl⟩ : ∃ m, k = m + 9 := ⟨k - 9, by omega⟩
  exact iWB m a0⟩
theorem orNat (X b : Nat) (hb : b < 256) : (X * 256) ||| b = X * 256 + b := by
  have h := Nat.two_pow_add_eq_or_of_lt (i := 8) (b := b) (by omega) X
  rw [show 2 ^ 8 * X = X * 256 by omega] at h
  exact h.symm
theorem ofInt_toNat64 (z : Int) : (BitVec.ofInt 64 z).toNat = (z % 18446744073709551616).toNat := by
  rw [BitVec.toNat_ofInt]; rfl
theorem bitsOr (k : IntKind) (hk : k.bits = 64) (z w b : Int) (hz : z % 18446744073709551616 = (w * 256) % 18446744073709551616) (hb : 0 ≤ b) (hb1 : b ≤ 255) :
    Go.bits .or k z b = k.wrap ((w * 256) % 18446744073709551616 + b) := by
  unfold Go.bits
  rw [hk]
  simp only [BitVec.toNat_or, ofInt_toNat64, hz]
  have e : ((w * 256) % 18446744073709551616).toNat = (w % 72057594037927936).toNat * 256 := by omega
  have e2 : (b % 18446744073709551616).toNat = b.toNat := by omega
  rw [e, e2, orNat _ _ (by omega)]
  congr 1; omega
theorem orW (x b : Int) (hb : 0 ≤ b) (hb1 : b ≤ 255) : Go.bits .or .i64 (wrap64 (x * 256)) b = wrap64 (x * 256 + b) := by
  rw [bitsOr .i64 rfl _ x b (by unfold wrap64; omega) hb hb1, IntKind.wrap_i64]; unfold wrap64; omega
/-- the number that n bytes tell, the highest one first -/
def hn (s : ByteArray) (i : Int) : Nat → Int
  | 0 => 0
  | n + 1 => hn s i n * 256 + bt s (i + n)
def wordP (s : ByteArray) (i : Int) : Int := wrap64 (hn s i 8)
/-- two bytes -/
def sb (n : Int) : ByteArray := if 0 ≤ n ∧ n ≤ 65535 then strOfNums [n / 256 % 256, n % 256] else (⟨#[]⟩ : ByteArray)
theorem cut6 (a b c d e f g h : Int) : (strOfNums [a, b, c, d, e, f, g, h]).extract 6 (strOfNums [a, b, c, d, e, f, g, h]).size = strOfNums [g, h] := by
  apply ByteArray.ext
  simp [strOfNums, ByteArray.size]
theorem or8 (a b : Int) (ha : 0 ≤ a) (ha1 : a ≤ 255) (hb : 0 ≤ b) (hb1 : b ≤ 255) : Go.bits .or .i64 (a * 256) b = a * 256 + b :=
  bits_join .i64 63 (by decide) (fun n h0 h1 => by rw [IntKind.wrap_i64]; omega) 8 _ _ (by omega) (by omega) (by omega) hb (by omega) (by omega)
theorem ext_bt {s t : ByteArray} (h : s.size = t.size) (hb : ∀ i : Nat, i < s.size → bt s i = bt t i) : s = t := by
  apply ByteArray.ext
  apply Array.ext h
  intro i h1 h2
  have e := hb i h1
  rw [← bt_at s i (by simpa using h1), ← bt_at t i (by simpa using h2)] at e
  have e2 : (s[i]'h1).toNat = (t[i]'h2).toNat := by
    have : ((s[(i : Int).toNat]'(by simpa using h1)).toNat : Int) = ((t[(i : Int).toNat]'(by simpa using h2)).toNat : Int) := e
    simp only [Int.toNat_natCast] at this
    omega
  exact UInt8.toNat_inj.mp e2
theorem wbx_range (x : Int) : ∀ y ∈ wbx x, 0 ≤ y ∧ y ≤ 255 := by
  intro y hy
  simp [wbx] at hy
  omega
theorem bt_wb (a : Int) (i : Nat) (hi : i < 8) : bt (wb a) i = (wbx (a % 18446744073709551616))[i]'(by simpa [wbx] using hi) := bt_strOfNums _ (wbx_range _) i (by simpa [wbx] using hi)
theorem wordP_wb (a : Int) (h0 : -9223372036854775808 ≤ a) (h1 : a ≤ 9223372036854775807) : wordP (wb a) 0 = a := by
  have b0 : bt (wb a) (0 + ((0 : Nat) : Int)) = _ := bt_wb a 0 (by omega)
  have b1 : bt (wb a) (0 + ((1 : Nat) : Int)) = _ := bt_wb a 1 (by omega)
  have b2 : bt (wb a) (0 + ((2 : Nat) : Int)) = _ := bt_wb a 2 (by omega)
  have b3 : bt (wb a) (0 + ((3 : Nat) : Int)) = _ := bt_wb a 3 (by omega)
  have b4 : bt (wb a) (0 + ((4 : Nat) : Int)) = _ := bt_wb a 4 (by omega)
  have b5 : bt (wb a) (0 + ((5 : Nat) : Int)) = _ := bt_wb a 5 (by omega)
  have b6 : bt (wb a) (0 + ((6 : Nat) : Int)) = _ := bt_wb a 6 (by omega)
  have b7 : bt (wb a) (0 + ((7 : Nat) : Int)) = _ := bt_wb a 7 (by omega)
  unfold wordP
  simp only [hn]
  rw [b0, b1, b2, b3, b4, b5, b6, b7]
  simp only [wbx, List.getElem_cons_zero, List.getElem_cons_succ]
  unfold wrap64; omega
theorem rs_sb (n : Int) (h : 0 ≤ n ∧ n ≤ 65535) : (sb n).size = 2 ∧ bt (sb n) 0 * 256 + bt (sb n) 1 = n := by
  have hr : ∀ x ∈ ([n / 256 % 256, n % 256] : List Int), 0 ≤ x ∧ x ≤ 255 := by intro x hx; simp at hx; omega
  have e0 := bt_strOfNums _ hr 0 (by simp)
  have e1 := bt_strOfNums _ hr 1 (by simp)
  unfold sb; rw [if_pos h]
  refine ⟨by rw [strOfNums_size]; rfl, ?_⟩
  have e0' : bt (strOfNums [n / 256 % 256, n % 256]) 0 = n / 256 % 256 := e0
  have e1' : bt (strOfNums [n / 256 % 256, n % 256]) 1 = n % 256 := e1
  rw [e0', e1']; omega
theorem toList_inj {s t : ByteArray} : s.toList = t.toList ↔ s = t := by
  rw [ByteArray.toList_eq, ByteArray.toList_eq]
  exact ⟨fun h => ByteArray.ext (Array.toList_inj.mp h), fun h => by rw [h]⟩
theorem empty_toList : (⟨#[]⟩ : ByteArray).toList = [] := by rw [ByteArray.toList_eq]
theorem bt_extract (s : ByteArray) (a b : Nat) (i : Int) (h0 : 0 ≤ i) (hi : a + i < b) (hb : b ≤ s.size) : bt (s.extract a b) i = bt s (a + i) := by
  have h1 : i.toNat < (s.extract a b).size := by rw [ByteArray.size_extract]; omega
  have h2 : ((a : Int) + i).toNat < s.size := by omega
  rw [← bt_at _ i h1, ← bt_at s (a + i) h2]
  have e : ((a : Int) + i).toNat = a + i.toNat := by omega
  simp only [ByteArray.getElem_eq_getElem_data, ByteArray.data_extract, Array.getElem_extract, e]
theorem bt_append_l (s t : ByteArray) (i : Int) (h0 : 0 ≤ i) (hi : i < s.size) : bt (s ++ t) i = bt s i := by
  have h1 : i.toNat < (s ++ t).size := by rw [ByteArray.size_append]; omega
  have h2 : i.toNat < s.size := by omega
  rw [← bt_at _ i h1, ← bt_at s i h2]
  simp only [ByteArray.getElem_eq_getElem_data, ByteArray.data_append]
  rw [Array.getElem_append_left]
theorem bt_append_r (s t : ByteArray) (i : Int) (h0 : s.size ≤ i) (hi : i < s.size + t.size) : bt (s ++ t) i = bt t (i - s.size) := by
  have h1 : i.toNat < (s ++ t).size := by rw [ByteArray.size_append]; omega
  have h2 : (i - s.size).toNat < t.size := by omega
  rw [← bt_at _ i h1, ← bt_at t _ h2]
  have e : (i - (s.size : Int)).toNat = i.toNat - s.data.size := by show _ = i.toNat - s.size; omega
  simp only [ByteArray.getElem_eq_getElem_data, ByteArray.data_append, e]
  rw [Array.getElem_append_right (by show s.size ≤ _; omega)]
theorem hn_congr (s t : ByteArray) (i j : Int) : ∀ n : Nat, (∀ m : Nat, m < n → bt s (i + m) = bt t (j + m)) → hn s i n = hn t j n
  | 0, _ => rfl
  | n + 1, h => by rw [hn, hn, hn_congr s t i j n (fun m hm => h m (by omega)), h n (by omega)]
theorem wordP_congr (s t : ByteArray) (i j : Int) (h : ∀ m : Nat, m < 8 → bt s (i + m) = bt t (j + m)) : wordP s i = wordP t j := by
  unfold wordP; rw [hn_congr s t i j 8 h]
theorem wordP_extract (s : ByteArray) (a b : Nat) (i : Int) (h0 : 0 ≤ i) (hi : a + i + 8 ≤ b) (hb : b ≤ s.size) : wordP (s.extract a b) i = wordP s (a + i) :=
  wordP_congr _ _ _ _ (fun m hm => by rw [bt_extract s a b _ (by omega) (by omega) hb]; congr 1; omega)
theorem wordP_append_l (s t : ByteArray) (i : Int) (h0 : 0 ≤ i) (hi : i + 8 ≤ s.size) : wordP (s ++ t) i = wordP s i :=
  wordP_congr _ _ _ _ (fun m hm => bt_append_l s t _ (by omega) (by omega))
theorem extract_extract (s : ByteArray) (a b c d : Nat) (h : a + d ≤ b) : (s.extract a b).extract c d = s.extract (a + c) (a + d) := by
  apply ByteArray.ext
  simp only [ByteArray.data_extract, Array.extract_extract]
  congr 1; omega
theorem extract_append_l (s t : ByteArray) (b : Nat) (h : b ≤ s.size) : (s ++ t).extract 0 b = s.extract 0 b := by
  refine ext_bt (by rw [ByteArray.size_extract, ByteArray.size_extract, ByteArray.size_append]; omega) (fun i hi => ?_)
  rw [ByteArray.size_extract, ByteArray.size_append] at hi
  rw [bt_extract _ _ _ _ (by omega) (by omega) (by rw [ByteArray.size_append]; omega), bt_extract _ _ _ _ (by omega) (by omega) h, bt_append_l _ _ _ (by omega) (by omega)]
theorem extract_all (s : ByteArray) (b : Nat) (h : s.size ≤ b) : s.extract 0 b = s := by
  refine ext_bt (by rw [ByteArray.size_extract]; omega) (fun i hi => ?_)
  rw [ByteArray.size_extract] at hi
  apply congrFun (congrArg bt ?_)
  apply ByteArray.ext
  simp only [ByteArray.data_extract]
  exact Array.extract_eq_self_of_le (by show s.size ≤ b; exact h)
theorem extract_append_r (s t : ByteArray) (b : Nat) (h : s.size + t.size ≤ b) : (s ++ t).extract s.size b = t := by
  refine ext_bt (by rw [ByteArray.size_extract, ByteArray.size_append]; omega) (fun i hi => ?_)
  rw [ByteArray.size_extract, ByteArray.size_append] at hi
  have e : (s ++ t).extract s.size b = (s ++ t).extract s.size (s.size + t.size) := by
    apply ByteArray.ext
    simp only [ByteArray.data_extract]
    rw [Array.extract_eq_extract_right]
    have z : (s.data ++ t.data).size = s.size + t.size := by rw [Array.size_append]; rfl
    rw [← ByteArray.data_append] at z
    rw [z]; omega
  rw [e, bt_extract _ _ _ _ (by omega) (by omega) (by rw [ByteArray.size_append]; omega), bt_append_r _ _ _ (by omega) (by omega)]
  congr 1; omega
/-- what is sealed, opened again -/
def unsP (s : ByteArray) : ByteArray × Bool := if s.size = 64 ∧ crcStr (s.extract 0 60) = s.extract 60 s.size then (s.extract 0 60, true) else ((⟨#[]⟩ : ByteArray), false)
theorem sealed_head (t : ByteArray) (h : t.size ≤ 60) : (sealedP t).extract 0 60 = pad t := by
  unfold sealedP; rw [if_neg (by omega), extract_append_l _ _ _ (by rw [pad_size t h]; omega), extract_all _ _ (by rw [pad_size t h]; omega)]
theorem sealed_tail (t : ByteArray) (h : t.size ≤ 60) : (sealedP t).extract 60 (sealedP t).size = crcStr (pad t) := by
  rw [sealedP_size t h]
  unfold sealedP; rw [if_neg (by omega)]
  have e := extract_append_r (pad t) (crcStr (pad t)) 64 (by rw [pad_size t h, crcStr_size]; omega)
  rw [pad_size t h] at e; exact e
theorem uns_sealed (t : ByteArray) (h : t.size ≤ 60) : unsP (sealedP t) = (pad t, true) := by
  unfold unsP; rw [sealed_head t h, sealed_tail t h, if_pos ⟨sealedP_size t h, rfl⟩]
def epochLineP (e : Int) : ByteArray := if 0 ≤ e ∧ e ≤ 1000000000 then sealedP (wb e) else (⟨#[]⟩ : ByteArray)
theorem epochLineP_size (e : Int) (h : 0 ≤ e ∧ e ≤ 1000000000) : (epochLineP e).size = 64 := by
  unfold epochLineP; rw [if_pos h]; exact sealedP_size _ (by rw [wb_size]; omega)
def readEpochP (s : ByteArray) : Int × Bool := if s.size = 64 ∧ epochLineP (wordP s 0) = s then (wordP s 0, true) else (0, false)
theorem pad_word (e : Int) (h0 : -9223372036854775808 ≤ e) (h1 : e ≤ 9223372036854775807) : wordP (pad (wb e)) 0 = e := by
  unfold pad; rw [wordP_append_l _ _ _ (by omega) (by rw [wb_size]; omega)]; exact wordP_wb e h0 h1
theorem sealed_word (e : Int) (h0 : -9223372036854775808 ≤ e) (h1 : e ≤ 9223372036854775807) : wordP (sealedP (wb e)) 0 = e := by
  have hz : (wb e).size = 8 := wb_size e
  unfold sealedP; rw [if_neg (by omega), wordP_append_l _ _ _ (by omega) (by rw [pad_size _ (by omega)]; omega)]
  exact pad_word e h0 h1
theorem readEpoch_line (e : Int) (h : 0 ≤ e ∧ e ≤ 1000000000) : readEpochP (epochLineP e) = (e, true) := by
  have hw : wordP (epochLineP e) 0 = e := by
    unfold epochLineP; rw [if_pos h]; exact sealed_word e (by omega) (by omega)
  unfold readEpochP; rw [hw, if_pos ⟨epochLineP_size e h, rfl⟩]
theorem iEL (e : Int) : Ev (fun k => impl_EpochLine.f k e) (epochLineP e) := by
  unfold impl_EpochLine.f
  simp only [iIn, Option.bind_some]
  by_cases h : 0 ≤ e ∧ e ≤ 1000000000
  · simp only [show decide (0 ≤ e ∧ e ≤ 1000000000) = true by simpa using h, if_true]
    refine evThen (iWB_ev e) (fun k => rfl) (evThen (iSealed (wb e) (by rw [wb_size]; omega)) (f := fun _ t => some t) (fun k => rfl) (evIs fun k => ?_))
    unfold epochLineP; rw [if_pos h]
  · simp only [show decide (0 ≤ e ∧ e ≤ 1000000000) = false by simpa using h, Bool.false_eq_true, if_false]
    refine evIs fun k => ?_
    unfold epochLineP; rw [if_neg h]
theorem iUns (s : ByteArray) : Ev (fun k => impl_Unsealed.f k s) (unsP s) := by
  by_cases h : s.size = 64
  · have hx : (s.extract 0 60).size = 60 := by rw [ByteArray.size_extract]; omega
    refine evThen (iCrc (s.extract 0 60) (by omega)) (f := fun _ t110 => if t110.toList = (s.extract 60 s.size).toList then (some (s.extract 0 60, true)) else (some ((⟨#[]⟩ : ByteArray), false))) (fun k => ?_) (evIs fun k => ?_)
    · unfold impl_Unsealed.f; rw [if_pos (by omega), if_pos (by omega), if_pos (by omega)]
    · unfold unsP
      by_cases c : crcStr (s.extract 0 60) = s.extract 60 s.size
      · rw [if_pos (toList_inj.mpr c), if_pos ⟨h, c⟩]
      · rw [if_neg (fun z => c (toList_inj.mp z)), if_neg (fun z => c z.2)]
  · refine evIs fun k => ?_
    unfold impl_Unsealed.f unsP; rw [if_neg (by omega), if_neg (fun z => h z.1)]
theorem iWl (s : ByteArray) (at_ : Int) (h0 : 0 ≤ at_) (hs : at_ + 8 ≤ (s.size : Int)) (hm : (s.size : Int) ≤ 9223372036854775807) (d : Nat) : ∀ (k j : Nat), j + d = 8 → d < k → impl_wordAt.l0 k s at_ (wrap64 (hn s at_ j)) j = some (wordP s at_) := by
  induction d with
  | zero =>
    intro k j hj hk
    obtain ⟨k, rfl⟩ : ∃ m, k = m + 1 := ⟨k - 1, by omega⟩
    obtain rfl : j = 8 := by omega
    simp only [impl_wordAt.l0]; rw [if_neg (by omega)]; rfl
  | succ d ih =>
    intro k j hj hk
    obtain ⟨k, rfl⟩ : ∃ m, k = m + 1 := ⟨k - 1, by omega⟩
    have hb := bt_range s (at_ + j)
    simp only [impl_wordAt.l0]; rw [w64 (n := at_ + (j : Int)) (by omega) (by omega), if_pos (by omega), if_pos (by omega), if_pos (by omega), w64 (n := (j : Int) + 1) (by omega) (by omega), w64 (n := bt s (at_ + j)) (by omega) (by omega)]
    have e : Go.bits .or .i64 (wrap64 (wrap64 (hn s at_ j) * 256)) (bt s (at_ + j)) = wrap64 (hn s at_ (j + 1)) := by
      rw [orW _ _ hb.1 hb.2]
      simp only [hn]; unfold wrap64; omega
    rw [e]; exact ih k (j + 1) (by omega) (by omega)
theorem iWA (k : Nat) (s : ByteArray) (at_ : Int) (h0 : 0 ≤ at_) (hs : at_ + 8 ≤ (s.size : Int)) (hm : (s.size : Int) ≤ 9223372036854775807) : impl_wordAt.f (k + 9) s at_ = some (wordP s at_) := by
  have e := iWl s at_ h0 hs hm 8 (k + 9) 0 (by omega) (by omega)
  simp only [hn, show ((0 : Nat) : Int) = 0 from rfl, w64 (n := 0) (by omega) (by omega)] at e
  exact e
theorem iWA_ev (s : ByteArray) (at_ : Int) (h0 : 0 ≤ at_) (hs : at_ + 8 ≤ (s.size : Int)) (hm : (s.size : Int) ≤ 9223372036854775807) : Ev (fun k => impl_wordAt.f k s at_) (wordP s at_) := ⟨9, fun k hk => by
  obtain ⟨m, rfl⟩ : ∃ m, k = m + 9 := ⟨k - 9, by omega⟩
  exact iWA m s at_ h0 hs hm⟩
theorem iRE (s : ByteArray) : Ev (fun k => impl_ReadEpoch.f k s) (readEpochP s) := by
  refine evThen (iUns s) (f := fun k bt131 => (if bt131.2 = true then ((impl_wordAt.f k bt131.1 0).bind fun t133 => ((impl_within.f t133 0 1000000000).bind fun t134 => (if t134 = true then ((impl_EpochLine.f k t133).bind fun t135 => (if t135.toList = s.toList then (some (t133, true)) else (some (0, false)))) else (some (0, false))))) else (some (0, false)))) (fun k => rfl) ?_
  unfold unsP
  by_cases c : s.size = 64 ∧ crcStr (s.extract 0 60) = s.extract 60 s.size
  · simp only [if_pos c, if_true]
    have hx : (s.extract 0 60).size = 60 := by rw [ByteArray.size_extract]; omega
    have hw : wordP (s.extract 0 60) 0 = wordP s 0 := by have := wordP_extract s 0 60 0 (by omega) (by omega) (by omega); simpa using this
    refine evThen (iWA_ev (s.extract 0 60) 0 (by omega) (by omega) (by omega)) (fun k => rfl) ?_
    simp only [hw, iIn, Option.bind_some]
    by_cases h : 0 ≤ wordP s 0 ∧ wordP s 0 ≤ 1000000000
    · simp only [show decide (0 ≤ wordP s 0 ∧ wordP s 0 ≤ 1000000000) = true by simpa using h, if_true]
      refine evThen (iEL _) (fun k => rfl) (evIs fun k => ?_)
      unfold readEpochP
      by_cases c2 : epochLineP (wordP s 0) = s
      · rw [if_pos (toList_inj.mpr c2), if_pos ⟨c.1, c2⟩]
      · rw [if_neg (fun z => c2 (toList_inj.mp z)), if_neg (fun z => c2 z.2)]
    · simp only [show decide (0 ≤ wordP s 0 ∧ wordP s 0 ≤ 1000000000) = false by simpa using h, Bool.false_eq_true, if_false]
      refine evIs fun k => ?_
      have hz : (epochLineP (wordP s 0)).size = 0 := by unfold epochLineP; rw [if_neg h]; rfl
      unfold readEpochP; rw [if_neg (fun z => by rw [z.2] at hz; omega)]
  · simp only [if_neg c, Bool.false_eq_true, if_false]
    refine evIs fun k => ?_
    unfold readEpochP; rw [if_neg (fun z => ?_)]
    by_cases h : 0 ≤ wordP s 0 ∧ wordP s 0 ≤ 1000000000
    · have e : sealedP (wb (wordP s 0)) = s := by have := z.2; unfold epochLineP at this; rwa [if_pos h] at this
      have u := uns_sealed (wb (wordP s 0)) (by rw [wb_size]; omega)
      rw [e] at u; unfold unsP at u; rw [if_neg c] at u; cases u
    · have hz : (epochLineP (wordP s 0)).size = 0 := by unfold epochLineP; rw [if_neg h]; rfl
      rw [z.2] at hz; omega
def imgP (a b c : Int) (l : List ByteArray) (s : ByteArray) : Bool := cfgP a b c l && decide ((s.size : Int) = 64 * a)
def lineP (s : ByteArray) (n : Nat) : ByteArray := s.extract (64 * n) (64 * n + 64)
def epochOfP (a b c : Int) (l : List ByteArray) (s : ByteArray) : Int := if imgP a b c l s = true then (if (readEpochP (lineP s 1)).2 = true then (readEpochP (lineP s 1)).1 else -1) else -1
theorem imgP_of {a b c : Int} {l : List ByteArray} {s : ByteArray} (h : imgP a b c l s = true) : cfgP a b c l = true ∧ (s.size : Int) = 64 * a := by
  unfold imgP at h; rw [Bool.and_eq_true, decide_eq_true_eq] at h; exact h
theorem img_eq {a b c : Int} {l : List ByteArray} (s : ByteArray) (h : cfgP a b c l = true) : ((s.size : Int) == wrap64 (64 * a)) = decide ((s.size : Int) = 64 * a) := by
  obtain ⟨hc, _⟩ := cfgP_of h
  rw [w64 (by omega) (by omega)]
  by_cases e : (s.size : Int) = 64 * a
  · rw [decide_eq_true e, beq_iff_eq.mpr e]
  · rw [decide_eq_false e, beq_eq_false_iff_ne.mpr e]
theorem iImg (a b c : Int) (l : List ByteArray) (s : ByteArray) : impl_isImage.f a b c l s = some (imgP a b c l s) := by
  unfold impl_isImage.f imgP
  rw [iCfg, Option.bind_some]
  by_cases h : cfgP a b c l = true
  · rw [if_pos h, img_eq s h, h, Bool.true_and]
  · rw [if_neg h, Bool.eq_false_iff.2 h, Bool.false_and]
theorem iLine (s : ByteArray) (n : Nat) (h : 64 * n + 64 ≤ s.size) (hs : s.size ≤ 1048576) : impl_lineOf.f s (n : Int) = some (lineP s n) := by
  unfold impl_lineOf.f lineP
  rw [w64 (n := 64 * (n : Int)) (by omega) (by omega), w64 (n := 64 * (n : Int) + 64) (by omega) (by omega), if_pos (by omega), if_pos (by omega), if_pos (by omega)]
  congr 2 <;> omega
theorem iEO (a b c : Int) (l : List ByteArray) (s : ByteArray) (hz : s.size ≤ 1048576) : Ev (fun k => impl_EpochOf.f k a b c l s) (epochOfP a b c l s) := by
  refine Ev.congr (fun k => by unfold impl_EpochOf.f; rw [iImg, Option.bind_some]) ?_
  unfold epochOfP
  by_cases h : imgP a b c l s = true
  · obtain ⟨h1, h2⟩ := imgP_of h
    obtain ⟨hc, _⟩ := cfgP_of h1
    simp only [if_pos h]
    refine Ev.congr (fun k => by rw [show (1 : Int) = ((1 : Nat) : Int) from rfl, iLine s 1 (by omega) hz, Option.bind_some]) (evThen (iRE _) (fun k => rfl) (evIs fun k => ?_))
    split <;> rfl
  · simp only [if_neg h]; exact evIs fun k => rfl
theorem iSB (n : Int) : impl_ShortBytes.f n = some (sb n) := by
  unfold impl_ShortBytes.f
  rw [iIn]; simp only [Option.bind_some, sb]
  by_cases h : 0 ≤ n ∧ n ≤ 65535
  · rw [if_pos (by simpa using h), if_pos h]
  · rw [if_neg (by simpa using h), if_neg h]
def recBody (e q h : Int) (o : ByteArray) : ByteArray := ((((⟨#[85]⟩ : ByteArray) ++ strOfNums [q % 256]) ++ sb h) ++ wb e) ++ o
theorem one_sizeR (x : Int) : (strOfNums [x]).size = 1 := by rw [strOfNums_size]; rfl
theorem lit1_size (x : UInt8) : (⟨#[x]⟩ : ByteArray).size = 1 := rfl
theorem recBody_size (e q h : Int) (o : ByteArray) (hh : 0 ≤ h ∧ h ≤ 65535) : (recBody e q h o).size = 12 + o.size := by
  simp only [recBody, ByteArray.size_append, lit1_size, one_sizeR, (rs_sb h hh).1, wb_size]
def recLineP (e q h : Int) (o : ByteArray) : ByteArray := if (0 ≤ e ∧ e ≤ 999999999) ∧ (0 ≤ q ∧ q ≤ 31) ∧ (0 ≤ h ∧ h ≤ 255) ∧ o.size = 32 then sealedP (recBody e q h o) else (⟨#[]⟩ : ByteArray)
theorem recLineP_size (e q h : Int) (o : ByteArray) (c : (0 ≤ e ∧ e ≤ 999999999) ∧ (0 ≤ q ∧ q ≤ 31) ∧ (0 ≤ h ∧ h ≤ 255) ∧ o.size = 32) : (recLineP e q h o).size = 64 := by
  unfold recLineP; rw [if_pos c]; exact sealedP_size _ (by rw [recBody_size _ _ _ _ (by omega)]; omega)
def readRecP (s : ByteArray) : Int × Int × Int × ByteArray × Bool := if s.size = 64 ∧ recLineP (wordP s 4) (bt s 1) (bt s 2 * 256 + bt s 3) (s.extract 12 44) = s then (wordP s 4, bt s 1, bt s 2 * 256 + bt s 3, s.extract 12 44, true) else (0, 0, 0, (⟨#[]⟩ : ByteArray), false)
theorem bt_ext0 (s : ByteArray) (a b : Nat) (i : Nat) (h : a + i < b) (hb : b ≤ s.size) : bt (s.extract a b) i = bt s ((a + i : Nat) : Int) := by
  rw [bt_extract s a b i (by omega) (by omega) hb]; congr 1
theorem iRLj (e q h : Int) (o : ByteArray) (hh : 0 ≤ h ∧ h ≤ 255) (ho : o.size = 32) : Ev (fun k => impl_RecordLine.j0 k false e q h o) (sealedP (recBody e q h o)) := by
  have z1 := one_sizeR (q % 256)
  have z2 := (rs_sb h ⟨hh.1, by omega⟩).1
  have z3 := wb_size e
  have z4 := recBody_size e q h o (by omega)
  refine Ev.step (f := fun k => _) (fun k => by simp (implicitDefEqProofs := false) only [impl_RecordLine.j0, Bool.false_eq_true, if_false, Option.bind_some]; rfl) ?_
  simp only [if_pos (show 1 + (strOfNums [q % 256]).size ≤ 9223372036854775807 by omega)]
  simp only [iSB, Option.bind_some]
  simp only [if_pos (show ((⟨#[85]⟩ : ByteArray) ++ strOfNums [q % 256]).size + (sb h).size ≤ 9223372036854775807 by rw [ByteArray.size_append, lit1_size]; omega)]
  refine evThen (iWB_ev e) (fun k => rfl) ?_
  simp only [if_pos (show (((⟨#[85]⟩ : ByteArray) ++ strOfNums [q % 256]) ++ sb h).size + (wb e).size ≤ 9223372036854775807 by rw [ByteArray.size_append, ByteArray.size_append, lit1_size]; omega), if_pos (show ((((⟨#[85]⟩ : ByteArray) ++ strOfNums [q % 256]) ++ sb h) ++ wb e).size + o.size ≤ 9223372036854775807 by rw [ByteArray.size_append, ByteArray.size_append, ByteArray.size_append, lit1_size]; omega)]
  exact evThen (iSealed (recBody e q h o) (by omega)) (f := fun _ t => some t) (fun k => rfl) (Ev.now _)
theorem iRLt (e q h : Int) (o : ByteArray) : Ev (fun k => impl_RecordLine.j0 k true e q h o) (⟨#[]⟩ : ByteArray) :=
  Ev.step (f := fun _ => some _) (fun k => by simp only [impl_RecordLine.j0, if_true]) (Ev.now _)
theorem iRL (e q h : Int) (o : ByteArray) : Ev (fun k => impl_RecordLine.f k e q h o) (recLineP e q h o) := by
  unfold impl_RecordLine.f recLineP
  simp only [iIn, Option.bind_some]
  by_cases c1 : 0 ≤ e ∧ e ≤ 999999999
  · simp only [show decide (0 ≤ e ∧ e ≤ 999999999) = true by simpa using c1, if_true]
    by_cases c2 : 0 ≤ q ∧ q ≤ 31
    · simp only [show decide (0 ≤ q ∧ q ≤ 31) = true by simpa using c2, if_true]
      by_cases c3 : 0 ≤ h ∧ h ≤ 255
      · simp only [show decide (0 ≤ h ∧ h ≤ 255) = true by simpa using c3, if_true]
        by_cases c4 : o.size = 32
        · rw [if_pos ⟨c1, c2, c3, c4⟩]
          simp only [show ((o.size : Int) != 32) = false by simp; omega]
          exact iRLj e q h o c3 c4
        · rw [if_neg (fun z => c4 z.2.2.2)]
          simp only [show ((o.size : Int) != 32) = true by simp; omega]
          exact iRLt e q h o
      · rw [if_neg (fun z => c3 z.2.2.1)]
        simp only [show decide (0 ≤ h ∧ h ≤ 255) = false by simpa using c3, Bool.false_eq_true, if_false]
        exact iRLt e q h o
    · rw [if_neg (fun z => c2 z.2.1)]
      simp only [show decide (0 ≤ q ∧ q ≤ 31) = false by simpa using c2, Bool.false_eq_true, if_false]
      exact iRLt e q h o
  · rw [if_neg (fun z => c1 z.1)]
    simp only [show decide (0 ≤ e ∧ e ≤ 999999999) = false by simpa using c1, Bool.false_eq_true, if_false]
    exact iRLt e q h o
def rs (s : ByteArray) : Int × Bool := if s.size = 2 then (bt s 0 * 256 + bt s 1, true) else (0, false)
theorem iRS (s : ByteArray) : impl_ReadShort.f s = some (rs s) := by
  unfold impl_ReadShort.f rs
  have h0 := bt_range s 0
  have h1 := bt_range s 1
  by_cases h : s.size = 2
  · rw [if_pos (by omega), if_pos (by omega), if_pos (by omega), if_pos h, w64 (n := bt s 0) (by omega) (by omega), w64 (n := bt s 1) (by omega) (by omega), w64 (by omega) (by omega), or8 _ _ h0.1 h0.2 h1.1 h1.2]
  · rw [if_neg (by omega), if_neg h]
theorem iRR (s : ByteArray) : Ev (fun k => impl_ReadRecord.f k s) (readRecP s) := by
  refine evThen (iUns s) (fun k => rfl) ?_
  unfold unsP
  by_cases c : s.size = 64 ∧ crcStr (s.extract 0 60) = s.extract 60 s.size
  · simp only [if_pos c, if_true]
    have hz : (s.extract 0 60).size = 60 := by rw [ByteArray.size_extract]; omega
    have hy : (s.extract 2 4).size = 2 := by rw [ByteArray.size_extract]; omega
    have x1 : (s.extract 0 60).extract 2 4 = s.extract 2 4 := by have := extract_extract s 0 60 2 4 (by omega); simpa using this
    have x2 : (s.extract 0 60).extract 12 44 = s.extract 12 44 := by have := extract_extract s 0 60 12 44 (by omega); simpa using this
    have hw : wordP (s.extract 0 60) 4 = wordP s 4 := by have := wordP_extract s 0 60 4 (by omega) (by omega) (by omega); simpa using this
    have b1 : bt (s.extract 0 60) 1 = bt s 1 := bt_ext0 s 0 60 1 (by omega) (by omega)
    have b2 : bt (s.extract 2 4) 0 = bt s 2 := bt_ext0 s 2 4 0 (by omega) (by omega)
    have b3 : bt (s.extract 2 4) 1 = bt s 3 := bt_ext0 s 2 4 1 (by omega) (by omega)
    have r1 := bt_range s 1
    have hrs : rs (s.extract 2 4) = (bt s 2 * 256 + bt s 3, true) := by unfold rs; rw [if_pos hy, b2, b3]
    simp only [if_pos (show 1 < ((s.extract 0 60).size : Int) by omega)]
    refine evThen (iWA_ev (s.extract 0 60) 4 (by omega) (by omega) (by omega)) (fun k => rfl) ?_
    simp only [if_pos (show (12 : Nat) ≤ 44 by omega), if_pos (show (44 : Int) ≤ ((s.extract 0 60).size : Int) by omega), if_pos (show (2 : Nat) ≤ 4 by omega), if_pos (show (4 : Int) ≤ ((s.extract 0 60).size : Int) by omega), x1, x2, iRS, hrs, hw, b1, Option.bind_some, w64 (n := bt s 1) (by omega) (by omega)]
    refine evThen (iRL _ _ _ _) (fun k => rfl) (evIs fun k => ?_)
    unfold readRecP
    by_cases c2 : recLineP (wordP s 4) (bt s 1) (bt s 2 * 256 + bt s 3) (s.extract 12 44) = s
    · rw [if_pos (toList_inj.mpr c2), if_pos ⟨c.1, c2⟩]
    · rw [if_neg (fun z => c2 (toList_inj.mp z)), if_neg (fun z => c2 z.2)]
  · simp only [if_neg c, Bool.false_eq_true, if_false]
    refine evIs fun k => ?_
    unfold readRecP; rw [if_neg (fun z => ?_)]
    have e := z.2
    unfold recLineP at e
    split at e
    · rename_i hc
      have u := uns_sealed (recBody (wordP s 4) (bt s 1) (bt s 2 * 256 + bt s 3) (s.extract 12 44)) (by rw [recBody_size _ _ _ _ (by omega)]; omega)
      rw [e] at u; unfold unsP at u; rw [if_neg c] at u; cases u
    · have := congrArg ByteArray.size e; rw [z.1] at this; simp [ByteArray.size] at this
theorem ext_app (s t : ByteArray) (a b : Nat) (h : b ≤ s.size) : (s ++ t).extract a b = s.extract a b := by
  by_cases hab : a ≤ b
  · refine ext_bt (by rw [ByteArray.size_extract, ByteArray.size_extract, ByteArray.size_append]; omega) (fun i hi => ?_)
    rw [ByteArray.size_extract, ByteArray.size_append] at hi
    rw [bt_extract _ _ _ _ (by omega) (by omega) (by rw [ByteArray.size_append]; omega), bt_extract _ _ _ _ (by omega) (by omega) h, bt_append_l _ _ _ (by omega) (by omega)]
  · refine ext_bt (by rw [ByteArray.size_extract, ByteArray.size_extract]; omega) (fun i hi => ?_)
    rw [ByteArray.size_extract] at hi; omega
theorem sealed_bt (t : ByteArray) (h : t.size ≤ 60) (i : Int) (h0 : 0 ≤ i) (h1 : i < t.size) : bt (sealedP t) i = bt t i := by
  unfold sealedP; rw [if_neg (by omega), bt_append_l _ _ _ h0 (by rw [pad_size t h]; omega)]
  unfold pad; exact bt_append_l _ _ _ h0 h1
theorem sealed_ext (t : ByteArray) (h : t.size ≤ 60) (a b : Nat) (hb : b ≤ t.size) : (sealedP t).extract a b = t.extract a b := by
  unfold sealedP; rw [if_neg (by omega), ext_app _ _ _ _ (by rw [pad_size t h]; omega)]
  unfold pad; exact ext_app _ _ _ _ hb
theorem readRec_line (e q h : Int) (o : ByteArray) (c : (0 ≤ e ∧ e ≤ 999999999) ∧ (0 ≤ q ∧ q ≤ 31) ∧ (0 ≤ h ∧ h ≤ 255) ∧ o.size = 32) : readRecP (recLineP e q h o) = (e, q, h, o, true) := by
  obtain ⟨ce, cq, ch, co⟩ := c
  have hs := recLineP_size e q h o ⟨ce, cq, ch, co⟩
  have hl : recLineP e q h o = sealedP (recBody e q h o) := by unfold recLineP; rw [if_pos ⟨ce, cq, ch, co⟩]
  have hb := recBody_size e q h o (by omega)
  have z1 := one_sizeR (q % 256)
  obtain ⟨z2, z2'⟩ := rs_sb h ⟨ch.1, by omega⟩
  have z3 := wb_size e
  have y1 : ((⟨#[85]⟩ : ByteArray) ++ strOfNums [q % 256]).size = 2 := by rw [ByteArray.size_append, lit1_size, z1]
  have y2 : (((⟨#[85]⟩ : ByteArray) ++ strOfNums [q % 256]) ++ sb h).size = 4 := by rw [ByteArray.size_append, y1, z2]
  have y3 : ((((⟨#[85]⟩ : ByteArray) ++ strOfNums [q % 256]) ++ sb h) ++ wb e).size = 12 := by rw [ByteArray.size_append, y2, z3]
  have b1 : bt (recBody e q h o) 1 = q := by
    unfold recBody
    rw [bt_append_l _ _ _ (by omega) (by omega), bt_append_l _ _ _ (by omega) (by omega), bt_append_l _ _ _ (by omega) (by omega), bt_append_r _ _ _ (by rw [lit1_size]; omega) (by rw [lit1_size]; omega), lit1_size]
    have := bt_strOfNums [q % 256] (by intro x hx; simp at hx; omega) 0 (by simp)
    have e0 : bt (strOfNums [q % 256]) 0 = q % 256 := this
    rw [show (1 : Int) - ((1 : Nat) : Int) = 0 from rfl, e0]; omega
  have b2 : bt (recBody e q h o) 2 = bt (sb h) 0 := by
    unfold recBody
    rw [bt_append_l _ _ _ (by omega) (by omega), bt_append_l _ _ _ (by omega) (by omega), bt_append_r _ _ _ (by omega) (by omega), y1]; rfl
  have b3 : bt (recBody e q h o) 3 = bt (sb h) 1 := by
    unfold recBody
    rw [bt_append_l _ _ _ (by omega) (by omega), bt_append_l _ _ _ (by omega) (by omega), bt_append_r _ _ _ (by omega) (by omega), y1]; rfl
  have bw : wordP (sealedP (recBody e q h o)) 4 = e := by
    have : wordP (sealedP (recBody e q h o)) 4 = wordP (wb e) 0 := by
      refine wordP_congr _ _ _ _ (fun m hm => ?_)
      rw [sealed_bt _ (by omega) _ (by omega) (by omega)]
      unfold recBody
      rw [bt_append_l _ _ _ (by omega) (by omega), bt_append_r _ _ _ (by omega) (by omega), y2]; congr 1; omega
    rw [this]; exact wordP_wb e (by omega) (by omega)
  have bo : (sealedP (recBody e q h o)).extract 12 44 = o := by
    rw [sealed_ext _ (by omega) _ _ (by omega)]
    have := extract_append_r ((((⟨#[85]⟩ : ByteArray) ++ strOfNums [q % 256]) ++ sb h) ++ wb e) o 44 (by omega)
    rw [y3] at this; exact this
  have s1 := sealed_bt (recBody e q h o) (by omega) 1 (by omega) (by omega)
  have s2 := sealed_bt (recBody e q h o) (by omega) 2 (by omega) (by omega)
  have s3 := sealed_bt (recBody e q h o) (by omega) 3 (by omega) (by omega)
  unfold readRecP
  rw [if_pos ?_]
  · rw [hl, bw, s1, s2, s3, b1, b2, b3, bo, z2']
  · refine ⟨hs, ?_⟩
    conv => lhs; rw [hl, bw, s1, s2, s3, b1, b2, b3, bo, z2']
theorem readRec_ok (s : ByteArray) : (readRecP s).2.2.2.2 = true → recLineP (readRecP s).1 (readRecP s).2.1 (readRecP s).2.2.1 (readRecP s).2.2.2.1 = s := by
  unfold readRecP; split
  · rename_i h; intro _; exact h.2
  · intro h; cases h
/-- a half that may be logged -/
def halfP (a b h : Int) : Bool := decide (h = 4 ∨ h = 5 ∨ (2 * (4 + b) ≤ h ∧ h ≤ 2 * a - 1))
def logL (e a b : Int) (m : ByteArray) : Nat → Nat → List S83 → List S83 × Bool
  | 0, _, out => (out, true)
  | n + 1, i, out =>
    if (readRecP (lineP m (4 + i))).2.2.2.2 = true then
      if (readRecP (lineP m (4 + i))).1 < e then logL e a b m n (i + 1) out
      else if e < (readRecP (lineP m (4 + i))).1 then ([], false)
      else if (out.length : Int) = (i : Int) then
        if (readRecP (lineP m (4 + i))).2.1 = (i : Int) then
          if halfP a b (readRecP (lineP m (4 + i))).2.2.1 = true then
            (if out.any (fun x => x.f2 == (readRecP (lineP m (4 + i))).2.2.1) = true then ([], false)
            else logL e a b m n (i + 1) (out ++ [⟨(readRecP (lineP m (4 + i))).1, (readRecP (lineP m (4 + i))).2.1, (readRecP (lineP m (4 + i))).2.2.1, (readRecP (lineP m (4 + i))).2.2.2.1⟩]))
          else ([], false)
        else ([], false)
      else ([], false)
    else logL e a b m n (i + 1) out
/-- the current records of an image -/
def logP (a b c : Int) (T : List ByteArray) (m : ByteArray) : List S83 × Bool := if epochOfP a b c T m < 0 then ([], false) else logL (epochOfP a b c T m) a b m b.toNat 0 []
theorem logL_len (e a b : Int) (m : ByteArray) : ∀ (n i : Nat) (out : List S83), out.length ≤ i → (logL e a b m n i out).1.length ≤ n + i
  | 0, i, out, h => by rw [logL]; show out.length ≤ _; omega
  | n + 1, i, out, h => by
    have ih := logL_len e a b m n (i + 1) out (by omega)
    have ih2 := fun y => logL_len e a b m n (i + 1) (out ++ [y]) (by rw [List.length_append]; simp; omega)
    rw [logL]
    repeat' split
    all_goals first | omega | exact Nat.zero_le _ | (have := ih2 _; omega) | (refine Nat.le_trans (ih2 _) (by omega))
theorem ep_img {a b c : Int} {T : List ByteArray} {m : ByteArray} (h : ¬ epochOfP a b c T m < 0) : imgP a b c T m = true := by
  by_cases g : imgP a b c T m = true
  · exact g
  · exact absurd (by unfold epochOfP; rw [if_neg g]; decide) h
theorem logP_len (a b c : Int) (T : List ByteArray) (m : ByteArray) : (logP a b c T m).1.length ≤ 32 := by
  unfold logP
  by_cases g : epochOfP a b c T m < 0
  · rw [if_pos g]; exact Nat.zero_le _
  · rw [if_neg g]
    obtain ⟨h1, _⟩ := imgP_of (ep_img g)
    obtain ⟨hc, _⟩ := cfgP_of h1
    have := logL_len (epochOfP a b c T m) a b m b.toNat 0 [] (Nat.zero_le _)
    omega
theorem iHalf {a b : Int} (c : Int) (T : List ByteArray) (ha : 0 ≤ a ∧ a ≤ 128) (hb : 0 ≤ b ∧ b ≤ 32) (h : Int) : impl_canLog.f a b c T h = some (halfP a b h) := by
  unfold impl_canLog.f
  rw [w64 (n := 4 + b) (by omega) (by omega), w64 (n := 2 * (4 + b)) (by omega) (by omega), w64 (n := 2 * a) (by omega) (by omega), w64 (n := 2 * a - 1) (by omega) (by omega)]
  unfold halfP impl_within.f
  by_cases h1 : h ≥ 4 <;> by_cases h2 : h ≤ 5 <;> by_cases h3 : h ≥ 2 * (4 + b) <;> by_cases h4 : h ≤ 2 * a - 1 <;> simp [h1, h2, h3, h4] <;> omega
theorem iLog_l (k0 : Nat) (e a b c : Int) (T : List ByteArray) (m : ByteArray) (ha : 0 ≤ a ∧ a ≤ 128) (hb : 0 ≤ b ∧ b ≤ 32) (hm : (m.size : Int) = 64 * a) (hba : b ≤ a - 5) : ∀ (n i : Nat) (out : List S83), i + n = b.toNat → Ev (fun k => impl_LogOf.l k e a b c T m n i out) (logL e a b m n i out) := by
  intro n
  induction n with
  | zero => intro i out _; exact Ev.now _
  | succ n ih =>
    intro i out hi
    have h0 := ih (i + 1) out (by omega)
    have ln := iLine m (4 + i) (by omega) (by omega)
    rw [show ((4 + i : Nat) : Int) = 4 + (i : Int) by omega] at ln
    refine Ev.congr (fun k => by rw [impl_LogOf.l, ln, Option.bind_some]) ?_
    refine evThen (iRR (lineP m (4 + i))) (fun k => rfl) ?_
    rw [logL]
    by_cases c1 : (readRecP (lineP m (4 + i))).2.2.2.2 = true
    · simp only [if_pos c1]
      by_cases c2 : (readRecP (lineP m (4 + i))).1 < e
      · simp only [if_pos c2]; exact h0
      · simp only [if_neg c2]
        by_cases c3 : e < (readRecP (lineP m (4 + i))).1
        · simp only [if_pos c3]; exact Ev.now _
        · simp only [if_neg c3]
          by_cases c4 : (out.length : Int) = (i : Int)
          · simp only [if_pos c4]
            by_cases c5 : (readRecP (lineP m (4 + i))).2.1 = (i : Int)
            · simp only [if_pos c5, iHalf c T ha hb, Option.bind_some]
              by_cases c6 : halfP a b (readRecP (lineP m (4 + i))).2.2.1 = true
              · simp only [if_pos c6]
                by_cases c7 : out.any (fun x => x.f2 == (readRecP (lineP m (4 + i))).2.2.1) = true
                · simp only [if_pos c7]; exact Ev.now _
                · simp only [if_neg c7]; rw [c5]; exact ih (i + 1) _ (by omega)
              · simp only [if_neg c6]; exact Ev.now _
            · simp only [if_neg c5]; exact Ev.now _
          · simp only [if_neg c4]; exact Ev.now _
    · simp only [if_neg c1]; exact h0
theorem iLO (a b c : Int) (T : List ByteArray) (m : ByteArray) (hz : m.size ≤ 1048576) : Ev (fun k => impl_LogOf.f k a b c T m) (logP a b c T m) := by
  refine evThen (iEO a b c T m hz) (fun k => rfl) ?_
  unfold logP
  by_cases g : epochOfP a b c T m < 0
  · simp only [if_pos g]; exact Ev.now _
  · obtain ⟨h1, h2⟩ := imgP_of (ep_img g)
    obtain ⟨hc, _⟩ := cfgP_of h1
    simp only [if_neg g, if_pos (show b ≤ 500 by omega)]
    exact iLog_l 0 _ a b c T m (by omega) (by omega) h2 (by omega) b.toNat 0 [] (by omega)
/-- A line of a right device, by its number. -/
def lineOk (s : ByteArray) (l : List S106) (i : Nat) : Prop :=
  (0 ≤ (rd_T106 l i).f0 ∧ (rd_T106 l i).f0 ≤ (s.size : Int) / 64 - 1) ∧ (0 < i → (rd_T106 l ((i : Int) - 1)).f0 < (rd_T106 l i).f0) ∧ (rd_T106 l i).f1.size = 64 ∧ ((rd_T106 l i).f2.size = 64 ∨ (rd_T106 l i).f2.toList = [])
def DevOk (s : ByteArray) (l : List S106) : Prop := ((s.size : Int) % 64 = 0 ∧ 1 ≤ (s.size : Int) / 64 ∧ (s.size : Int) / 64 ≤ 128) ∧ ∀ j, j < l.length → lineOk s l j
open Classical in
open Classical in
noncomputable def devOkB (s : ByteArray) (l : List S106) : Bool := decide (DevOk s l)
open Classical in
open Classical in
open Classical in
open Classical in
open Classical in
open Classical in
theorem devOkB_iff (s : ByteArray) (l : List S106) : devOkB s l = true ↔ DevOk s l := by
  unfold devOkB; exact decide_eq_true_iff
theorem okOne (s : ByteArray) (l : List S106) (i : Nat) : impl_DeviceOk.one s l i = true ↔ lineOk s l i := by
  have e : 0 < i → ((i : Int) - 1) = ((i - 1 : Nat) : Int) := fun h => by omega
  unfold impl_DeviceOk.one lineOk impl_DeviceOk.A
  simp only [Bool.and_eq_true, Bool.not_eq_true', Bool.and_eq_false_iff, Bool.or_eq_true, decide_eq_true_eq, decide_eq_false_iff_not, List.isEmpty_iff]
  constructor
  · rintro ⟨h1, h2, h3, h4⟩
    refine ⟨h1, fun h => ?_, by omega, ?_⟩
    · rw [e h]; rcases h2 with h2 | h2
      · exact absurd h h2
      · omega
    · rcases h4 with h4 | h4
      · exact .inl (by omega)
      · exact .inr h4
  · rintro ⟨h1, h2, h3, h4⟩
    refine ⟨h1, ?_, by omega, ?_⟩
    · by_cases h : 0 < i
      · have := h2 h; rw [e h] at this; exact .inr (by omega)
      · exact .inl h
    · rcases h4 with h4 | h4
      · exact .inl (by omega)
      · exact .inr h4
theorem gDev (s : ByteArray) (l : List S106) : impl_DeviceOk.g s l = devOkB s l := by
  rw [Bool.eq_iff_iff, devOkB_iff]
  unfold impl_DeviceOk.g DevOk
  simp only [Bool.and_eq_true, decide_eq_true_eq, List.all_eq_true, List.mem_range, okOne]
  exact ⟨fun ⟨a, b, c⟩ => ⟨⟨a, b.1, b.2⟩, c⟩, fun ⟨a, b⟩ => ⟨a.1, ⟨a.2.1, a.2.2⟩, b⟩⟩
theorem iDO (s : ByteArray) (l : List S106) (hs : s.size ≤ 1048576) (hl : l.length ≤ 1048576) : Ev (fun k => impl_DeviceOk.f k s l) (devOkB s l) := evIs fun k => by unfold impl_DeviceOk.f; rw [if_pos ⟨hs, hl⟩, gDev]
def safeL (s : ByteArray) (a : Int) : ByteArray := s.extract (64 * a).toNat (64 * a + 64).toNat
theorem rd_nat (l : List S106) (i : Nat) (h : i < l.length) : rd_T106 l (i : Int) = l[i] := by simp [rd_T106, List.getD, h]
/-- The i-th 64 bytes. -/
def blk (b : List UInt8) (i : Nat) : List UInt8 := (b.drop (64 * i)).take 64
theorem blk_length (b : List UInt8) (i : Nat) (h : 64 * i + 64 ≤ b.length) : (blk b i).length = 64 := by simp [blk]; omega
theorem blk_lay (b d : List UInt8) (a i : Nat) (hd : d.length = 64) (ha : 64 * a + 64 ≤ b.length) (hi : 64 * i + 64 ≤ b.length) :
    blk (b.take (64 * a) ++ d ++ b.drop (64 * a + d.length)) i = if i = a then d else blk b i := by
  rw [hd]
  apply List.ext_getElem?
  intro j
  unfold blk
  rw [List.getElem?_take, List.getElem?_drop]
  by_cases hj : j < 64
  · rw [if_pos hj, List.append_assoc, List.getElem?_append, List.getElem?_append, List.length_take, hd, show min (64 * a) b.length = 64 * a by omega]
    by_cases e : i = a
    · subst e
      rw [if_pos rfl, if_neg (by omega), if_pos (by omega)]
      congr 1; omega
    · rw [if_neg e, show ((b.drop (64 * i)).take 64)[j]? = b[64 * i + j]? from by rw [List.getElem?_take, if_pos hj, List.getElem?_drop]]
      by_cases e2 : 64 * i + j < 64 * a
      · rw [if_pos e2, List.getElem?_take, if_pos e2]
      · rw [if_neg e2, if_neg (by omega), List.getElem?_drop]
        congr 1; omega
  · rw [if_neg hj]
    by_cases e : i = a
    · rw [if_pos e, List.getElem?_eq_none (by omega)]
    · rw [if_neg e, List.getElem?_take, if_neg hj]
theorem join_blk (b : List UInt8) : ∀ n : Nat, (List.range n).flatMap (blk b) = b.take (64 * n)
  | 0 => by simp
  | n + 1 => by
    rw [List.range_succ, List.flatMap_append, join_blk b n, show 64 * (n + 1) = 64 * n + 64 by omega, List.take_add]
    simp [blk]
/-- What is seen of line i. -/
def seenB (s : List UInt8) (l : List S106) (i : Nat) : List UInt8 := l.foldl (fun acc x => if x.f0 = (i : Int) then x.f1.data.toList else acc) (blk s i)
def srt (l : List S106) : Prop := l.Pairwise (fun x y => x.f0 < y.f0)
theorem foldl_no (l : List S106) (i : Int) (h : ∀ x ∈ l, x.f0 ≠ i) : ∀ a : List UInt8, l.foldl (fun acc x => if x.f0 = i then x.f1.data.toList else acc) a = a := by
  induction l with
  | nil => intro a; rfl
  | cons x l ih =>
    intro a
    rw [List.foldl_cons, if_neg (h x (by simp))]
    exact ih (fun y hy => h y (by simp [hy])) a
theorem foldl_find (i : Int) : ∀ (l : List S106), srt l → ∀ a : List UInt8, l.foldl (fun acc x => if x.f0 = i then x.f1.data.toList else acc) a =
    if (l[l.countP (fun x => decide (x.f0 < i))]?).any (fun x => decide (x.f0 = i)) = true then (l.getD (l.countP (fun x => decide (x.f0 < i))) z106).f1.data.toList else a
  | [], _, a => by simp
  | x :: l, h, a => by
    have hx := (List.pairwise_cons.1 h).1
    have hl := (List.pairwise_cons.1 h).2
    rw [List.foldl_cons]
    by_cases c : x.f0 < i
    · rw [if_neg (by omega), foldl_find i l hl a, List.countP_cons_of_pos (by simpa using c)]
      simp
    · have z : (x :: l).countP (fun x => decide (x.f0 < i)) = 0 := by
        rw [List.countP_eq_zero]
        intro y hy
        rcases List.mem_cons.1 hy with rfl | hy
        · simpa using c
        · have := hx y hy; simp; omega
      rw [z, foldl_no l i (fun y hy => by have := hx y hy; omega)]
      by_cases e : x.f0 = i <;> simp [e]
theorem srt_of {s : ByteArray} {l : List S106} (hd : DevOk s l) : srt l := by
  have h1 : ∀ i, i + 1 < l.length → (rd_T106 l (i : Int)).f0 < (rd_T106 l ((i + 1 : Nat) : Int)).f0 := by
    intro i hi
    have := (hd.2 (i + 1) hi).2.1 (by omega)
    rwa [show (((i + 1 : Nat) : Int) - 1) = (i : Int) by omega] at this
  have h2 : ∀ (d i : Nat), i + (d + 1) < l.length → (rd_T106 l (i : Int)).f0 < (rd_T106 l ((i + (d + 1) : Nat) : Int)).f0 := by
    intro d
    induction d with
    | zero => intro i hi; exact h1 i hi
    | succ d ih =>
      intro i hi
      have a := ih i (by omega)
      have b := h1 (i + (d + 1)) (by omega)
      rw [show i + (d + 1 + 1) = i + (d + 1) + 1 by omega]
      omega
  unfold srt
  rw [List.pairwise_iff_getElem]
  intro i j hi hj hij
  have := h2 (j - i - 1) i (by omega)
  rw [show i + (j - i - 1 + 1) = j by omega, rd_nat l i hi, rd_nat l j hj] at this
  exact this
/-- All lines laid over the safe contents. -/
def layAll (b : List UInt8) (l : List S106) : List UInt8 := l.foldl (fun b x => b.take (64 * x.f0).toNat ++ x.f1.data.toList ++ b.drop ((64 * x.f0).toNat + x.f1.data.toList.length)) b
theorem layAll_blk : ∀ (l : List S106) (b : List UInt8), (∀ x ∈ l, 0 ≤ x.f0 ∧ 64 * x.f0 + 64 ≤ (b.length : Int) ∧ x.f1.size = 64) → (layAll b l).length = b.length ∧ ∀ i, 64 * i + 64 ≤ b.length → blk (layAll b l) i = seenB b l i
  | [], b, _ => ⟨rfl, fun i _ => rfl⟩
  | x :: l, b, h => by
    obtain ⟨h1, h2, h3⟩ := h x (by simp)
    obtain ⟨n, hn⟩ := Int.eq_ofNat_of_zero_le h1
    have h3' : x.f1.data.toList.length = 64 := by rw [← h3]; simp
    have e : (64 * x.f0).toNat = 64 * n := by omega
    have hlen : (b.take (64 * x.f0).toNat ++ x.f1.data.toList ++ b.drop ((64 * x.f0).toNat + x.f1.data.toList.length)).length = b.length := by
      simp only [List.length_append, List.length_take, List.length_drop, h3']; omega
    obtain ⟨a1, a2⟩ := layAll_blk l (b.take (64 * x.f0).toNat ++ x.f1.data.toList ++ b.drop ((64 * x.f0).toNat + x.f1.data.toList.length)) (fun y hy => by rw [hlen]; exact h y (by simp [hy]))
    refine ⟨a1.trans hlen, fun i hi => ?_⟩
    have := a2 i (by rw [hlen]; exact hi)
    rw [show layAll b (x :: l) = layAll (b.take (64 * x.f0).toNat ++ x.f1.data.toList ++ b.drop ((64 * x.f0).toNat + x.f1.data.toList.length)) l from rfl, this]
    unfold seenB
    rw [List.foldl_cons, e, blk_lay b x.f1.data.toList n i h3' (by omega) hi, hn]
    by_cases c : i = n
    · rw [if_pos c, if_pos (by rw [c])]
    · rw [if_neg c, if_neg (by omega)]
def seenL (s : List UInt8) (l : List S106) : List UInt8 := (List.range (s.length / 64)).flatMap (seenB s l)
theorem layAll_seen (l : List S106) (b : List UInt8) (hb : b.length % 64 = 0) (h : ∀ x ∈ l, 0 ≤ x.f0 ∧ 64 * x.f0 + 64 ≤ (b.length : Int) ∧ x.f1.size = 64) : layAll b l = seenL b l := by
  obtain ⟨h1, h2⟩ := layAll_blk l b h
  have e := join_blk (layAll b l) (b.length / 64)
  rw [List.take_of_length_le (by rw [h1]; omega)] at e
  rw [← e]
  unfold seenL
  rw [List.flatMap_def, List.flatMap_def]
  congr 1
  apply List.map_congr_left
  intro i hi
  exact h2 i (by have := List.mem_range.1 hi; omega)
def layd (b : List UInt8) (n : Nat) (t : List UInt8) : List UInt8 := b.take (64 * n) ++ t ++ b.drop (64 * n + t.length)
theorem layd_len (b : List UInt8) (n : Nat) (t : List UInt8) (h : 64 * n + t.length ≤ b.length) : (layd b n t).length = b.length := by simp [layd]; omega
theorem layd_nil (b : List UInt8) (n : Nat) : layd b n [] = b := by simp [layd]
/-- What a right device says of each of its lines. -/
def okL (m : Nat) (x : S106) : Prop := 0 ≤ x.f0 ∧ 64 * x.f0 + 64 ≤ (m : Int) ∧ x.f1.size = 64 ∧ (x.f2.size = 64 ∨ x.f2.size = 0)
theorem okL_of {s : ByteArray} {l : List S106} (hd : DevOk s l) : ∀ x ∈ l, okL s.size x := by
  intro x hx
  obtain ⟨i, hi, rfl⟩ := List.getElem_of_mem hx
  have h := hd.2 i hi
  have h1 := hd.1
  unfold lineOk at h
  rw [rd_nat l i hi] at h
  obtain ⟨⟨a, b⟩, _, c, d⟩ := h
  refine ⟨a, by omega, c, ?_⟩
  rcases d with d | d
  · exact .inl d
  · refine .inr ?_
    rw [ByteArray.toList_eq] at d
    have : l[i].f2.data.toList.length = 0 := by rw [d]; rfl
    simpa using this
theorem dlen (d : ByteArray) : d.data.toList.length = d.size := by simp
theorem rd_mid2 (p r : List S106) (y : S106) (i : Nat) (h : p.length = i) : rd_T106 (p ++ y :: r) (i : Int) = y := by
  subst h; simp [rd_T106, List.getD]
theorem set_mid2 (p r : List S106) (y z : S106) (i : Nat) (h : p.length = i) : (p ++ y :: r).set i z = p ++ z :: r := by
  subst h; rw [List.set_append_right _ _ (by omega), Nat.sub_self, List.set_cons_zero]
theorem hasE (s : ByteArray) (l : List S106) (x : Int) (hs : s.size ≤ 1048576) : impl_Device_has.f s l x = some (decide (0 ≤ x ∧ x ≤ (s.size : Int) / 64 - 1)) := by
  unfold impl_Device_has.f
  rw [iIn, Option.bind_some, w64 (n := (s.size : Int) / 64) (by omega) (by omega), w64 (n := (s.size : Int) / 64 - 1) (by omega) (by omega)]
theorem safeE (s : ByteArray) (l : List S106) (i : Nat) (h : 64 * i + 64 ≤ s.size) (hs : s.size ≤ 1048576) : impl_Device_safeLine.f s l (i : Int) = some ⟨(blk s.data.toList i).toArray⟩ := by
  unfold impl_Device_safeLine.f
  rw [w64 (n := 64 * (i : Int)) (by omega) (by omega), w64 (n := 64 * (i : Int) + 64) (by omega) (by omega), if_pos (by omega), if_pos (by omega), if_pos (by omega)]
  congr 1
  apply ByteArray.ext
  rw [show (64 * (i : Int)).toNat = 64 * i by omega, show (64 * (i : Int) + 64).toNat = 64 * i + 64 by omega]
  apply Array.ext'
  unfold blk
  simp [ByteArray.data_extract, Array.toList_extract, List.extract_eq_take_drop]
  try (congr 1; omega)
theorem seenB_len (s : List UInt8) (i : Nat) (h : 64 * i + 64 ≤ s.length) : ∀ (l : List S106), (∀ x ∈ l, x.f1.size = 64) → (seenB s l i).length = 64 := by
  have key : ∀ (l : List S106) (a : List UInt8), a.length = 64 → (∀ x ∈ l, x.f1.size = 64) → (l.foldl (fun acc x => if x.f0 = (i : Int) then x.f1.data.toList else acc) a).length = 64 := by
    intro l
    induction l with
    | nil => intro a ha _; exact ha
    | cons x l ih =>
      intro a ha hx
      rw [List.foldl_cons]
      refine ih _ ?_ (fun y hy => hx y (by simp [hy]))
      split
      · rw [dlen]; exact hx x (by simp)
      · exact ha
  intro l hl
  exact key l _ (blk_length s i h) hl
theorem lineE (s : ByteArray) (l : List S106) (hd : DevOk s l) (hs : s.size ≤ 1048576) (hl : l.length ≤ 1048576) (i : Nat) (h : 64 * i + 64 ≤ s.size) : impl_Device_seenLine.f s l (i : Int) = some ⟨(seenB s.data.toList l i).toArray⟩ := by
  have hsr := srt_of hd
  have e := foldl_find (i : Int) l hsr (blk s.data.toList i)
  have ei : impl_Device_find.idx l (i : Int) = l.countP (fun x => decide (x.f0 < (i : Int))) := rfl
  unfold impl_Device_seenLine.f impl_Device_find.f
  rw [if_pos (show impl_Device_find.srt l from hsr), if_pos (by omega), Option.bind_some]
  simp only [ei]
  unfold seenB
  generalize hc : l.countP (fun x => decide (x.f0 < (i : Int))) = c at *
  have hle : c ≤ l.length := by rw [← hc]; exact List.countP_le_length
  by_cases c1 : c < l.length
  · have r := rd_nat l c c1
    have g : l[c]? = some l[c] := by simp [c1]
    have gd : l.getD c z106 = l[c] := by simp [List.getD, c1]
    rw [g, gd] at e
    rw [r]
    by_cases c2 : l[c].f0 = (i : Int)
    · rw [if_pos (by simp [c2])] at e
      rw [e]
      simp only [c1, c2, decide_true, Bool.and_self, if_true]
      rw [if_pos (by omega), if_pos (by omega)]
    · rw [if_neg (by simp [c2])] at e
      rw [e]
      simp only [c1, c2, decide_true, decide_false, Bool.and_false, Bool.false_eq_true, if_false]
      rw [safeE s l i h hs]; rfl
  · have g : l[c]? = none := by simp; omega
    rw [g] at e
    rw [if_neg (by simp)] at e
    rw [e]
    simp only [c1, decide_false, Bool.false_and, Bool.false_eq_true, if_false]
    rw [safeE s l i h hs]; rfl
theorem part_len (s : ByteArray) (l : List S106) (hd : DevOk s l) : ∀ i : Nat, 64 * i ≤ s.size → ((List.range i).flatMap (seenB s.data.toList l)).length = 64 * i
  | 0, _ => rfl
  | i + 1, h => by
    rw [List.range_succ, List.flatMap_append, List.length_append, part_len s l hd i (by omega)]
    simp only [List.flatMap_cons, List.flatMap_nil, List.append_nil]
    rw [seenB_len s.data.toList i (by rw [dlen]; omega) l (fun x hx => (okL_of hd x hx).2.2.1)]
    omega
theorem iSn_l (s : ByteArray) (l : List S106) (hd : DevOk s l) (hs : s.size ≤ 1048576) (hl : l.length ≤ 1048576) : ∀ (n i : Nat), i + n = s.size / 64 → Ev (fun k => impl_Device_seen.l s l k (i : Int) ((List.range i).flatMap (seenB s.data.toList l))) (seenL s.data.toList l) := by
  intro n
  have h1 := hd.1
  induction n with
  | zero =>
    intro i hi
    refine Ev.step (f := fun _ => some (seenL s.data.toList l)) (fun k => ?_) (Ev.now _)
    have ne : ¬ ((List.range i).flatMap (seenB s.data.toList l)) = [] := by
      intro z
      have := part_len s l hd i (by omega)
      rw [z] at this; simp at this; omega
    unfold impl_Device_seen.l
    rw [hasE s l _ hs, Option.bind_some, if_neg (by simp; omega), if_neg ne]
    unfold seenL
    rw [dlen, show s.size / 64 = i by omega]
  | succ n ih =>
    intro i hi
    have h := ih (i + 1) (by omega)
    have hp := part_len s l hd i (by omega)
    have hq : ((⟨(seenB s.data.toList l i).toArray⟩ : ByteArray)).size = 64 := by
      have := seenB_len s.data.toList i (by rw [dlen]; omega) l (fun x hx => (okL_of hd x hx).2.2.1)
      exact List.size_toArray.trans this
    refine Ev.step (f := fun k => impl_Device_seen.l s l k ((i + 1 : Nat) : Int) ((List.range (i + 1)).flatMap (seenB s.data.toList l))) (fun k => ?_) h
    rw [impl_Device_seen.l, hasE s l _ hs, Option.bind_some, if_pos (by simp; omega), lineE s l hd hs hl i (by omega), Option.bind_some, if_pos (by rw [hp, hq]; omega), List.range_succ, List.flatMap_append]
    simp
theorem iSn (s : ByteArray) (l : List S106) (hd : DevOk s l) (hs : s.size ≤ 1048576) (hl : l.length ≤ 1048576) : Ev (fun k => impl_Device_seen.f k s l) ⟨(seenL s.data.toList l).toArray⟩ := by
  have h := iSn_l s l hd hs hl (s.size / 64) 0 (by omega)
  refine evThen (g := fun k => impl_Device_seen.l s l k 0 []) (f := fun _ b => some ⟨b.toArray⟩) h (fun k => ?_) (Ev.now _)
  unfold impl_Device_seen.f
  cases impl_Device_seen.l s l k 0 [] <;> rfl
/-- a half of an image -/
def hfP (s : ByteArray) (n : Int) : ByteArray := if 0 ≤ n ∧ 32 * n + 32 ≤ (s.size : Int) then s.extract (32 * n).toNat (32 * n + 32).toNat else (⟨#[]⟩ : ByteArray)
theorem iHf (s : ByteArray) (n : Int) (hs : s.size ≤ 4611686018427387904) : impl_Half.f s n = some (hfP s n) := by
  unfold impl_Half.f hfP
  by_cases h1 : n < 0
  · rw [if_pos h1, if_neg (by omega)]
  · rw [if_neg h1, w64 (n := (s.size : Int) / 32) (by omega) (by omega)]
    by_cases h2 : n ≥ (s.size : Int) / 32
    · rw [if_pos h2, if_neg (by omega)]
    · have e3 : wrap64 (32 * n) = 32 * n := w64 (by omega) (by omega)
      have e4 : wrap64 (32 * n + 32) = 32 * n + 32 := w64 (by omega) (by omega)
      rw [if_neg h2, e3, e4, if_pos (by omega), if_pos (by omega), if_pos (by omega), if_pos (by omega)]
/-- Some bytes replaced. -/
theorem repl_eq (s d : ByteArray) (n : Nat) (h : 64 * n + d.size ≤ s.size) (hs : s.size ≤ 1048576) : impl_replaced.f s (64 * (n : Int)) d = some ⟨(s.data.toList.take (64 * n) ++ d.data.toList ++ s.data.toList.drop (64 * n + d.data.toList.length)).toArray⟩ := by
  have e1 : wrap64 (64 * (n : Int) + (d.size : Int)) = 64 * (n : Int) + (d.size : Int) := w64 (by omega) (by omega)
  have hd : d.data.toList.length = d.size := by simp
  have t1 : (64 * (n : Int)).toNat = 64 * n := by omega
  have t2 : (64 * (n : Int) + (d.size : Int)).toNat = 64 * n + d.size := by omega
  have z1 : (s.extract 0 (64 * n)).size = 64 * n := by rw [ByteArray.size_extract]; omega
  have z2 : (s.extract (64 * n + d.size) s.size).size = s.size - (64 * n + d.size) := by rw [ByteArray.size_extract]; omega
  unfold impl_replaced.f
  rw [e1, t1, t2, if_pos (by omega), if_pos (by omega), if_pos (by rw [z1]; omega), if_pos (by omega), if_pos (by omega), if_pos (by rw [ByteArray.size_append, z1, z2]; omega)]
  congr 1
  apply ByteArray.ext
  rw [hd]
  simp [ByteArray.data_append, ByteArray.data_extract]
  rw [List.take_of_length_le (by simp)]
/-- A right device, line by line. -/
theorem devOk_of {s : ByteArray} {l : List S106} (h1 : (s.size : Int) % 64 = 0) (h2 : 1 ≤ (s.size : Int) / 64 ∧ (s.size : Int) / 64 ≤ 128) (ho : ∀ x ∈ l, okL s.size x) (hs : srt l) : DevOk s l := by
  refine ⟨⟨h1, h2.1, h2.2⟩, fun j hj => ?_⟩
  obtain ⟨a, b, c, d⟩ := ho l[j] (List.getElem_mem hj)
  have r := rd_nat l j hj
  refine ⟨⟨by rw [r]; exact a, by rw [r]; omega⟩, fun hp => ?_, by rw [r]; exact c, ?_⟩
  · have hj' : j - 1 < l.length := by omega
    have r' := rd_nat l (j - 1) hj'
    rw [show ((j : Int) - 1) = ((j - 1 : Nat) : Int) by omega, r, r']
    exact (List.pairwise_iff_getElem.1 hs) (j - 1) j hj' hj (by omega)
  · rw [r]
    rcases d with d | d
    · exact Or.inl d
    · refine Or.inr ?_
      rw [ByteArray.toList_eq]
      exact List.length_eq_zero_iff.1 (by rw [dlen]; exact d)
/-- a text with some bytes replaced from a place on -/
def withP (s : ByteArray) (a : Nat) (d : ByteArray) : ByteArray := (s.extract 0 a ++ d) ++ s.extract (a + d.size) s.size
theorem withP_size (s : ByteArray) (a : Nat) (d : ByteArray) (h : a + d.size ≤ s.size) : (withP s a d).size = s.size := by
  unfold withP; rw [ByteArray.size_append, ByteArray.size_append, ByteArray.size_extract, ByteArray.size_extract]; omega
/-- one line after a store of t at its place o -/
def stx (y : Int) (o : Nat) (t : ByteArray) (x : S106) : S106 := if x.f0 = y then ⟨x.f0, withP x.f1 o t, x.f2⟩ else x
def stNew (s : ByteArray) (y : Int) (o : Nat) (t : ByteArray) : S106 := ⟨y, withP (safeL s y) o t, (⟨#[]⟩ : ByteArray)⟩
def storeL (s : ByteArray) (y : Int) (o : Nat) (t : ByteArray) : Bool → List S106 → List S106 → List S106
  | d, [], acc => if d = true then acc else acc ++ [stNew s y o t]
  | d, x :: xs, acc => if d = false ∧ y < x.f0 then storeL s y o t true xs (acc ++ [stNew s y o t] ++ [x]) else if x.f0 = y then storeL s y o t true xs (acc ++ [stx y o t x]) else storeL s y o t d xs (acc ++ [x])
theorem store_nil (s : ByteArray) (y : Int) (o : Nat) (t : ByteArray) (d : Bool) (acc : List S106) : storeL s y o t d [] acc = if d = true then acc else acc ++ [stNew s y o t] := rfl
theorem store_cons (s : ByteArray) (y : Int) (o : Nat) (t : ByteArray) (d : Bool) (x : S106) (xs acc : List S106) : storeL s y o t d (x :: xs) acc = if d = false ∧ y < x.f0 then storeL s y o t true xs (acc ++ [stNew s y o t] ++ [x]) else if x.f0 = y then storeL s y o t true xs (acc ++ [stx y o t x]) else storeL s y o t d xs (acc ++ [x]) := rfl
theorem safeL_size (s : ByteArray) (y : Int) (hy : 0 ≤ y) (hs : 64 * y + 64 ≤ (s.size : Int)) : (safeL s y).size = 64 := by
  unfold safeL; rw [ByteArray.size_extract]; omega
theorem store_ok (s : ByteArray) (y : Int) (o : Nat) (t : ByteArray) (hy : 0 ≤ y) (hs : 64 * y + 64 ≤ (s.size : Int)) (ht : o + t.size ≤ 64) : ∀ (l : List S106) (d : Bool) (acc : List S106), (∀ x ∈ l, okL s.size x) → (∀ x ∈ acc, okL s.size x) → ∀ x ∈ storeL s y o t d l acc, okL s.size x := by
  have hn : okL s.size (stNew s y o t) := ⟨hy, hs, by rw [show (stNew s y o t).f1 = withP (safeL s y) o t from rfl, withP_size _ _ _ (by rw [safeL_size s y hy hs]; omega), safeL_size s y hy hs], Or.inr rfl⟩
  intro l
  induction l with
  | nil =>
    intro d acc _ ha x hx
    rw [store_nil] at hx
    by_cases c : d = true
    · rw [if_pos c] at hx; exact ha x hx
    · rw [if_neg c] at hx
      rcases List.mem_append.1 hx with h | h
      · exact ha x h
      · rw [List.mem_singleton.1 h]; exact hn
  | cons z zs ih =>
    intro d acc hl ha
    have hz := hl z (by simp)
    have hzs : ∀ x ∈ zs, okL s.size x := fun x hx => hl x (by simp [hx])
    have snoc : ∀ (q : List S106) (e : S106), (∀ x ∈ q, okL s.size x) → okL s.size e → ∀ x ∈ q ++ [e], okL s.size x := fun q e hq he x hx => by
      rcases List.mem_append.1 hx with h | h
      · exact hq x h
      · rw [List.mem_singleton.1 h]; exact he
    rw [store_cons]
    by_cases c : d = false ∧ y < z.f0
    · rw [if_pos c]; exact ih true _ hzs (snoc _ _ (snoc _ _ ha hn) hz)
    · rw [if_neg c]
      by_cases c2 : z.f0 = y
      · rw [if_pos c2]
        refine ih true _ hzs (snoc _ _ ha ?_)
        unfold stx; rw [if_pos c2]
        exact ⟨hz.1, hz.2.1, by rw [show (S106.mk z.f0 (withP z.f1 o t) z.f2).f1 = withP z.f1 o t from rfl, withP_size _ _ _ (by have := hz.2.2.1; omega)]; exact hz.2.2.1, hz.2.2.2⟩
      · rw [if_neg c2]; exact ih d _ hzs (snoc _ _ ha hz)
theorem sIn (a b c : Int) : spec_l1In.f a b c = some (decide (b ≤ a ∧ a ≤ c)) := by
  unfold spec_l1In.f
  by_cases h : a ≥ b
  · rw [if_pos h]; congr 1; rw [decide_eq_decide]; omega
  · rw [if_neg h]; congr 1; symm; rw [decide_eq_false_iff_not]; omega
theorem iWith (s : ByteArray) (a : Nat) (d : ByteArray) (h : a + d.size ≤ s.size) (hs : s.size ≤ 4611686018427387904) : impl_replaced.f s a d = some (withP s a d) := by
  unfold impl_replaced.f withP
  have e1 : wrap64 ((a : Int) + (d.size : Int)) = ((a + d.size : Nat) : Int) := by rw [w64 (by omega) (by omega)]; omega
  rw [if_pos (by omega), if_pos (by omega), if_pos (by rw [ByteArray.size_extract]; omega), e1, if_pos (by omega), if_pos (by omega), if_pos (by rw [ByteArray.size_append, ByteArray.size_extract, ByteArray.size_extract]; omega)]
  simp only [Int.toNat_natCast]
theorem st_pre (s : ByteArray) (y : Int) (o : Nat) (t : ByteArray) (r : List S106) : ∀ (p acc : List S106), (∀ x ∈ p, x.f0 < y) → storeL s y o t false (p ++ r) acc = storeL s y o t false r (acc ++ p)
  | [], acc, _ => by simp
  | x :: p, acc, h => by
    have hx := h x (by simp)
    rw [List.cons_append, store_cons, if_neg (by intro z; omega), if_neg (by omega), st_pre s y o t r p (acc ++ [x]) (fun z hz => h z (by simp [hz]))]
    simp
theorem st_done (s : ByteArray) (y : Int) (o : Nat) (t : ByteArray) : ∀ (r acc : List S106), (∀ x ∈ r, x.f0 ≠ y) → storeL s y o t true r acc = acc ++ r
  | [], acc, _ => by rw [store_nil, if_pos rfl]; simp
  | x :: r, acc, h => by
    have hx := h x (by simp)
    rw [store_cons, if_neg (by intro z; exact absurd z.1 (by decide)), if_neg hx, st_done s y o t r (acc ++ [x]) (fun z hz => h z (by simp [hz]))]
    simp
theorem split_srt (y : Int) : ∀ (l : List S106), srt l → ∃ p r, l = p ++ r ∧ (∀ x ∈ p, x.f0 < y) ∧ (∀ x ∈ r, y ≤ x.f0)
  | [], _ => ⟨[], [], rfl, (fun x hx => by cases hx), (fun x hx => by cases hx)⟩
  | x :: l, h => by
    have hx := (List.pairwise_cons.1 h).1
    obtain ⟨p, r, e, h1, h2⟩ := split_srt y l (List.pairwise_cons.1 h).2
    by_cases c : x.f0 < y
    · refine ⟨x :: p, r, by rw [e]; rfl, fun z hz => ?_, h2⟩
      rcases List.mem_cons.1 hz with rfl | hz
      · exact c
      · exact h1 z hz
    · refine ⟨[], x :: l, rfl, (fun z hz => by cases hz), fun z hz => ?_⟩
      rcases List.mem_cons.1 hz with rfl | hz
      · omega
      · have := hx z hz; omega
theorem idx_split (y : Int) (p r : List S106) (h1 : ∀ x ∈ p, x.f0 < y) (h2 : ∀ x ∈ r, y ≤ x.f0) : impl_Device_find.idx (p ++ r) y = p.length := by
  unfold impl_Device_find.idx
  rw [List.countP_append, List.countP_eq_length.2 (fun x hx => by simpa using h1 x hx), List.countP_eq_zero.2 (fun x hx => by have := h2 x hx; simp; omega)]
  rfl
theorem safeLine_eq (s : ByteArray) (l : List S106) (y : Int) (hs : s.size ≤ 1048576) (hy : 0 ≤ y) (h : 64 * y + 64 ≤ (s.size : Int)) : impl_Device_safeLine.f s l y = some (safeL s y) := by
  have e1 : wrap64 (64 * y) = 64 * y := w64 (by omega) (by omega)
  have e2 : wrap64 (64 * y + 64) = 64 * y + 64 := w64 (by omega) (by omega)
  unfold impl_Device_safeLine.f
  rw [e1, e2, if_pos (by omega), if_pos (by omega), if_pos h]
  rfl
/-- The program's way of a store: the line is found, or laid at its place; then its bytes are replaced. -/
theorem put_store (s : ByteArray) (l : List S106) (y : Int) (o : Nat) (t : ByteArray) (hs : s.size ≤ 1048576) (hl : l.length ≤ 1048576) (hd : DevOk s l) (hy : 0 ≤ y) (hys : 64 * y + 64 ≤ (s.size : Int)) (ht : o + t.size ≤ 64) :
    ((impl_Device_find.f s l y).bind fun q => (impl_Store.ins s l y q.1 q.2).bind fun L => impl_Store.fin L (o : Int) t q.1) = some (storeL s y o t false l []) := by
  have hsr := srt_of hd
  have hok := okL_of hd
  have e2 : impl_Device_find.f s l y = some (((impl_Device_find.idx l y : Nat) : Int), (decide (impl_Device_find.idx l y < l.length) && decide ((rd_T106 l (impl_Device_find.idx l y : Nat)).f0 = y))) := by
    unfold impl_Device_find.f
    rw [if_pos (show impl_Device_find.srt l from hsr), if_pos (by omega)]
  obtain ⟨p, r, e, h1, h2⟩ := split_srt y l hsr
  have hidx := idx_split y p r h1 h2
  subst e
  rw [e2, hidx, Option.bind_some]
  simp only
  by_cases c : ∃ x r', r = x :: r' ∧ x.f0 = y
  · obtain ⟨x, r', rfl, hx⟩ := c
    have rx : rd_T106 (p ++ x :: r') ((p.length : Nat) : Int) = x := rd_mid2 p r' x p.length rfl
    have eb : (decide (p.length < (p ++ x :: r').length) && decide ((rd_T106 (p ++ x :: r') ((p.length : Nat) : Int)).f0 = y)) = true := by rw [rx]; simp [hx]
    have nr : ∀ z ∈ r', z.f0 ≠ y := fun z hz => by
      have := (List.pairwise_cons.1 (List.pairwise_append.1 hsr).2.1).1 z hz
      omega
    have hx1 := (hok x (by simp)).2.2.1
    rw [eb]
    unfold impl_Store.ins impl_Store.fin
    rw [if_pos rfl, Option.bind_some, rx, iWith x.f1 o t (by omega) (by omega), Option.bind_some, Int.toNat_natCast, set_mid2 p r' x _ p.length rfl]
    rw [st_pre s y o t (x :: r') p [] h1, store_cons, if_neg (by intro z; omega), if_pos hx, st_done s y o t r' _ nr]
    unfold stx
    rw [if_pos hx]
    simp
  · have eb : (decide (p.length < (p ++ r).length) && decide ((rd_T106 (p ++ r) ((p.length : Nat) : Int)).f0 = y)) = false := by
      cases r with
      | nil => simp
      | cons x r' =>
        rw [rd_mid2 p r' x p.length rfl]
        have : ¬ x.f0 = y := fun z => c ⟨x, r', rfl, z⟩
        simp [this]
    have zz : (safeL s y).size = 64 := safeL_size s y hy hys
    have rm : rd_T106 (p ++ (⟨y, safeL s y, (⟨#[]⟩ : ByteArray)⟩ : S106) :: r) ((p.length : Nat) : Int) = ⟨y, safeL s y, (⟨#[]⟩ : ByteArray)⟩ := rd_mid2 p r _ p.length rfl
    rw [eb]
    unfold impl_Store.ins impl_Store.fin
    rw [if_neg (by decide), safeLine_eq s _ y hs hy hys, Option.bind_some, if_pos (by omega), Option.bind_some, Int.toNat_natCast, List.take_left, List.drop_left, rm, iWith (safeL s y) o t (by omega) (by omega), Option.bind_some, set_mid2 p r _ _ p.length rfl]
    rw [st_pre s y o t r p [] h1]
    cases r with
    | nil => rw [store_nil, if_neg (by decide)]; rfl
    | cons x r' =>
      have hx : ¬ x.f0 = y := fun z => c ⟨x, r', rfl, z⟩
      have hx2 := h2 x (by simp)
      have nr : ∀ z ∈ r', z.f0 ≠ y := fun z hz => by
        have := (List.pairwise_cons.1 (List.pairwise_append.1 hsr).2.1).1 z hz
        omega
      rw [store_cons, if_pos ⟨rfl, by omega⟩, st_done s y o t r' _ nr]
      unfold stNew
      simp
theorem srt_len (m : Int) : ∀ (l : List S106) (lo : Int), srt l → (∀ x ∈ l, lo ≤ x.f0 ∧ x.f0 < m) → lo ≤ m → (l.length : Int) ≤ m - lo
  | [], lo, _, _, h => by simp; omega
  | x :: l, lo, hs, h, hl => by
    have hx := (List.pairwise_cons.1 hs).1
    have h0 := h x (by simp)
    have := srt_len m l (x.f0 + 1) (List.pairwise_cons.1 hs).2 (fun z hz => ⟨by have := hx z hz; omega, (h z (by simp [hz])).2⟩) (by omega)
    rw [List.length_cons]; omega
theorem devOk_len {s : ByteArray} {l : List S106} (h : DevOk s l) : l.length ≤ 128 := by
  have h1 := h.1
  have := srt_len ((s.size : Int) / 64) l 0 (srt_of h) (fun x hx => by have := okL_of h x hx; exact ⟨this.1, by have := this.2.1; omega⟩) (by omega)
  omega
def fenceL : List S106 → List UInt8 → List S106 → List UInt8 × List S106
  | [], b, acc => (b, acc)
  | x :: xs, b, acc => fenceL xs (layd b x.f0.toNat x.f2.data.toList) (if x.f2.toList = x.f1.toList then acc else acc ++ [⟨x.f0, x.f1, (⟨#[]⟩ : ByteArray)⟩])
theorem iFe_l (m : Nat) (hm : m ≤ 1048576) : ∀ (l : List S106) (s : ByteArray) (acc : List S106), s.size = m → (∀ x ∈ l, okL m x) → acc.length + l.length ≤ 2000000 → impl_Fence.l l s acc = some (⟨(fenceL l s.data.toList acc).1.toArray⟩, (fenceL l s.data.toList acc).2)
  | [], s, acc, _, _, _ => rfl
  | x :: xs, s, acc, hs, h, hl => by
    obtain ⟨h1, h2, h3, h4⟩ := h x (by simp)
    obtain ⟨n, hn⟩ := Int.eq_ofNat_of_zero_le h1
    have en : x.f0.toNat = n := by omega
    simp only [List.length_cons] at hl
    have es : impl_Fence.safe s x = some ⟨(layd s.data.toList n x.f2.data.toList).toArray⟩ := by
      unfold impl_Fence.safe
      by_cases c : x.f2.toList = ([] : List UInt8)
      · rw [if_pos c]
        rw [ByteArray.toList_eq] at c
        rw [c, layd_nil]
      · rw [if_neg c, hn, w64 (by omega) (by omega), repl_eq s x.f2 n (by omega) (by omega)]
        rfl
    have z2 : (⟨(layd s.data.toList n x.f2.data.toList).toArray⟩ : ByteArray).size = m := by
      have := layd_len s.data.toList n x.f2.data.toList (by rw [dlen, dlen]; omega)
      rw [dlen, hs] at this; exact List.size_toArray.trans this
    unfold impl_Fence.l fenceL
    rw [es, Option.bind_some, en]
    by_cases c : x.f2.toList = x.f1.toList
    · rw [if_pos c, if_pos c, iFe_l m hm xs _ acc z2 (fun y hy => h y (by simp [hy])) (by omega)]
    · rw [if_neg c, if_neg c, if_pos (by omega), iFe_l m hm xs _ _ z2 (fun y hy => h y (by simp [hy])) (by simp; omega)]
def gS (i : Nat) (a : List UInt8) (x : S106) : List UInt8 := if x.f0 = (i : Int) then x.f1.data.toList else a
theorem seenB_eq (b : List UInt8) (l : List S106) (i : Nat) : seenB b l i = l.foldl (gS i) (blk b i) := rfl
theorem gS_no (l : List S106) (i : Nat) (h : ∀ x ∈ l, x.f0 ≠ (i : Int)) (a : List UInt8) : l.foldl (gS i) a = a := foldl_no l (i : Int) h a
theorem blk_layd (b d : List UInt8) (a i : Nat) (hd : d.length = 64) (ha : 64 * a + 64 ≤ b.length) (hi : 64 * i + 64 ≤ b.length) : blk (layd b a d) i = if i = a then d else blk b i := blk_lay b d a i hd ha hi
/-- what a fence keeps of a line -/
def keepL (l : List S106) : List S106 := (l.filter (fun x => decide (¬ x.f2.toList = x.f1.toList))).map (fun x => ⟨x.f0, x.f1, (⟨#[]⟩ : ByteArray)⟩)
theorem fence_acc : ∀ (l : List S106) (b : List UInt8) (acc : List S106), fenceL l b acc = ((fenceL l b []).1, acc ++ keepL l)
  | [], b, acc => by simp [fenceL, keepL]
  | x :: xs, b, acc => by
    unfold fenceL
    by_cases c : x.f2.toList = x.f1.toList
    · rw [if_pos c, if_pos c, fence_acc xs _ acc]
      simp [keepL, c]
    · rw [if_neg c, if_neg c, fence_acc xs _ (acc ++ _), fence_acc xs _ ([] ++ _)]
      simp [keepL, c]
theorem keepL_cons (x : S106) (xs : List S106) : keepL (x :: xs) = if x.f2.toList = x.f1.toList then keepL xs else ⟨x.f0, x.f1, (⟨#[]⟩ : ByteArray)⟩ :: keepL xs := by
  unfold keepL
  by_cases c : x.f2.toList = x.f1.toList <;> simp [c]
theorem keepL_mem {l : List S106} {x : S106} (h : x ∈ keepL l) : ∃ z ∈ l, x = ⟨z.f0, z.f1, (⟨#[]⟩ : ByteArray)⟩ := by
  unfold keepL at h
  obtain ⟨z, hz, rfl⟩ := List.mem_map.1 h
  exact ⟨z, (List.mem_filter.1 hz).1, rfl⟩
theorem srt_keepL {l : List S106} (h : srt l) : srt (keepL l) := by
  unfold srt keepL at *
  rw [List.pairwise_map]
  exact (h.filter _).imp fun {x y} e => e
theorem fence_seen (m i : Nat) (hi : 64 * i + 64 ≤ m) : ∀ (l : List S106) (b : List UInt8), b.length = m → srt l → (∀ x ∈ l, okL m x) → seenB (fenceL l b []).1 (keepL l) i = seenB b l i
  | [], b, _, _, _ => rfl
  | x :: xs, b, hb, hs, h => by
    obtain ⟨h1, h2, h3, h4⟩ := h x (by simp)
    have hx := (List.pairwise_cons.1 hs).1
    have hl := (List.pairwise_cons.1 hs).2
    have lb : (layd b x.f0.toNat x.f2.data.toList).length = m := by rw [layd_len _ _ _ (by rw [dlen]; omega), hb]
    have ih := fence_seen m i hi xs (layd b x.f0.toNat x.f2.data.toList) lb hl (fun z hz => h z (by simp [hz]))
    have e1 : (fenceL (x :: xs) b []).1 = (fenceL xs (layd b x.f0.toNat x.f2.data.toList) []).1 := by
      rw [show fenceL (x :: xs) b [] = fenceL xs (layd b x.f0.toNat x.f2.data.toList) (if x.f2.toList = x.f1.toList then [] else [] ++ [⟨x.f0, x.f1, (⟨#[]⟩ : ByteArray)⟩]) from rfl, fence_acc]
    rw [e1]
    rw [seenB_eq, seenB_eq] at ih
    rw [seenB_eq, seenB_eq, keepL_cons]
    generalize (fenceL xs (layd b x.f0.toNat x.f2.data.toList) []).1 = B at *
    by_cases e : x.f0 = (i : Int)
    · have nx : ∀ z ∈ xs, z.f0 ≠ (i : Int) := fun z hz => by have := hx z hz; omega
      have nk : ∀ z ∈ keepL xs, z.f0 ≠ (i : Int) := fun z hz => by
        obtain ⟨u, hu, rfl⟩ := keepL_mem hz
        exact nx u hu
      rw [gS_no xs i nx, gS_no _ i nk] at ih
      rw [List.foldl_cons, gS_no xs i nx, show gS i (blk b i) x = x.f1.data.toList by unfold gS; rw [if_pos e]]
      by_cases c : x.f2.toList = x.f1.toList
      · have c' : x.f2.data.toList = x.f1.data.toList := by rw [ByteArray.toList_eq, ByteArray.toList_eq] at c; exact c
        rw [if_pos c, gS_no _ i nk, ih, c', blk_layd _ _ _ _ (by rw [dlen, h3]) (by omega) (by omega), if_pos (by omega)]
      · rw [if_neg c, List.foldl_cons, gS_no _ i nk]
        unfold gS
        rw [if_pos e]
    · have eb : blk (layd b x.f0.toNat x.f2.data.toList) i = blk b i := by
        rcases h4 with h4 | h4
        · rw [blk_layd _ _ _ _ (by rw [dlen, h4]) (by omega) (by omega), if_neg (by omega)]
        · rw [show x.f2.data.toList = [] from List.length_eq_zero_iff.1 (by rw [dlen]; exact h4), layd_nil]
      rw [eb] at ih
      rw [List.foldl_cons, show gS i (blk b i) x = blk b i by unfold gS; rw [if_neg e], ← ih]
      by_cases c : x.f2.toList = x.f1.toList
      · rw [if_pos c]
      · rw [if_neg c, List.foldl_cons]
        congr 1
        unfold gS
        rw [if_neg e]
theorem seenL_eq (b b' : List UInt8) (l l' : List S106) (hb : b'.length = b.length) (h : ∀ i, 64 * i + 64 ≤ b.length → seenB b' l' i = seenB b l i) : seenL b' l' = seenL b l := by
  unfold seenL
  rw [hb, List.flatMap_def, List.flatMap_def]
  congr 1
  apply List.map_congr_left
  intro i hi
  exact h i (by have := List.mem_range.1 hi; omega)
def putA (S : List UInt8) (a : Nat) (t : List UInt8) : List UInt8 := S.take a ++ t ++ S.drop (a + t.length)
theorem putA_len (S : List UInt8) (a : Nat) (t : List UInt8) (h : a + t.length ≤ S.length) : (putA S a t).length = S.length := by simp [putA]; omega
theorem putA_get (S : List UInt8) (a : Nat) (t : List UInt8) (h : a + t.length ≤ S.length) (j : Nat) : (putA S a t)[j]? = if j < a then S[j]? else if j < a + t.length then t[j - a]? else S[j]? := by
  have ha : (S.take a).length = a := by rw [List.length_take]; omega
  unfold putA
  rw [List.append_assoc]
  by_cases c : j < a
  · rw [if_pos c, List.getElem?_append_left (by omega), List.getElem?_take, if_pos c]
  · rw [if_neg c, List.getElem?_append_right (by omega), ha]
    by_cases d : j < a + t.length
    · rw [if_pos d, List.getElem?_append_left (by omega)]
    · rw [if_neg d, List.getElem?_append_right (by omega), List.getElem?_drop]
      congr 1; omega
theorem blk_get (S : List UInt8) (i j : Nat) : (blk S i)[j]? = if j < 64 then S[64 * i + j]? else none := by
  unfold blk
  rw [List.getElem?_take]
  by_cases c : j < 64
  · rw [if_pos c, if_pos c, List.getElem?_drop]
  · rw [if_neg c, if_neg c]
theorem blk_put (S : List UInt8) (y o : Nat) (t : List UInt8) (i : Nat) (ho : o + t.length ≤ 64) (hy : 64 * y + 64 ≤ S.length) (hi : 64 * i + 64 ≤ S.length) : blk (putA S (64 * y + o) t) i = if i = y then putA (blk S y) o t else blk S i := by
  have hb := blk_length S y hy
  apply List.ext_getElem?
  intro j
  rw [blk_get, putA_get S _ t (by omega)]
  by_cases e : i = y
  · subst e
    rw [if_pos rfl, putA_get (blk S i) o t (by omega), blk_get]
    by_cases c : j < 64
    · rw [if_pos c, if_pos c]
      by_cases d : j < o
      · rw [if_pos d, if_pos (by omega)]
      · rw [if_neg d, if_neg (by omega)]
        by_cases f : j < o + t.length
        · rw [if_pos f, if_pos (by omega)]; congr 1; omega
        · rw [if_neg f, if_neg (by omega)]
    · rw [if_neg c, if_neg c, if_neg (by omega), if_neg (by omega)]
  · rw [if_neg e, blk_get]
    by_cases c : j < 64
    · rw [if_pos c, if_pos c]
      by_cases d : 64 * i + j < 64 * y + o
      · rw [if_pos d]
      · rw [if_neg d, if_neg (by omega)]
    · rw [if_neg c, if_neg c]
theorem withP_bytes (b t : ByteArray) (o : Nat) (h : o + t.size ≤ b.size) : (withP b o t).data.toList = putA b.data.toList o t.data.toList := by
  unfold withP putA
  simp [ByteArray.data_append, ByteArray.data_extract]
  rw [List.take_of_length_le (by simp)]
theorem safeL_bytes (s : ByteArray) (y : Int) (hy : 0 ≤ y) : (safeL s y).data.toList = blk s.data.toList y.toNat := by
  unfold safeL blk
  rw [ByteArray.data_extract]
  simp
  rw [show (64 * y).toNat = 64 * y.toNat by omega, show (64 * y + 64).toNat - 64 * y.toNat = 64 by omega]
theorem store_form (s : ByteArray) (l : List S106) (y : Int) (o : Nat) (t : ByteArray) (hsr : srt l) :
    ∃ p r z, storeL s y o t false l [] = p ++ z :: r ∧ z.f0 = y ∧ (∀ x ∈ p, x.f0 < y) ∧ (∀ x ∈ r, y < x.f0) ∧ ((l = p ++ r ∧ z = stNew s y o t) ∨ ∃ x, l = p ++ x :: r ∧ x.f0 = y ∧ z = stx y o t x) := by
  obtain ⟨p, r, e, h1, h2⟩ := split_srt y l hsr
  subst e
  by_cases c : ∃ x r', r = x :: r' ∧ x.f0 = y
  · obtain ⟨x, r', rfl, hx⟩ := c
    have nr : ∀ z ∈ r', y < z.f0 := fun z hz => by
      have := (List.pairwise_cons.1 (List.pairwise_append.1 hsr).2.1).1 z hz
      omega
    refine ⟨p, r', stx y o t x, ?_, by unfold stx; rw [if_pos hx]; exact hx, h1, nr, Or.inr ⟨x, rfl, hx, rfl⟩⟩
    rw [st_pre s y o t (x :: r') p [] h1, store_cons, if_neg (by intro z; omega), if_pos hx, st_done s y o t r' _ (fun z hz => by have := nr z hz; omega)]
    simp
  · have nr : ∀ z ∈ r, y < z.f0 := fun z hz => by
      cases r with
      | nil => cases hz
      | cons x r' =>
        have hx : ¬ x.f0 = y := fun e => c ⟨x, r', rfl, e⟩
        have hx2 := h2 x (by simp)
        rcases List.mem_cons.1 hz with rfl | hz
        · omega
        · have := (List.pairwise_cons.1 (List.pairwise_append.1 hsr).2.1).1 z hz
          omega
    refine ⟨p, r, stNew s y o t, ?_, rfl, h1, nr, Or.inl ⟨rfl, rfl⟩⟩
    rw [st_pre s y o t r p [] h1]
    cases r with
    | nil => rw [store_nil, if_neg (by decide)]; rfl
    | cons x r' =>
      have hx2 := nr x (by simp)
      rw [store_cons, if_pos ⟨rfl, hx2⟩, st_done s y o t r' _ (fun z hz => by have := nr z (by simp [hz]); omega)]
      simp
theorem store_srt (s : ByteArray) (l : List S106) (y : Int) (o : Nat) (t : ByteArray) (hsr : srt l) : srt (storeL s y o t false l []) := by
  obtain ⟨p, r, z, e, hz, h1, h2, h⟩ := store_form s l y o t hsr
  rw [e]
  have hp : p.Pairwise (fun x y => x.f0 < y.f0) ∧ r.Pairwise (fun x y => x.f0 < y.f0) := by
    rcases h with ⟨rfl, _⟩ | ⟨x, rfl, _, _⟩
    · have := List.pairwise_append.1 hsr; exact ⟨this.1, this.2.1⟩
    · have := List.pairwise_append.1 hsr; exact ⟨this.1, (List.pairwise_cons.1 this.2.1).2⟩
  unfold srt
  rw [List.pairwise_append]
  refine ⟨hp.1, List.pairwise_cons.2 ⟨fun x hx => by have := h2 x hx; omega, hp.2⟩, fun a ha b hb => ?_⟩
  have := h1 a ha
  rcases List.mem_cons.1 hb with rfl | hb
  · omega
  · have := h2 b hb; omega
theorem store_seenB (s : ByteArray) (l : List S106) (y o : Nat) (t : ByteArray) (hsr : srt l) (hok : ∀ x ∈ l, okL s.size x) (ho : o + t.size ≤ 64) (hy : 64 * y + 64 ≤ s.size) (i : Nat) : seenB s.data.toList (storeL s (y : Int) o t false l []) i = if i = y then putA (seenB s.data.toList l y) o t.data.toList else seenB s.data.toList l i := by
  obtain ⟨p, r, z, e, hz, h1, h2, h⟩ := store_form s l (y : Int) o t hsr
  rw [e]
  rw [seenB_eq, seenB_eq, seenB_eq, List.foldl_append, List.foldl_cons]
  by_cases c : i = y
  · subst c
    rw [if_pos rfl]
    have np : ∀ x ∈ p, x.f0 ≠ (i : Int) := fun x hx => by have := h1 x hx; omega
    have nr : ∀ x ∈ r, x.f0 ≠ (i : Int) := fun x hx => by have := h2 x hx; omega
    rw [gS_no r i nr, show gS i _ z = z.f1.data.toList by unfold gS; rw [if_pos hz]]
    rcases h with ⟨rfl, rfl⟩ | ⟨x, rfl, hx, rfl⟩
    · rw [List.foldl_append, gS_no p i np, gS_no r i nr]
      show (withP (safeL s (i : Int)) o t).data.toList = _
      rw [withP_bytes _ _ _ (by rw [safeL_size s _ (by omega) (by omega)]; omega), safeL_bytes s _ (by omega), Int.toNat_natCast]
    · have hx1 := (hok x (by simp)).2.2.1
      rw [List.foldl_append, List.foldl_cons, gS_no r i nr, show gS i (p.foldl (gS i) (blk s.data.toList i)) x = x.f1.data.toList by unfold gS; rw [if_pos hx]]
      have : (stx (i : Int) o t x).f1 = withP x.f1 o t := by unfold stx; rw [if_pos hx]
      rw [this, withP_bytes _ _ _ (by omega)]
  · rw [if_neg c]
    rw [show gS i (p.foldl (gS i) (blk s.data.toList i)) z = p.foldl (gS i) (blk s.data.toList i) by unfold gS; rw [if_neg (by omega)]]
    rcases h with ⟨rfl, rfl⟩ | ⟨x, rfl, hx, rfl⟩
    · rw [List.foldl_append]
    · rw [List.foldl_append, List.foldl_cons, show gS i (p.foldl (gS i) (blk s.data.toList i)) x = p.foldl (gS i) (blk s.data.toList i) by unfold gS; rw [if_neg (by omega)]]
theorem seenL_blk (s : ByteArray) (l : List S106) (hd : DevOk s l) (i : Nat) (hi : 64 * i + 64 ≤ s.size) : blk (seenL s.data.toList l) i = seenB s.data.toList l i ∧ (seenL s.data.toList l).length = s.size := by
  have hb : s.data.toList.length % 64 = 0 := by rw [dlen]; have := hd.1; omega
  have ho : ∀ x ∈ l, 0 ≤ x.f0 ∧ 64 * x.f0 + 64 ≤ (s.data.toList.length : Int) ∧ x.f1.size = 64 := fun x hx => by have := okL_of hd x hx; rw [dlen]; exact ⟨this.1, this.2.1, this.2.2.1⟩
  have e := layAll_seen l s.data.toList hb ho
  obtain ⟨a1, a2⟩ := layAll_blk l s.data.toList ho
  rw [← e]
  exact ⟨a2 i (by rw [dlen]; exact hi), a1.trans (dlen s)⟩
theorem store_seenL (s : ByteArray) (l : List S106) (y o : Nat) (t : ByteArray) (hd : DevOk s l) (ho : o + t.size ≤ 64) (hy : 64 * y + 64 ≤ s.size) : seenL s.data.toList (storeL s (y : Int) o t false l []) = putA (seenL s.data.toList l) (64 * y + o) t.data.toList := by
  have h1 := hd.1
  have SL := (seenL_blk s l hd y hy).2
  have tl : t.data.toList.length = t.size := dlen t
  have pl : (putA (seenL s.data.toList l) (64 * y + o) t.data.toList).length = s.size := by rw [putA_len _ _ _ (by omega), SL]
  have e := join_blk (putA (seenL s.data.toList l) (64 * y + o) t.data.toList) (s.size / 64)
  rw [List.take_of_length_le (by rw [pl]; omega)] at e
  rw [← e]
  unfold seenL
  rw [dlen, List.flatMap_def, List.flatMap_def]
  congr 1
  apply List.map_congr_left
  intro i hi
  have hi' : 64 * i + 64 ≤ s.size := by have := List.mem_range.1 hi; omega
  have hb := blk_put (seenL s.data.toList l) y o t.data.toList i (by omega) (by omega) (by omega)
  unfold seenL at hb
  rw [dlen] at hb
  rw [hb, store_seenB s l y o t (srt_of hd) (okL_of hd) ho hy i]
  have z1 := (seenL_blk s l hd i hi').1
  have z2 := (seenL_blk s l hd y hy).1
  unfold seenL at z1 z2
  rw [dlen] at z1 z2
  rw [z1, z2]
theorem store_DevOk (s : ByteArray) (l : List S106) (y : Int) (o : Nat) (t : ByteArray) (hd : DevOk s l) (hy : 0 ≤ y) (hys : 64 * y + 64 ≤ (s.size : Int)) (ht : o + t.size ≤ 64) : DevOk s (storeL s y o t false l []) :=
  devOk_of hd.1.1 hd.1.2 (store_ok s y o t hy hys ht l false [] (okL_of hd) (fun x hx => by cases hx)) (store_srt s l y o t (srt_of hd))
theorem sTyp_l (s : ByteArray) (hs : s.size ≤ 9223372036854775807) : ∀ (n i : Nat), i + n = s.size → Ev (fun k => spec_l3Type.l0 k s (i : Int)) (decide (1 ≤ (s.size : Int) ∧ (s.size : Int) ≤ 23) && (s.data.toList.drop i).all impl_isType.ok) := by
  intro n
  have hl : s.data.toList.length = s.size := Array.length_toList
  induction n with
  | zero =>
    intro i hi
    refine evIs1 fun k => ?_
    simp only [spec_l3Type.l0]
    rw [if_neg (by omega), sIn, Option.bind_some, List.drop_eq_nil_iff.2 (by omega), List.all_nil, Bool.and_true]
  | succ n ih =>
    intro i hi
    have ih := ih (i + 1) (by omega)
    have hil : i < s.data.toList.length := by omega
    have e := ok_at s i (by omega) hil
    rw [List.drop_eq_getElem_cons hil, List.all_cons, e]
    by_cases c1 : bt s (i : Int) = 105
    · rw [decide_eq_true c1, Bool.true_or, Bool.true_and]
      refine Ev.step (f := fun k => spec_l3Type.l0 k s ((i + 1 : Nat) : Int)) (fun k => ?_) ih
      simp only [spec_l3Type.l0]
      rw [if_pos (by omega), if_pos (by omega), if_pos c1, w64 (by omega) (by omega)]; rfl
    · by_cases c2 : bt s (i : Int) = 114
      · rw [decide_eq_true c2, Bool.or_true, Bool.true_and]
        refine Ev.step (f := fun k => spec_l3Type.l0 k s ((i + 1 : Nat) : Int)) (fun k => ?_) ih
        simp only [spec_l3Type.l0]
        rw [if_pos (by omega), if_pos (by omega), if_neg c1, if_pos c2, w64 (by omega) (by omega)]; rfl
      · rw [decide_eq_false c1, decide_eq_false c2, Bool.or_false, Bool.false_and, Bool.and_false]
        refine evIs1 fun k => ?_
        simp only [spec_l3Type.l0]
        rw [if_pos (by omega), if_pos (by omega), if_neg c1, if_neg c2]
theorem sTyp (s : ByteArray) (hs : s.size ≤ 9223372036854775807) : Ev (fun k => spec_l3Type.f k s) (impl_isType.g s) :=
  Ev.congr (fun k => rfl) (sTyp_l s hs s.size 0 (by omega))
theorem rdS (l : List ByteArray) (i : Nat) (h : i < l.length) : rdOf ByteArray.empty l (i : Int) = l[i] := by
  unfold rdOf; rw [Int.toNat_natCast, List.getD_eq_getElem?_getD, List.getElem?_eq_getElem h]; rfl
theorem sTys_l (l : List ByteArray) (hl : l.length ≤ 9223372036854775807) (hx : ∀ s ∈ l, s.size ≤ 9223372036854775807) : ∀ (n i : Nat), i + n = l.length → Ev (fun k => spec_TypesOk.l0 k l (i : Int)) ((l.drop i).all impl_isType.g) := by
  intro n
  induction n with
  | zero =>
    intro i hi
    exact evIs1 (fun k => by simp only [spec_TypesOk.l0]; rw [if_neg (by omega), List.drop_eq_nil_iff.2 (by omega)]; rfl)
  | succ n ih =>
    intro i hi
    have hil : i < l.length := by omega
    have ih := ih (i + 1) (by omega)
    have ht := sTyp l[i] (hx _ (List.getElem_mem hil))
    rw [List.drop_eq_getElem_cons hil, List.all_cons]
    refine Ev.step (f := fun k => (spec_l3Type.f k l[i]).bind fun t => if t = true then spec_TypesOk.l0 k l ((i + 1 : Nat) : Int) else some false) (fun k => ?_) ?_
    · simp only [spec_TypesOk.l0]
      rw [if_pos (by omega), if_pos (by omega), rdS l i hil, w64 (by omega) (by omega)]; rfl
    · refine evThen ht (fun k => rfl) ?_
      by_cases c : impl_isType.g l[i] = true
      · rw [c, Bool.true_and]; simp only [if_true]; exact ih
      · rw [Bool.eq_false_iff.2 c, Bool.false_and]; exact evIs fun k => rfl
theorem sTys (l : List ByteArray) (hl : l.length ≤ 9223372036854775807) (hx : ∀ s ∈ l, s.size ≤ 9223372036854775807) : Ev (fun k => spec_TypesOk.f k l) (impl_TypesOk.g l) := by
  have e : ∀ k, spec_TypesOk.f k l = if (decide (1 ≤ (l.length : Int) ∧ (l.length : Int) ≤ 12)) = true then spec_TypesOk.l0 k l 0 else some false := fun k => by
    unfold spec_TypesOk.f; rw [sIn, Option.bind_some]
  unfold impl_TypesOk.g
  by_cases c : 1 ≤ (l.length : Int) ∧ (l.length : Int) ≤ 12
  · rw [decide_eq_true c, Bool.true_and]
    refine Ev.congr (fun k => ?_) (sTys_l l hl hx l.length 0 (by omega))
    rw [e k, decide_eq_true c, if_pos rfl]; rfl
  · rw [decide_eq_false c, Bool.false_and]
    exact evIs fun k => by rw [e k, decide_eq_false c]; rfl
theorem sCfg_eq (a b c : Int) (l : List ByteArray) (k : Nat) : spec_ConfigOk.f k a b c l = if cfgB a b c = true then spec_TypesOk.f k l else some false := by
  unfold spec_ConfigOk.f
  rw [sIn, Option.bind_some]
  by_cases c1 : 8 ≤ a ∧ a ≤ 128
  · rw [decide_eq_true c1, if_pos rfl, sIn, Option.bind_some]
    by_cases c2 : 1 ≤ b ∧ b ≤ 32
    · rw [decide_eq_true c2, if_pos rfl, w64 (by omega) (by omega)]
      by_cases c3 : b ≤ a - 5
      · rw [if_pos c3, sIn, Option.bind_some]
        by_cases c4 : 2 ≤ c ∧ c ≤ 400
        · rw [decide_eq_true c4, if_pos rfl, if_pos (show cfgB a b c = true from decide_eq_true ⟨c1, c2, c3, c4⟩)]
          cases spec_TypesOk.f k l <;> rfl
        · rw [decide_eq_false c4, if_neg (by decide), cfgB_no (fun h => c4 h.2.2.2), if_neg (by decide)]
      · rw [if_neg c3, cfgB_no (fun h => c3 h.2.2.1), if_neg (by decide)]
    · rw [decide_eq_false c2, if_neg (by decide), cfgB_no (fun h => c2 h.2.1), if_neg (by decide)]
  · rw [decide_eq_false c1, if_neg (by decide), cfgB_no (fun h => c1 h.1), if_neg (by decide)]
theorem sCfg (a b c : Int) (l : List ByteArray) (hl : l.length ≤ 9223372036854775807) (hx : ∀ s ∈ l, s.size ≤ 9223372036854775807) : Ev (fun k => spec_ConfigOk.f k a b c l) (cfgP a b c l) := by
  unfold cfgP
  by_cases h : cfgB a b c = true
  · rw [h, Bool.true_and]; exact Ev.congr (fun k => by rw [sCfg_eq, if_pos h]) (sTys l hl hx)
  · rw [Bool.eq_false_iff.2 h, Bool.false_and]; exact evIs fun k => by rw [sCfg_eq, if_neg h]
noncomputable def imgL (s : ByteArray) (l : List S106) : ByteArray := ⟨(seenL s.data.toList l).toArray⟩
theorem imgL_size {s : ByteArray} {l : List S106} (hd : DevOk s l) : (imgL s l).size = s.size := by
  have h := (seenL_blk s l hd 0 (by have := hd.1; omega)).2
  exact List.size_toArray.trans h
/-- the records, the epoch, and whether a device is right for the configuration -/
noncomputable def lonP (a b c : Int) (T : List ByteArray) (s : ByteArray) (l : List S106) : List S83 × Int × Bool := open Classical in if cfgP a b c T = true ∧ DevOk s l then ((logP a b c T (imgL s l)).1, epochOfP a b c T (imgL s l), (logP a b c T (imgL s l)).2) else ([], 0, false)
theorem logP_no {a b c : Int} {T : List ByteArray} {m : ByteArray} (h : ¬ imgP a b c T m = true) : logP a b c T m = ([], false) := by
  unfold logP epochOfP; rw [if_neg h, if_pos (by decide)]
theorem lonP_of {a b c : Int} {T : List ByteArray} {s : ByteArray} {l : List S106} (h : (lonP a b c T s l).2.2 = true) : cfgP a b c T = true ∧ DevOk s l ∧ (s.size : Int) = 64 * a ∧ lonP a b c T s l = ((logP a b c T (imgL s l)).1, epochOfP a b c T (imgL s l), true) ∧ 0 ≤ epochOfP a b c T (imgL s l) := by
  unfold lonP at h ⊢
  by_cases g : cfgP a b c T = true ∧ DevOk s l
  · rw [if_pos g] at h ⊢
    have hi : imgP a b c T (imgL s l) = true := by
      by_cases hi : imgP a b c T (imgL s l) = true
      · exact hi
      · rw [logP_no hi] at h; cases h
    have he : ¬ epochOfP a b c T (imgL s l) < 0 := by
      intro z
      unfold logP at h; rw [if_pos z] at h; cases h
    have hz := (imgP_of hi).2
    rw [imgL_size g.2] at hz
    exact ⟨g.1, g.2, hz, by simp only at h; rw [h], by omega⟩
  · rw [if_neg g] at h; cases h
theorem iLOn (a b c : Int) (T : List ByteArray) (s : ByteArray) (l : List S106) (hs : s.size ≤ 1048576) (hl : l.length ≤ 1048576) : Ev (fun k => impl_loggedOn.f k a b c T s l) (lonP a b c T s l) := by
  have no : Ev (fun k => impl_loggedOn.j0 k true a b c T s l) ([], 0, false) := evIs1 fun k => by simp only [impl_loggedOn.j0, if_true]
  refine Ev.congr (fun k => by unfold impl_loggedOn.f; rw [iCfg, Option.bind_some]) ?_
  unfold lonP
  by_cases h : cfgP a b c T = true
  · simp only [if_pos h]
    refine evThen (iDO s l hs hl) (fun k => rfl) ?_
    by_cases d : DevOk s l
    · rw [if_pos ⟨h, d⟩, (devOkB_iff s l).2 d]
      have hz := imgL_size d
      refine Ev.step (f := fun k => (impl_Device_seen.f k s l).bind fun t => (impl_LogOf.f k a b c T t).bind fun q => (impl_EpochOf.f k a b c T t).bind fun e => some (q.1, e, q.2)) (fun k => by simp only [impl_loggedOn.j0, Bool.not_true, Bool.false_eq_true, if_false]) ?_
      refine evThen (iSn s l d hs hl) (fun k => rfl) (evThen (iLO a b c T (imgL s l) (by omega)) (fun k => rfl) (evThen (iEO a b c T (imgL s l) (by omega)) (fun k => rfl) (Ev.now _)))
    · rw [if_neg (fun z => d z.2), show devOkB s l = false from Bool.eq_false_iff.2 (fun z => d ((devOkB_iff s l).1 z))]; exact no
  · simp only [if_neg h]
    rw [if_neg (fun z => h z.1)]; exact no
def fl (y : Int) (x : S106) : S106 := if x.f0 = y then ⟨x.f0, x.f1, x.f1⟩ else x
theorem fl_f0 (a : Int) (x : S106) : (fl a x).f0 = x.f0 := by unfold fl; split <;> rfl
theorem fl_f1 (a : Int) (x : S106) : (fl a x).f1 = x.f1 := by unfold fl; split <;> rfl
theorem srt_map {l : List S106} {f : S106 → S106} (hf : ∀ x, (f x).f0 = x.f0) (h : srt l) : srt (l.map f) := by
  unfold srt at *
  rw [List.pairwise_map]
  exact h.imp fun {x y} e => by rw [hf, hf]; exact e
theorem devOk_fl {s : ByteArray} {l : List S106} (a : Int) (h : DevOk s l) : DevOk s (l.map (fl a)) := by
  refine devOk_of h.1.1 h.1.2 (fun x hx => ?_) (srt_map (fl_f0 a) (srt_of h))
  obtain ⟨z, hz, rfl⟩ := List.mem_map.1 hx
  have g := okL_of h z hz
  unfold fl
  by_cases c : z.f0 = a
  · rw [if_pos c]; exact ⟨g.1, g.2.1, g.2.2.1, Or.inl g.2.2.1⟩
  · rw [if_neg c]; exact g
theorem seenB_map (b : List UInt8) (l : List S106) (f : S106 → S106) (h0 : ∀ x, (f x).f0 = x.f0) (h1 : ∀ x, (f x).f1 = x.f1) (i : Nat) : seenB b (l.map f) i = seenB b l i := by
  unfold seenB
  rw [List.foldl_map]
  simp only [h0, h1]
theorem seenL_map (b : List UInt8) (l : List S106) (f : S106 → S106) (h0 : ∀ x, (f x).f0 = x.f0) (h1 : ∀ x, (f x).f1 = x.f1) : seenL b (l.map f) = seenL b l := by
  unfold seenL
  exact congrArg (fun g => (List.range (b.length / 64)).flatMap g) (funext fun i => seenB_map b l f h0 h1 i)
theorem idx_at (l : List S106) (h : srt l) (y : Int) (j : Nat) (hj : j < l.length) (e : l[j].f0 = y) : impl_Device_find.idx l y = j := by
  have hp := List.pairwise_iff_getElem.1 h
  refine impl_Device_find.idx_eq l y j (by omega) (fun t ht => ?_) (fun t h1 h2 => ?_)
  · rw [rd_nat l t (by omega)]; have := hp t j (by omega) hj ht; omega
  · rw [rd_nat l t h2]
    rcases Nat.lt_or_ge j t with h3 | h3
    · have := hp j t hj h2 h3; omega
    · obtain rfl : t = j := by omega
      omega
theorem put_map (l : List S106) (h : srt l) (y : Int) : impl_Flush.put l ((impl_Device_find.idx l y : Nat) : Int) (decide (impl_Device_find.idx l y < l.length) && decide ((rd_T106 l (impl_Device_find.idx l y : Nat)).f0 = y)) = l.map (fl y) := by
  have hp := List.pairwise_iff_getElem.1 h
  by_cases c : ∃ j, ∃ hj : j < l.length, l[j].f0 = y
  · obtain ⟨j, hj, e⟩ := c
    rw [idx_at l h y j hj e, rd_nat l j hj]
    unfold impl_Flush.put
    rw [if_pos (by simp [hj, e]), rd_nat l j hj, Int.toNat_natCast]
    apply List.ext_getElem?
    intro i
    rw [List.getElem?_set, List.getElem?_map]
    by_cases hi : j = i
    · subst hi
      rw [if_pos rfl, if_pos hj]
      simp [fl, e, hj]
    · rw [if_neg hi]
      by_cases hl : i < l.length
      · have ne : ¬ l[i].f0 = y := by
          rcases Nat.lt_or_ge i j with h1 | h1
          · have := hp i j hl hj h1; omega
          · have := hp j i hj hl (by omega); omega
        simp [hl, fl, ne]
      · simp [hl]; try omega
  · have nb : (decide (impl_Device_find.idx l y < l.length) && decide ((rd_T106 l (impl_Device_find.idx l y : Nat)).f0 = y)) = false := by
      by_cases hb : impl_Device_find.idx l y < l.length
      · have : ¬ (rd_T106 l (impl_Device_find.idx l y : Nat)).f0 = y := fun z => c ⟨_, hb, by rw [rd_nat l _ hb] at z; exact z⟩
        simp [this]
      · simp [hb]
    rw [nb]
    unfold impl_Flush.put
    rw [if_neg (by decide)]
    apply List.ext_getElem?
    intro i
    rw [List.getElem?_map]
    by_cases hl : i < l.length
    · have ne : ¬ l[i].f0 = y := fun z => c ⟨i, hl, z⟩
      simp [hl, fl, ne]
    · simp [hl]; try omega
/-- a fence's outcome -/
def fnc (s : ByteArray) (l : List S106) : ByteArray × List S106 := (⟨(fenceL l s.data.toList []).1.toArray⟩, (fenceL l s.data.toList []).2)
theorem fenceL_size : ∀ (l : List S106) (b : List UInt8) (acc : List S106), (∀ x ∈ l, okL b.length x) → (fenceL l b acc).1.length = b.length
  | [], b, acc, _ => rfl
  | x :: xs, b, acc, h => by
    obtain ⟨h1, h2, h3, h4⟩ := h x (by simp)
    have e : (layd b x.f0.toNat x.f2.data.toList).length = b.length := layd_len _ _ _ (by rw [dlen]; omega)
    unfold fenceL
    rw [fenceL_size xs _ _ (fun y hy => by rw [e]; exact h y (by simp [hy])), e]
theorem fnc_ok {s : ByteArray} {l : List S106} (hd : DevOk s l) : DevOk (fnc s l).1 (fnc s l).2 ∧ (fnc s l).1.size = s.size := by
  have hz : (fnc s l).1.size = s.size := by
    have := fenceL_size l s.data.toList [] (fun x hx => by rw [dlen]; exact okL_of hd x hx)
    rw [dlen] at this; exact List.size_toArray.trans this
  have e2 : (fnc s l).2 = keepL l := by unfold fnc; rw [fence_acc]; rfl
  refine ⟨devOk_of (by rw [hz]; exact hd.1.1) (by rw [hz]; exact hd.1.2) (fun x hx => ?_) (by rw [e2]; exact srt_keepL (srt_of hd)), hz⟩
  rw [e2] at hx
  obtain ⟨z, hzm, rfl⟩ := keepL_mem hx
  have g := okL_of hd z hzm
  rw [hz]
  exact ⟨g.1, g.2.1, g.2.2.1, .inr rfl⟩
theorem iFnc {s : ByteArray} {l : List S106} (hd : DevOk s l) (hs : s.size ≤ 1048576) : impl_Fence.l l s [] = some (fnc s l) := iFe_l s.size hs l s [] rfl (okL_of hd) (by have := devOk_len hd; simp; omega)
theorem iFlm {s : ByteArray} {l : List S106} (hd : DevOk s l) (y : Int) : impl_machine.flushF s l y = some (l.map (fl y)) := by
  have hsr := srt_of hd
  have hn := devOk_len hd
  have e2 : impl_Device_find.f s l y = some (((impl_Device_find.idx l y : Nat) : Int), (decide (impl_Device_find.idx l y < l.length) && decide ((rd_T106 l (impl_Device_find.idx l y : Nat)).f0 = y))) := by
    unfold impl_Device_find.f
    rw [if_pos (show impl_Device_find.srt l from hsr), if_pos (by omega)]
  unfold impl_machine.flushF
  rw [e2, Option.bind_some]
  simp only
  rw [put_map l hsr y]
theorem iStm {s : ByteArray} {l : List S106} (hd : DevOk s l) (hs : s.size ≤ 1048576) (y : Int) (o : Nat) (t : ByteArray) (hy : 0 ≤ y) (hys : 64 * y + 64 ≤ (s.size : Int)) (ho : o < 64) (ht : o + t.size ≤ 64) : impl_machine.storeF s l (64 * y + (o : Int)) t = some (storeL s y o t false l []) := by
  have e1 : Int.tdiv (64 * y + (o : Int)) 64 = y := by rw [Int.tdiv_eq_ediv_of_nonneg (by omega)]; omega
  have e2 : Int.tmod (64 * y + (o : Int)) 64 = (o : Int) := by rw [Int.tmod_eq_emod_of_nonneg (by omega)]; omega
  unfold impl_machine.storeF
  rw [e1, e2, w64 (by omega) (by omega)]
  exact put_store s l y o t hs (by have := devOk_len hd; omega) hd hy hys ht
/-- a line stored, flushed and fenced -/
def syncP (s : ByteArray) (l : List S106) (y : Int) (t : ByteArray) : ByteArray × List S106 := fnc s ((storeL s y 0 t false l []).map (fl y))
theorem syncP_ok {s : ByteArray} {l : List S106} (hd : DevOk s l) (y : Int) (t : ByteArray) (hy : 0 ≤ y) (hys : 64 * y + 64 ≤ (s.size : Int)) (ht : t.size ≤ 64) : DevOk (syncP s l y t).1 (syncP s l y t).2 ∧ (syncP s l y t).1.size = s.size :=
  fnc_ok (devOk_fl y (store_DevOk s l y 0 t hd hy hys (by omega)))
theorem iSync {s : ByteArray} {l : List S106} (hd : DevOk s l) (hs : s.size ≤ 1048576) (y : Int) (t : ByteArray) (hy : 0 ≤ y) (hys : 64 * y + 64 ≤ (s.size : Int)) (ht : t.size ≤ 64) : impl_machine.syncF s l y t = some (syncP s l y t) := by
  have h := store_DevOk s l y 0 t hd hy hys (by omega)
  unfold impl_machine.syncF
  rw [w64 (by omega) (by omega), show 64 * y = 64 * y + ((0 : Nat) : Int) by omega, iStm hd hs y 0 t hy hys (by omega) (by omega), Option.bind_some, iFlm h, Option.bind_some, iFnc (devOk_fl y h) hs]
  rfl
theorem logP_lenb (a b c : Int) (T : List ByteArray) (m : ByteArray) : ((logP a b c T m).1.length : Int) ≤ (b.toNat : Int) := by
  unfold logP
  by_cases g : epochOfP a b c T m < 0
  · rw [if_pos g]; exact Int.natCast_nonneg _
  · rw [if_neg g]
    have := logL_len (epochOfP a b c T m) a b m b.toNat 0 [] (Nat.zero_le _)
    omega
theorem recLineP_le (e q h : Int) (o : ByteArray) : (recLineP e q h o).size ≤ 64 := by
  by_cases c : (0 ≤ e ∧ e ≤ 999999999) ∧ (0 ≤ q ∧ q ≤ 31) ∧ (0 ≤ h ∧ h ≤ 255) ∧ o.size = 32
  · rw [recLineP_size e q h o c]; omega
  · unfold recLineP; rw [if_neg c]; exact Nat.zero_le _
/-- what is saved of a half: the line of its record -/
noncomputable def noteLn (a b c : Int) (T : List ByteArray) (s : ByteArray) (l : List S106) (h : Int) : ByteArray := recLineP (epochOfP a b c T (imgL s l)) ((logP a b c T (imgL s l)).1.length : Int) h (hfP (imgL s l) h)
noncomputable def noteP (a b c : Int) (T : List ByteArray) (s : ByteArray) (l : List S106) (h : Int) : ByteArray × List S106 × Int := if (logP a b c T (imgL s l)).1.any (fun x => x.f2 == h) = true then (s, l, 0) else if ((logP a b c T (imgL s l)).1.length : Int) = b ∨ epochOfP a b c T (imgL s l) = 1000000000 then (s, l, 3) else ((syncP s l (4 + (logP a b c T (imgL s l)).1.length) (noteLn a b c T s l h)).1, (syncP s l (4 + (logP a b c T (imgL s l)).1.length) (noteLn a b c T s l h)).2, 0)
theorem half_in {a b h : Int} (ha : 8 ≤ a ∧ a ≤ 128) (hb : 1 ≤ b) (hba : b ≤ a - 5) (g : halfP a b h = true) : 0 ≤ h ∧ 32 * h + 32 ≤ 64 * a := by
  unfold halfP at g
  rw [decide_eq_true_eq] at g
  omega
theorem note_at {a b c : Int} {T : List ByteArray} {s : ByteArray} {l : List S106} (g : (lonP a b c T s l).2.2 = true) (hn : ¬ (((logP a b c T (imgL s l)).1.length : Int) = b)) : 64 * (4 + ((logP a b c T (imgL s l)).1.length : Int)) + 64 ≤ (s.size : Int) := by
  obtain ⟨h1, h2, h3, h4, h5⟩ := lonP_of g
  obtain ⟨hc, _⟩ := cfgP_of h1
  have := logP_lenb a b c T (imgL s l)
  omega
/-- a device that was noted on is right, of the same size -/
theorem noteP_ok {a b c : Int} {T : List ByteArray} {s : ByteArray} {l : List S106} {h : Int} (g : (lonP a b c T s l).2.2 = true) : DevOk (noteP a b c T s l h).1 (noteP a b c T s l h).2.1 ∧ (noteP a b c T s l h).1.size = s.size := by
  obtain ⟨h1, h2, h3, h4, h5⟩ := lonP_of g
  unfold noteP
  by_cases c1 : (logP a b c T (imgL s l)).1.any (fun x => x.f2 == h) = true
  · rw [if_pos c1]; exact ⟨h2, rfl⟩
  · rw [if_neg c1]
    by_cases c2 : ((logP a b c T (imgL s l)).1.length : Int) = b ∨ epochOfP a b c T (imgL s l) = 1000000000
    · rw [if_pos c2]; exact ⟨h2, rfl⟩
    · rw [if_neg c2]
      exact syncP_ok h2 _ _ (by omega) (note_at g (fun z => c2 (.inl z))) (recLineP_le _ _ _ _)
theorem iNote {a b c : Int} {T : List ByteArray} {s : ByteArray} {l : List S106} (h : Int) (hs : s.size ≤ 1048576) (hl : l.length ≤ 1048576) (g : (lonP a b c T s l).2.2 = true) : Ev (fun k => impl_machine.noteF k a b c T s l h) (noteP a b c T s l h) := by
  obtain ⟨h1, h2, h3, h4, h5⟩ := lonP_of g
  have hz := imgL_size h2
  have h32 := logP_len a b c T (imgL s l)
  refine evThen (iLOn a b c T s l hs hl) (fun k => rfl) ?_
  rw [h4]
  simp only [if_true, if_pos (show (logP a b c T (imgL s l)).1.length ≤ 1000 by omega)]
  unfold noteP
  by_cases c1 : (logP a b c T (imgL s l)).1.any (fun x => x.f2 == h) = true
  · simp only [if_pos c1]; exact Ev.now _
  · simp only [if_neg c1]
    by_cases c2 : ((logP a b c T (imgL s l)).1.length : Int) = b ∨ epochOfP a b c T (imgL s l) = 1000000000
    · simp only [if_pos c2]; exact Ev.now _
    · simp only [if_neg c2]
      refine evThen (iSn s l h2 hs hl) (fun k => rfl) ?_
      refine Ev.congr (fun k => by rw [show (⟨(seenL s.data.toList l).toArray⟩ : ByteArray) = imgL s l from rfl, iHf (imgL s l) h (by omega), Option.bind_some]) ?_
      refine evThen (iRL _ _ h _) (fun k => rfl) (evIs fun k => ?_)
      rw [show recLineP (epochOfP a b c T (imgL s l)) ((logP a b c T (imgL s l)).1.length : Int) h (hfP (imgL s l) h) = noteLn a b c T s l h from rfl, iSync h2 hs _ (noteLn a b c T s l h) (by omega) (note_at g (fun z => c2 (.inl z))) (show (noteLn a b c T s l h).size ≤ 64 from recLineP_le _ _ _ _), Option.bind_some]
/-- Noted, as both sides reckon it -/
noncomputable def notedP (a b c : Int) (T : List ByteArray) (s : ByteArray) (l : List S106) (h : Int) : ByteArray × List S106 × Int := if (lonP a b c T s l).2.2 = true then (if halfP a b h = true then (if (noteP a b c T s l h).2.2 = 0 then noteP a b c T s l h else ((⟨#[]⟩ : ByteArray), [], (noteP a b c T s l h).2.2)) else ((⟨#[]⟩ : ByteArray), [], 2)) else ((⟨#[]⟩ : ByteArray), [], 1)
theorem iNoted (a b c : Int) (T : List ByteArray) (s : ByteArray) (l : List S106) (h : Int) (hs : s.size ≤ 1048576) (hl : l.length ≤ 1048576) : Ev (fun k => impl_Noted.f k a b c T s l h) (notedP a b c T s l h) := by
  have e1 : impl_Device_own.f s l = some (s, l) := by
    unfold impl_Device_own.f impl_Line.f
    rw [if_pos (by omega)]; rfl
  refine evThen (iLOn a b c T s l hs hl) (fun k => rfl) ?_
  unfold notedP
  by_cases g : (lonP a b c T s l).2.2 = true
  · obtain ⟨h1, h2, h3, h4, h5⟩ := lonP_of g
    obtain ⟨hc, _⟩ := cfgP_of h1
    refine Ev.congr (fun k => by rw [if_pos g, iHalf c T (by omega) (by omega), Option.bind_some]) ?_
    rw [if_pos g]
    by_cases hh : halfP a b h = true
    · simp only [if_pos hh, e1, Option.bind_some]
      refine evThen (iNote h hs hl g) (fun k => rfl) (evIs fun k => ?_)
      split <;> rfl
    · simp only [if_neg hh]; exact Ev.now _
  · rw [if_neg g]; exact evIs fun k => by rw [if_neg g]
/-- a reader of drawn bytes that is in order -/
def RdOk (l : List Int) (p : Int) : Prop := 0 ≤ p ∧ p ≤ (l.length : Int) ∧ (l.length : Int) ≤ 140737488351232 ∧ ∀ x ∈ l, 0 ≤ x ∧ x ≤ 255
theorem RdOk.start {l : List Int} (h1 : l.length * 1 ≤ 140737488351232) (h2 : ∀ x ∈ l, (Lit.int .u8 x).wf = true) : RdOk l 0 :=
  ⟨by omega, by omega, by omega, fun x hx => by
    have := h2 x hx
    simp [Lit.wf, IntKind.min, IntKind.max, IntKind.bits, IntKind.signed] at this
    omega⟩
theorem rd_mem {l : List Int} {i : Int} (h0 : 0 ≤ i) (h1 : i < (l.length : Int)) : rd l i ∈ l := by
  unfold rd
  rw [List.getD_eq_getElem?_getD, List.getElem?_eq_getElem (by omega : i.toNat < l.length)]
  exact List.getElem_mem _
theorem bits_u64 (op : BinOp) (x y : Int) : 0 ≤ Go.bits op .u64 x y ∧ Go.bits op .u64 x y < 18446744073709551616 := by
  unfold Go.bits; rw [u64]; omega
theorem wrap64_in (x : Int) : -9223372036854775808 ≤ wrap64 x ∧ wrap64 x ≤ 9223372036854775807 := by unfold wrap64; omega
theorem next_ok {l : List Int} {p : Int} (h : RdOk l p) : ∃ v p', spec_l1Rd_next.f l p = some (v, p') ∧ 0 ≤ v ∧ v ≤ 255 ∧ RdOk l p' := by
  obtain ⟨h0, h1, h2, h3⟩ := h
  unfold spec_l1Rd_next.f
  by_cases c : p ≥ (l.length : Int)
  · exact ⟨0, p, by rw [if_pos c], by omega, by omega, h0, h1, h2, h3⟩
  · have hm := h3 _ (rd_mem h0 (by omega : p < (l.length : Int)))
    refine ⟨rd l p, p + 1, ?_, hm.1, hm.2, by omega, by omega, h2, h3⟩
    rw [if_neg c, w64 (n := p + 1) (by omega) (by omega), w64 (n := p + 1 - 1) (by omega) (by omega), if_pos (by omega), if_pos (by omega), show p + 1 - 1 = p by omega, w64 (by omega) (by omega)]
theorem below_ok {l : List Int} {p : Int} (h : RdOk l p) (n : Int) : ∃ v p', spec_l1Rd_below.f l p n = some (v, p') ∧ 0 ≤ v ∧ (n ≤ 1 → v = 0) ∧ (1 < n → v < n) ∧ RdOk l p' := by
  unfold spec_l1Rd_below.f
  by_cases c : n ≤ 1
  · exact ⟨0, p, by rw [if_pos c], by omega, fun _ => rfl, fun _ => by omega, h⟩
  · rw [if_neg c]
    by_cases c2 : n ≤ 256
    · obtain ⟨v, p1, e, v0, v1, h'⟩ := next_ok h
      refine ⟨Int.tmod v n, p1, by rw [if_pos c2, e]; simp only [Option.bind_some]; rw [if_neg (by omega)], ?_, by omega, fun _ => ?_, h'⟩
      · rw [Int.tmod_eq_emod_of_nonneg v0]; exact Int.emod_nonneg _ (by omega)
      · rw [Int.tmod_eq_emod_of_nonneg v0]; exact Int.emod_lt_of_pos _ (by omega)
    · obtain ⟨v, p1, e, v0, v1, h'⟩ := next_ok h
      obtain ⟨u, p2, e2, u0, u1, h2⟩ := next_ok h'
      have e3 : wrap64 (wrap64 (v * 256) + u) = v * 256 + u := by rw [w64 (n := v * 256) (by omega) (by omega), w64 (by omega) (by omega)]
      refine ⟨Int.tmod (v * 256 + u) n, p2, by rw [if_neg c2, e]; simp only [Option.bind_some]; rw [e2]; simp only [Option.bind_some]; rw [if_neg (by omega), e3], ?_, by omega, fun _ => ?_, h2⟩
      · rw [Int.tmod_eq_emod_of_nonneg (by omega)]; exact Int.emod_nonneg _ (by omega)
      · rw [Int.tmod_eq_emod_of_nonneg (by omega)]; exact Int.emod_lt_of_pos _ (by omega)
theorem once_ok {l : List Int} {p : Int} (h : RdOk l p) (n : Int) : ∃ b p', spec_l1Rd_once.f l p n = some (b, p') ∧ RdOk l p' := by
  obtain ⟨v, p1, e, _, _, _, h'⟩ := below_ok h n
  exact ⟨_, p1, by unfold spec_l1Rd_once.f; rw [e]; rfl, h'⟩
theorem word_in {l : List Int} : ∀ (d j : Nat) (x p : Int), j + d = 8 → 0 ≤ x → x < 18446744073709551616 → RdOk l p → ∃ v p', Ev (fun k => spec_l1Rd_word.l0 k x j l p) (v, p') ∧ 0 ≤ v ∧ v < 18446744073709551616 ∧ RdOk l p' := by
  intro d
  induction d with
  | zero =>
    intro j x p hj h0 h1 h
    exact ⟨x, p, Ev.step (f := fun _ => some (x, p)) (fun k => by simp only [spec_l1Rd_word.l0]; rw [if_neg (by omega)]) (Ev.now _), h0, h1, h⟩
  | succ d ih =>
    intro j x p hj h0 h1 h
    obtain ⟨u, p1, e, u0, u1, h'⟩ := next_ok h
    have hb := bits_u64 .or (IntKind.u64.wrap (x * 256)) (IntKind.u64.wrap u)
    obtain ⟨v, p2, e2, v0, v1, h2⟩ := ih (j + 1) _ p1 (by omega) hb.1 hb.2 h'
    refine ⟨v, p2, Ev.step (fun k => ?_) e2, v0, v1, h2⟩
    simp only [spec_l1Rd_word.l0]; rw [if_pos (by omega), e]; simp only [Option.bind_some]; rw [w64 (n := (j : Int) + 1) (by omega) (by omega)]; rfl
theorem word_ok {l : List Int} {p : Int} (h : RdOk l p) : ∃ v p', Ev (fun k => spec_l1Rd_word.f k l p) (v, p') ∧ 0 ≤ v ∧ v < 18446744073709551616 ∧ RdOk l p' := by
  obtain ⟨v, p', e, h⟩ := word_in 8 0 0 p (by omega) (by omega) (by omega) h
  exact ⟨v, p', Ev.congr (fun k => rfl) e, h⟩
theorem near_ok {l : List Int} {p : Int} (h : RdOk l p) (lo hi : Int) (hl : -9223372036854775808 ≤ lo ∧ lo ≤ 9223372036854775807) (hh : -9223372036854775808 ≤ hi ∧ hi ≤ 9223372036854775807) (hd : hi - lo < 18446744073709551615) : ∃ v p', Ev (fun k => spec_l1Rd_near.f k l p lo hi) (v, p') ∧ -9223372036854775808 ≤ v ∧ v ≤ 9223372036854775807 ∧ RdOk l p' := by
  unfold spec_l1Rd_near.f
  obtain ⟨v, p1, e, v0, _, v1, h1⟩ := below_ok h 8
  rw [e]; simp only [Option.bind_some]
  by_cases c0 : v = 0
  · simp only [if_pos c0]; exact ⟨_, p1, Ev.now _, hl.1, hl.2, h1⟩
  · simp only [if_neg c0]
    by_cases c1 : v = 1
    · simp only [if_pos c1]; exact ⟨_, p1, Ev.now _, hh.1, hh.2, h1⟩
    · simp only [if_neg c1]
      by_cases c2 : hi < lo
      · simp only [if_pos c2]; exact ⟨_, p1, Ev.now _, hl.1, hl.2, h1⟩
      · simp only [if_neg c2]
        obtain ⟨u, p2, e2, u0, u1, h2⟩ := word_ok h1
        have hz : ¬ (IntKind.u64.wrap (wrap64 (wrap64 (hi - lo) + 1)) = 0) := by rw [u64]; unfold wrap64; omega
        have hw := wrap64_in (lo + wrap64 (Int.tmod (u / 2) (IntKind.u64.wrap (wrap64 (wrap64 (hi - lo) + 1)))))
        refine ⟨_, p2, ?_, hw.1, hw.2, h2⟩
        simp only [if_neg hz]
        exact Ev.bind (f := fun _ (b : Int × Int) => some (wrap64 (lo + wrap64 (Int.tmod (b.1 / 2) (IntKind.u64.wrap (wrap64 (wrap64 (hi - lo) + 1))))), b.2)) e2 (Ev.now _)
theorem off_ok {l : List Int} {p : Int} (h : RdOk l p) (lo hi : Int) (hl : -9223372036854775808 ≤ lo ∧ lo ≤ 9223372036854775807) (hh : -9223372036854775808 ≤ hi ∧ hi ≤ 9223372036854775807) (hd : hi - lo < 18446744073709551615) : ∃ v p', Ev (fun k => spec_l1Rd_off.f k l p lo hi) (v, p') ∧ -9223372036854775808 ≤ v ∧ v ≤ 9223372036854775807 ∧ RdOk l p' := by
  unfold spec_l1Rd_off.f
  obtain ⟨b, p1, e, h1⟩ := once_ok h 24
  rw [e]; simp only [Option.bind_some]
  cases b with
  | true =>
    simp only [if_true]
    obtain ⟨u, p2, e2, u0, _, u1, h2⟩ := below_ok h1 4
    have hu := u1 (by omega)
    simp only [e2, Option.bind_some]
    rw [if_pos u0, if_pos (by simpa using hu)]
    have hw := wrap64_in (lo - 1)
    have hw2 := wrap64_in (hi + 1)
    refine ⟨_, p2, Ev.now _, ?_, ?_, h2⟩
    all_goals
      have : u = 0 ∨ u = 1 ∨ u = 2 ∨ u = 3 := by omega
      rcases this with rfl | rfl | rfl | rfl <;> simp [rd] <;> omega
  | false =>
    simp only [Bool.false_eq_true, if_false]
    obtain ⟨u, p2, e2, u0, u1, h2⟩ := near_ok h1 lo hi hl hh hd
    exact ⟨u, p2, Ev.bind (f := fun _ (b : Int × Int) => some (b.1, b.2)) e2 (Ev.now _), u0, u1, h2⟩
theorem kinds_l {l : List Int} : ∀ (n : Nat) (x : ByteArray) (p : Int), RdOk l p → x.size + n ≤ 1048576 → ∃ s p', Ev (fun k => spec_l1Rd_kinds.l0 k x (n : Int) l p) (s, p') ∧ s.size = x.size + n ∧ RdOk l p' := by
  intro n
  induction n with
  | zero =>
    intro x p h hx
    exact ⟨x, p, evIs1 fun k => by simp only [spec_l1Rd_kinds.l0]; rw [if_neg (by omega)], by omega, h⟩
  | succ n ih =>
    intro x p h hx
    obtain ⟨q, p3, e3, q0, qa, qb, h3⟩ := below_ok h 2
    have hq := qb (by omega)
    have hz : (rdOf ByteArray.empty ([(⟨#[105]⟩ : ByteArray), (⟨#[114]⟩ : ByteArray)] : List ByteArray) q).size = 1 := by
      have : q = 0 ∨ q = 1 := by omega
      rcases this with rfl | rfl <;> rfl
    obtain ⟨s, p', e', hs, h'⟩ := ih (x ++ rdOf ByteArray.empty ([(⟨#[105]⟩ : ByteArray), (⟨#[114]⟩ : ByteArray)] : List ByteArray) q) p3 h3 (by rw [ByteArray.size_append, hz]; omega)
    refine ⟨s, p', Ev.step (f := fun k => spec_l1Rd_kinds.l0 k (x ++ rdOf ByteArray.empty ([(⟨#[105]⟩ : ByteArray), (⟨#[114]⟩ : ByteArray)] : List ByteArray) q) (n : Int) l p3) (fun k => ?_) e', by rw [hs, ByteArray.size_append, hz]; omega, h'⟩
    simp only [spec_l1Rd_kinds.l0]
    rw [if_pos (by omega), Option.bind_some, e3]
    simp only [Option.bind_some]
    rw [if_pos q0, if_pos (by simpa using hq), if_pos (by rw [hz]; omega), w64 (n := ((n + 1 : Nat) : Int) - 1) (by omega) (by omega), show ((n + 1 : Nat) : Int) - 1 = (n : Int) by omega]
theorem kinds_any {l : List Int} {p : Int} (h : RdOk l p) (m : Int) (hm : m ≤ 100) : ∃ s p', Ev (fun k => spec_l1Rd_kinds.f k l p m) (s, p') ∧ s.size ≤ 101 ∧ RdOk l p' := by
  obtain ⟨v, p1, e, v0, va, v1, h1⟩ := below_ok h m
  have hv : v ≤ 100 := by
    by_cases c : 1 < m
    · have := v1 c; omega
    · have := va (by omega); omega
  obtain ⟨n, rfl⟩ := Int.eq_ofNat_of_zero_le v0
  obtain ⟨s, p', e', hs, h'⟩ := kinds_l (1 + n) (⟨#[]⟩ : ByteArray) p1 h1 (by show 0 + (1 + n) ≤ _; omega)
  refine ⟨s, p', Ev.congr (fun k => ?_) e', by rw [hs]; show 0 + (1 + n) ≤ _; omega, h'⟩
  unfold spec_l1Rd_kinds.f
  rw [e]; simp only [Option.bind_some]
  rw [w64 (by omega) (by omega)]; rfl
def TyOk (n : Nat) (l : List ByteArray) : Prop := l.length ≤ n ∧ ∀ t ∈ l, t.size ≤ 1000
theorem TyOk.snoc {n : Nat} {l : List ByteArray} (h : TyOk n l) (s : ByteArray) (hs : s.size ≤ 1000) : TyOk (n + 1) (l ++ [s]) := by
  refine ⟨by rw [List.length_append, List.length_singleton]; have := h.1; omega, fun t ht => ?_⟩
  rcases List.mem_append.1 ht with ht | ht
  · exact h.2 t ht
  · rw [List.mem_singleton] at ht; subst ht; exact hs
theorem TyOk.set {n : Nat} {l : List ByteArray} (h : TyOk n l) (i : Nat) (s : ByteArray) (hs : s.size ≤ 1000) : TyOk n (l.set i s) := by
  refine ⟨by rw [List.length_set]; exact h.1, fun t ht => ?_⟩
  rcases List.mem_or_eq_of_mem_set ht with ht | rfl
  · exact h.2 t ht
  · exact hs
theorem TyOk.mono {n m : Nat} {l : List ByteArray} (h : TyOk n l) (hm : n ≤ m) : TyOk m l := ⟨by have := h.1; omega, h.2⟩
theorem types_l {l : List Int} : ∀ (n m : Nat) (x : List ByteArray) (p : Int), RdOk l p → TyOk m x → 0 < x.length → m + n ≤ 1000 → ∃ r p', Ev (fun k => spec_l1Rd_types.l0 k x (n : Int) l p) (r, p') ∧ TyOk (m + n) r ∧ 0 < r.length ∧ RdOk l p' := by
  intro n
  induction n with
  | zero =>
    intro m x p h hx h0 hm
    exact ⟨x, p, evIs1 fun k => by simp only [spec_l1Rd_types.l0]; rw [if_neg (by omega)], hx, h0, h⟩
  | succ n ih =>
    intro m x p h hx h0 hm
    obtain ⟨b, p1, e1, h1⟩ := once_ok h 4
    have go : ∀ q : Int, q ≤ 100 → (∀ k, spec_l1Rd_types.l0 (k + 1) x ((n + 1 : Nat) : Int) l p = (spec_l1Rd_kinds.f k l p1 q).bind fun z => (if x.length < 8796093022208 then (spec_l1Rd_types.l0 k (x ++ [z.1]) (n : Int) l z.2) else none)) → ∃ r p', Ev (fun k => spec_l1Rd_types.l0 k x ((n + 1 : Nat) : Int) l p) (r, p') ∧ TyOk (m + (n + 1)) r ∧ 0 < r.length ∧ RdOk l p' := by
      intro q hq he
      obtain ⟨s, p2, e2, hs, h2⟩ := kinds_any h1 q hq
      obtain ⟨r, p', e', hr, hr0, h'⟩ := ih (m + 1) (x ++ [s]) p2 h2 (hx.snoc s (by omega)) (by simp) (by omega)
      exact ⟨r, p', Ev.step he (evThen e2 (fun k => rfl) (Ev.congr (fun k => by rw [if_pos (by have := hx.1; omega)]) e')), by rw [show m + (n + 1) = m + 1 + n by omega]; exact hr, hr0, h'⟩
    have w : wrap64 (((n + 1 : Nat) : Int) - 1) = (n : Int) := by rw [w64 (by omega) (by omega)]; omega
    cases b with
    | true => exact go 23 (by omega) (fun k => by simp only [spec_l1Rd_types.l0]; rw [if_pos (by omega), e1, Option.bind_some, if_pos rfl, w])
    | false => exact go 5 (by omega) (fun k => by simp only [spec_l1Rd_types.l0]; rw [if_pos (by omega), e1, Option.bind_some, if_neg (by simp), w])
theorem types_ok {l : List Int} {p : Int} (h : RdOk l p) : ∃ r p', Ev (fun k => spec_l1Rd_types.f k l p) (r, p') ∧ TyOk 5 r ∧ 0 < r.length ∧ RdOk l p' := by
  obtain ⟨v, p1, e, v0, _, v1, h1⟩ := below_ok h 4
  have hv := v1 (by omega)
  obtain ⟨u, p2, e2, u0, _, u1, h2⟩ := below_ok h1 3
  have hu := u1 (by omega)
  obtain ⟨n, rfl⟩ := Int.eq_ofNat_of_zero_le u0
  have hz : (rdOf ByteArray.empty ([(⟨#[105, 114]⟩ : ByteArray), (⟨#[114, 114, 105]⟩ : ByteArray), (⟨#[114, 105]⟩ : ByteArray), (⟨#[105, 114, 114]⟩ : ByteArray)] : List ByteArray) v).size ≤ 1000 := by
    have : v = 0 ∨ v = 1 ∨ v = 2 ∨ v = 3 := by omega
    rcases this with rfl | rfl | rfl | rfl <;> decide
  obtain ⟨r, p', e', hr, hr0, h'⟩ := types_l n 1 [rdOf ByteArray.empty ([(⟨#[105, 114]⟩ : ByteArray), (⟨#[114, 114, 105]⟩ : ByteArray), (⟨#[114, 105]⟩ : ByteArray), (⟨#[105, 114, 114]⟩ : ByteArray)] : List ByteArray) v] p2 h2 ⟨Nat.le_refl _, fun t ht => by rw [List.mem_singleton] at ht; subst ht; exact hz⟩ (by simp) (by omega)
  refine ⟨r, p', Ev.congr (fun k => ?_) e', hr.mono (by omega), hr0, h'⟩
  unfold spec_l1Rd_types.f
  rw [Option.bind_some, e]
  simp only [Option.bind_some]
  rw [if_pos v0, if_pos (by simpa using hv), e2]
  rfl
theorem hurtTy_l {l : List Int} : ∀ (n i m : Nat) (x : List ByteArray) (p : Int), RdOk l p → TyOk m x → i + n = 13 → m + n ≤ 1000 → ∃ r p', Ev (fun k => spec_l1Rd_hurtTypes.l0 k x (i : Int) l p) (r, p') ∧ TyOk (m + n) r ∧ RdOk l p' := by
  intro n
  induction n with
  | zero =>
    intro i m x p h hx hi hm
    exact ⟨x, p, evIs1 fun k => by simp only [spec_l1Rd_hurtTypes.l0]; rw [if_neg (by omega)], hx, h⟩
  | succ n ih =>
    intro i m x p h hx hi hm
    obtain ⟨v, p1, e, v0, _, v1, h1⟩ := below_ok h 3
    have hv := v1 (by omega)
    by_cases c : (x.length : Int) < wrap64 (11 + v)
    · obtain ⟨r, p', e', hr, h'⟩ := ih (i + 1) (m + 1) (x ++ [(⟨#[114]⟩ : ByteArray)]) p1 h1 (hx.snoc _ (by decide)) (by omega) (by omega)
      refine ⟨r, p', Ev.step (f := fun k => spec_l1Rd_hurtTypes.l0 k (x ++ [(⟨#[114]⟩ : ByteArray)]) ((i + 1 : Nat) : Int) l p1) (fun k => ?_) e', by rw [show m + (n + 1) = m + 1 + n by omega]; exact hr, h'⟩
      simp only [spec_l1Rd_hurtTypes.l0]
      rw [if_pos (by omega), e, Option.bind_some, if_pos c, if_pos (by have := hx.1; omega), w64 (by omega) (by omega)]
      rfl
    · exact ⟨x, p1, evIs1 fun k => by simp only [spec_l1Rd_hurtTypes.l0]; rw [if_pos (by omega), e, Option.bind_some, if_neg c], hx.mono (by omega), h1⟩
def TyR (l : List ByteArray) : Prop := l.length ≤ 1000 ∧ ∀ t ∈ l, t.size ≤ 2000
theorem TyOk.r {n : Nat} {l : List ByteArray} (h : TyOk n l) (hn : n ≤ 1000) : TyR l := ⟨Nat.le_trans h.1 hn, fun t ht => by have := h.2 t ht; omega⟩
theorem hurtTy_ok {l : List Int} {p : Int} (h : RdOk l p) (x : List ByteArray) (hx : TyOk 5 x) (hx0 : 0 < x.length) : ∃ r p', Ev (fun k => spec_l1Rd_hurtTypes.f k l p x) (r, p') ∧ TyR r ∧ RdOk l p' := by
  obtain ⟨v, p1, e, _, _, _, h1⟩ := below_ok h 30
  have st : ∀ {r : List ByteArray × Int}, Ev (fun k => (if v = 0 then (some (([] : List ByteArray), p1)) else (if v = 1 then (if 0 < (x.length : Int) then (some ((x.set (0 : Int).toNat (⟨#[]⟩ : ByteArray)), p1)) else (none)) else (if v = 2 then (if 0 < (x.length : Int) then (if (rdOf ByteArray.empty x 0).size + 1 ≤ 9223372036854775807 then (some ((x.set (0 : Int).toNat ((rdOf ByteArray.empty x 0) ++ (⟨#[120]⟩ : ByteArray))), p1)) else (none)) else (none)) else (if v = 3 then ((spec_l1Rd_kinds.f k l p1 3).bind fun bt265 => (if 22 + bt265.1.size ≤ 9223372036854775807 then (if 0 < (x.length : Int) then (some ((x.set (0 : Int).toNat ((⟨#[105, 105, 105, 105, 105, 105, 105, 105, 105, 105, 105, 105, 105, 105, 105, 105, 105, 105, 105, 105, 105, 105]⟩ : ByteArray) ++ bt265.1)), bt265.2)) else (none)) else (none))) else (if v = 4 then (spec_l1Rd_hurtTypes.l0 k x 0 l p1) else (some (x, p1)))))))) r → Ev (fun k => spec_l1Rd_hurtTypes.f k l p x) r := fun q => Ev.congr (fun k => by unfold spec_l1Rd_hurtTypes.f; rw [e]; rfl) q
  have hxi : (0 : Int) < (x.length : Int) := by omega
  have h0 : (rdOf ByteArray.empty x 0).size ≤ 1000 := by
    have := hx.2 x[0] (List.getElem_mem hx0)
    unfold rdOf; rw [List.getD_eq_getElem?_getD, List.getElem?_eq_getElem (by simpa using hx0)]; exact this
  have one : ∀ b : UInt8, (⟨#[b]⟩ : ByteArray).size = 1 := fun _ => rfl
  by_cases c0 : v = 0
  · exact ⟨[], p1, st (evIs fun k => by rw [if_pos c0]), ⟨by simp, fun t ht => by cases ht⟩, h1⟩
  · by_cases c1 : v = 1
    · exact ⟨_, p1, st (evIs fun k => by rw [if_neg c0, if_pos c1, if_pos hxi]), (hx.set _ _ (by decide)).r (by omega), h1⟩
    · by_cases c2 : v = 2
      · refine ⟨_, p1, st (evIs fun k => by rw [if_neg c0, if_neg c1, if_pos c2, if_pos hxi, if_pos (by omega)]), ⟨by rw [List.length_set]; exact Nat.le_trans hx.1 (by decide), fun t ht => ?_⟩, h1⟩
        rcases List.mem_or_eq_of_mem_set ht with ht | rfl
        · have := hx.2 t ht; omega
        · rw [ByteArray.size_append, one]; omega
      · by_cases c3 : v = 3
        · obtain ⟨s, p2, e2, hs, h2⟩ := kinds_any h1 3 (by omega)
          refine ⟨_, p2, st (Ev.congr (fun k => by rw [if_neg c0, if_neg c1, if_neg c2, if_pos c3]) (evThen e2 (fun k => rfl) (evIs fun k => by rw [if_pos (show 22 + s.size ≤ 9223372036854775807 by omega), if_pos hxi]))), (hx.set _ _ (by rw [ByteArray.size_append]; show 22 + s.size ≤ _; omega)).r (by omega), h2⟩
        · by_cases c4 : v = 4
          · obtain ⟨r, p', e', hr, h'⟩ := hurtTy_l 13 0 5 x p1 h1 hx (by omega) (by omega)
            exact ⟨r, p', st (Ev.congr (fun k => by rw [if_neg c0, if_neg c1, if_neg c2, if_neg c3, if_pos c4]; rfl) e'), hr.r (by omega), h'⟩
          · exact ⟨x, p1, st (evIs fun k => by rw [if_neg c0, if_neg c1, if_neg c2, if_neg c3, if_neg c4]), hx.r (by omega), h1⟩
theorem hurtCfg_ok {l : List Int} {p : Int} (h : RdOk l p) (a b c : Int) (T : List ByteArray) (hT : TyOk 5 T) (hT0 : 0 < T.length) : ∃ r, Ev (fun k => spec_l1Rd_hurtConfig.f k l p a b c T) r ∧ TyR r.2.2.2.1 := by
  obtain ⟨v, p1, e, _, _, _, h1⟩ := below_ok h 16
  obtain ⟨o1, q1, f1, _, _, _⟩ := off_ok h1 8 128 (by omega) (by omega) (by omega)
  obtain ⟨o2, q2, f2, _, _, _⟩ := off_ok h1 1 32 (by omega) (by omega) (by omega)
  obtain ⟨o3, q3, f3, _, _, _⟩ := off_ok h1 2 400 (by omega) (by omega) (by omega)
  obtain ⟨R, q4, f4, hR, _⟩ := hurtTy_ok h1 T hT hT0
  obtain ⟨w, q5, f5, _, _, _, _⟩ := below_ok h1 2
  have hr := hT.r (by omega)
  by_cases c0 : v = 0
  · exact ⟨(o1, b, c, T, q1), Ev.congr (fun k => by unfold spec_l1Rd_hurtConfig.f; rw [e, Option.bind_some, if_pos c0]) (evThen f1 (fun k => rfl) (evIs fun k => rfl)), hr⟩
  · by_cases c1 : v = 1
    · exact ⟨(a, o2, c, T, q2), Ev.congr (fun k => by unfold spec_l1Rd_hurtConfig.f; rw [e, Option.bind_some, if_neg c0, if_pos c1]) (evThen f2 (fun k => rfl) (evIs fun k => rfl)), hr⟩
    · by_cases c2 : v = 2
      · exact ⟨(a, b, o3, T, q3), Ev.congr (fun k => by unfold spec_l1Rd_hurtConfig.f; rw [e, Option.bind_some, if_neg c0, if_neg c1, if_pos c2]) (evThen f3 (fun k => rfl) (evIs fun k => rfl)), hr⟩
      · by_cases c3 : v = 3
        · exact ⟨(a, b, c, R, q4), Ev.congr (fun k => by unfold spec_l1Rd_hurtConfig.f; rw [e, Option.bind_some, if_neg c0, if_neg c1, if_neg c2, if_pos c3]) (evThen f4 (fun k => rfl) (evIs fun k => rfl)), hR⟩
        · by_cases c4 : v = 4
          · exact ⟨(a, wrap64 ((wrap64 (a - 5)) + w), c, T, q5), evIs fun k => by unfold spec_l1Rd_hurtConfig.f; rw [e, Option.bind_some, if_neg c0, if_neg c1, if_neg c2, if_neg c3, if_pos c4, f5, Option.bind_some], hr⟩
          · exact ⟨(a, b, c, T, p1), evIs fun k => by unfold spec_l1Rd_hurtConfig.f; rw [e, Option.bind_some, if_neg c0, if_neg c1, if_neg c2, if_neg c3, if_neg c4], hr⟩
theorem config_ok {l : List Int} {p : Int} (h : RdOk l p) : ∃ a b c T p', Ev (fun k => spec_l1Rd_config.f k l p) (a, b, c, T, p') ∧ TyOk 5 T ∧ 0 < T.length ∧ RdOk l p' := by
  obtain ⟨v1, p1, e1, _, _, _, h1⟩ := below_ok h 10
  obtain ⟨v2, p2, e2, _, _, _, h2⟩ := below_ok h1 40
  obtain ⟨T, p3, e3, hT, hT0, h3⟩ := types_ok h2
  obtain ⟨v4, p4, e4, _, _, _, h4⟩ := below_ok h3 14
  obtain ⟨b, p5, e5, h5⟩ := once_ok h4 3
  obtain ⟨v6, p6, e6, _, _, _, h6⟩ := below_ok h5 200
  cases b with
  | true =>
    refine ⟨mn (wrap64 ((wrap64 ((wrap64 (4 + (wrap64 (1 + v1)))) + (wrap64 (4 + v4)))) + 40)) 128, 10, wrap64 (4 + v6), T, p6, evThen e3 (fun k => by unfold spec_l1Rd_config.f; rw [e1, Option.bind_some, e2, Option.bind_some]) (evIs fun k => ?_), hT, hT0, h6⟩
    simp only [e4, Option.bind_some, e5, if_true, e6]
  | false =>
    refine ⟨wrap64 ((wrap64 (4 + (wrap64 (1 + v1)))) + (wrap64 (4 + v4))), wrap64 (1 + v1), wrap64 (4 + v2), T, p5, evThen e3 (fun k => by unfold spec_l1Rd_config.f; rw [e1, Option.bind_some, e2, Option.bind_some]) (evIs fun k => ?_), hT, hT0, h5⟩
    simp only [e4, Option.bind_some, e5, Bool.false_eq_true, if_false]
theorem drawCfg {l : List Int} (h : RdOk l 0) : ∃ r : Int × Int × Int × List ByteArray, Ev (fun k => spec_DrawConfigOk.f k l) r ∧ TyR r.2.2.2 := by
  obtain ⟨a, b, c, T, p, e, hT, hT0, h1⟩ := config_ok h
  obtain ⟨r, er, hr⟩ := hurtCfg_ok h1 a b c T hT hT0
  exact ⟨(r.1, r.2.1, r.2.2.1, r.2.2.2.1), evThen e (fun k => rfl) (evThen er (fun k => rfl) (evIs fun k => rfl)), hr⟩
theorem sWB (k : Nat) (a0 : Int) : spec_WordBytes.f (k + 9) a0 = some (wb a0) := by
  unfold spec_WordBytes.f
  simp (config := {maxSteps := 1000000}) [spec_WordBytes.l0, wrap64, u64, List.replicate, shr, IntKind.bits, wb, wbx]
theorem sWB_ev (a0 : Int) : Ev (fun k => spec_WordBytes.f k a0) (wb a0) := ⟨9, fun k hk => by
  obtain ⟨m, rfl⟩ : ∃ m, k = m + 9 := ⟨k - 9, by omega⟩
  exact sWB m a0⟩
theorem sSB (k : Nat) (n : Int) : spec_ShortBytes.f (k + 9) n = some (sb n) := by
  unfold spec_ShortBytes.f
  rw [sIn, sWB]; simp only [Option.bind_some, sb]
  by_cases h : 0 ≤ n ∧ n ≤ 65535
  · rw [if_pos (by simpa using h), if_pos h, if_pos (by rw [wb_size]; omega)]
    have e : n % 18446744073709551616 = n := by omega
    unfold wb; rw [e]; unfold wbx; rw [cut6]
  · rw [if_neg (by simpa using h), if_neg h]
theorem sSB_ev (n : Int) : Ev (fun k => spec_ShortBytes.f k n) (sb n) := ⟨9, fun k hk => by
  obtain ⟨m, rfl⟩ : ∃ m, k = m + 9 := ⟨k - 9, by omega⟩
  exact sSB m n⟩
theorem sZeros (n : Nat) (h : n ≤ 281474976710656) : spec_l1Zeros.f (n : Int) = some (zs n) := by
  unfold spec_l1Zeros.f; rw [if_pos (by omega), if_pos (by omega)]; rfl
theorem sCrc_in (s : ByteArray) (x4 : Int) (r : ByteArray) : ∀ (d j c : Nat), j + d = 8 → c < 4294967296 → Ev (fun k => spec_l1Crc.l0 k s (crcBits d c : Nat) (wrap64 (x4 + 1))) r → Ev (fun k => spec_l1Crc.l1 k s (c : Nat) x4 j) r := by
  intro d
  induction d with
  | zero =>
    intro j c hj hc h
    refine Ev.step (f := fun k => spec_l1Crc.l0 k s (c : Nat) (wrap64 (x4 + 1))) (fun k => ?_) h
    simp only [spec_l1Crc.l1]; rw [if_neg (by omega)]
  | succ d ih =>
    intro j c hj hc h
    refine Ev.step (f := fun k => spec_l1Crc.l1 k s (crcBit c : Nat) x4 ((j + 1 : Nat) : Int)) (fun k => ?_) (ih (j + 1) (crcBit c) (by omega) (crcBit_lt hc) h)
    simp only [spec_l1Crc.l1]; rw [if_pos (by omega), w64 (n := (j : Int) + 1) (by omega) (by omega)]
    have e2 : ((c : Int) / 2) = ((c / 2 : Nat) : Int) := by omega
    have e1 : Int.tmod (c : Int) 2 = ((c % 2 : Nat) : Int) := by rw [Int.tmod_eq_emod_of_nonneg (by omega)]; omega
    rw [e1, e2]
    unfold crcBit
    by_cases h1 : c % 2 = 1
    · rw [if_pos (by omega), if_pos h1, show (3988292384 : Int) = ((3988292384 : Nat) : Int) from rfl, xorN _ _ (by omega) (by omega)]; rfl
    · rw [if_neg (by omega), if_neg h1]; rfl
theorem sCrc_out (s : ByteArray) (hs : s.size ≤ 4611686018427387904) : ∀ (d i : Nat), i + d = s.size → Ev (fun k => spec_l1Crc.l0 k s (crcAt s i : Nat) i) (crcStr s) := by
  intro d
  induction d with
  | zero =>
    intro i hi
    refine Ev.step (f := fun _ => some (crcStr s)) (fun k => ?_) (Ev.now _)
    simp only [spec_l1Crc.l0]; rw [if_neg (by omega)]
    obtain rfl : i = s.size := by omega
    rw [show (4294967295 : Int) = ((4294967295 : Nat) : Int) from rfl, xorN _ _ (by omega) (crcAt_lt s _)]; rfl
  | succ d ih =>
    intro i hi
    have hb := btN_le s i
    refine Ev.step (f := fun k => spec_l1Crc.l1 k s ((crcAt s i ^^^ btN s i : Nat) : Int) i ((0 : Nat) : Int)) (fun k => ?_) ?_
    · simp only [spec_l1Crc.l0]; rw [if_pos (by omega), if_pos (by omega), ← btN_cast, show ((btN s i : Nat) : Int) % 4294967296 = (btN s i : Nat) by omega, xorN _ _ (crcAt_lt s i) (by omega)]; rfl
    · refine sCrc_in s i _ 8 0 _ rfl (xor_lt _ _ (crcAt_lt s i) (by omega)) ?_
      have := ih (i + 1) (by omega)
      rw [w64 (n := (i : Int) + 1) (by omega) (by omega)]
      exact this
theorem sCrc (s : ByteArray) (hs : s.size ≤ 4611686018427387904) : Ev (fun k => spec_l1Crc.f k s) (crcStr s) := by
  refine Ev.congr (fun k => ?_) (sCrc_out s hs s.size 0 (by omega))
  rfl
theorem sSealed (s : ByteArray) (hs : s.size ≤ 4611686018427387904) : Ev (fun k => spec_Sealed.f k s) (sealedP s) := by
  by_cases h : (s.size : Int) > 60
  · refine evIs fun k => ?_
    unfold spec_Sealed.f sealedP; rw [if_pos h, if_pos (by omega)]
  · have hz := pad_size s (by omega)
    have e : ∀ k, spec_Sealed.f k s = (spec_l1Crc.f k (pad s)).bind fun t => (if (pad s).size + t.size ≤ 9223372036854775807 then some (pad s ++ t) else none) := by
      intro k
      unfold spec_Sealed.f
      rw [if_neg h, w64 (by omega) (by omega), show (60 : Int) - (s.size : Int) = ((60 - s.size : Nat) : Int) by omega, sZeros _ (by omega)]
      simp only [Option.bind_some]
      rw [if_pos (by rw [zs_size]; omega)]; rfl
    refine evThen (sCrc (pad s) (by omega)) e (evIs fun k => ?_)
    rw [if_pos (by rw [hz, crcStr_size]; omega)]
    unfold sealedP; rw [if_neg (by omega)]
def maskP (s : ByteArray) : Nat → Nat → Int → Int
  | 0, _, m => m
  | n + 1, i, m => maskP s n (i + 1) (if bt s (i : Int) = 114 then Go.bits .or .i64 m (shl .i64 1 (i : Int)) else m)
def typP (s : ByteArray) (m : Int) : ByteArray := strOfNums [((s.size : Int)) % 256, (m / 65536) % 256, (m / 256) % 256, m % 256]
def supP : List ByteArray → ByteArray → ByteArray
  | [], x => x
  | s :: r, x => supP r (x ++ typP s (maskP s s.size 0 0))
theorem typP_size (s : ByteArray) (m : Int) : (typP s m).size = 4 := by unfold typP; rw [strOfNums_size]; rfl
theorem sb_le (n : Int) : (sb n).size ≤ 2 := by
  unfold sb; split
  · rw [strOfNums_size]; exact Nat.le_refl _
  · decide
def supHead (a b c : Int) (n : Nat) : ByteArray := ((((⟨#[78, 86, 71, 49]⟩ : ByteArray) ++ sb a) ++ sb b) ++ sb c) ++ strOfNums [(n : Int) % 256]
theorem one_size (m : Int) : (strOfNums [m]).size = 1 := by rw [strOfNums_size]; rfl
theorem supHead_size (a b c : Int) (n : Nat) : (supHead a b c n).size ≤ 11 := by
  unfold supHead
  have h1 := sb_le a
  have h2 := sb_le b
  have h3 := sb_le c
  simp only [ByteArray.size_append, one_size]
  show 4 + _ + _ + _ + 1 ≤ 11
  omega
def superP (a b c : Int) (l : List ByteArray) : ByteArray := if cfgP a b c l = true then sealedP (supP l (supHead a b c l.length)) else (⟨#[]⟩ : ByteArray)
theorem supP_size : ∀ (l : List ByteArray) (x : ByteArray), (supP l x).size = x.size + 4 * l.length
  | [], x => rfl
  | s :: r, x => by rw [supP, supP_size r, ByteArray.size_append, typP_size, List.length_cons]; omega
theorem sSup_l1 (x : ByteArray) (l : List ByteArray) (a b c : Int) (i : Nat) (hi : i < l.length) (hx : x.size ≤ 1099511627776) (hs : (l[i]).size ≤ 9223372036854775807) (r : ByteArray) : ∀ (n j : Nat) (m : Int), j + n = (l[i]).size →
    Ev (fun k => spec_l3Super.l0 k (x ++ typP l[i] (maskP l[i] n j m)) (wrap64 ((i : Int) + 1)) a b c l) r → Ev (fun k => spec_l3Super.l1 k x (i : Int) m (j : Int) a b c l) r := by
  intro n
  induction n with
  | zero =>
    intro j m hj h
    refine Ev.step (f := fun k => spec_l3Super.l0 k (x ++ typP l[i] m) (wrap64 ((i : Int) + 1)) a b c l) (fun k => ?_) h
    simp only [spec_l3Super.l1]
    rw [rdS l i hi, if_pos (by omega), if_pos (by omega), if_neg (by omega), Option.bind_some, if_pos (by show _ + (typP l[i] m).size ≤ _; rw [typP_size]; omega)]
    rfl
  | succ n ih =>
    intro j m hj h
    have ih := ih (j + 1) (if bt l[i] (j : Int) = 114 then Go.bits .or .i64 m (shl .i64 1 (j : Int)) else m) (by omega) h
    refine Ev.step (f := fun k => spec_l3Super.l1 k x (i : Int) (if bt l[i] (j : Int) = 114 then Go.bits .or .i64 m (shl .i64 1 (j : Int)) else m) ((j + 1 : Nat) : Int) a b c l) (fun k => ?_) ih
    simp only [spec_l3Super.l1]
    have hu : IntKind.u64.wrap (j : Int) = (j : Int) := by rw [u64]; omega
    rw [rdS l i hi, if_pos (by omega), if_pos (by omega), if_pos (by omega), if_pos (by omega), w64 (n := (j : Int) + 1) (by omega) (by omega), hu, if_pos (show (0 : Int) ≤ (j : Int) by omega)]
    by_cases c : bt l[i] (j : Int) = 114
    · rw [if_pos c, if_pos c]; rfl
    · rw [if_neg c, if_neg c]; rfl
theorem sSup_l0 (l : List ByteArray) (a b c : Int) (hl : l.length ≤ 1048576) (hs : ∀ s ∈ l, s.size ≤ 9223372036854775807) : ∀ (n i : Nat) (x : ByteArray), i + n = l.length → x.size + 4 * n ≤ 1099511627776 → Ev (fun k => spec_l3Super.l0 k x (i : Int) a b c l) (sealedP (supP (l.drop i) x)) := by
  intro n
  induction n with
  | zero =>
    intro i x hi hx
    rw [List.drop_eq_nil_iff.2 (by omega)]
    refine Ev.step (f := fun k => (spec_Sealed.f k x).bind fun t => some t) (fun k => by simp only [spec_l3Super.l0]; rw [if_neg (by omega)]) ?_
    exact evThen (sSealed x (by omega)) (fun k => rfl) (evIs fun k => rfl)
  | succ n ih =>
    intro i x hi hx
    have hil : i < l.length := by omega
    rw [List.drop_eq_getElem_cons hil, supP]
    refine Ev.step (f := fun k => spec_l3Super.l1 k x (i : Int) 0 ((0 : Nat) : Int) a b c l) (fun k => by simp only [spec_l3Super.l0]; rw [if_pos (by omega)]; rfl) ?_
    refine sSup_l1 x l a b c i hil (by omega) (hs _ (List.getElem_mem hil)) _ (l[i]).size 0 0 (by omega) ?_
    have := ih (i + 1) (x ++ typP l[i] (maskP l[i] (l[i]).size 0 0)) (by omega) (by rw [ByteArray.size_append, typP_size]; omega)
    rw [w64 (by omega) (by omega)]
    exact this
theorem sSup (a b c : Int) (l : List ByteArray) (hl : l.length ≤ 1048576) (hs : ∀ s ∈ l, s.size ≤ 9223372036854775807) : Ev (fun k => spec_l3Super.f k a b c l) (sealedP (supP l (supHead a b c l.length))) := by
  have h1 := sb_le a
  have h2 := sb_le b
  have h3 := sb_le c
  refine evThen (sSB_ev a) (fun k => rfl) (Ev.congr (fun k => by rw [if_pos (by omega)]) (evThen (sSB_ev b) (fun k => rfl) (Ev.congr (fun k => by rw [if_pos (by rw [ByteArray.size_append]; show 4 + _ + _ ≤ _; omega)]) (evThen (sSB_ev c) (fun k => rfl) (Ev.congr (fun k => by rw [if_pos (by rw [ByteArray.size_append, ByteArray.size_append]; show 4 + _ + _ + _ ≤ _; omega), Option.bind_some, if_pos (by rw [one_size, ByteArray.size_append, ByteArray.size_append, ByteArray.size_append]; show 4 + _ + _ + _ + 1 ≤ _; omega)]) ?_)))))
  have hh := supHead_size a b c l.length
  have := sSup_l0 l a b c hl hs l.length 0 (supHead a b c l.length) (by omega) (by omega)
  exact this
theorem sEL (e : Int) : Ev (fun k => spec_EpochLine.f k e) (epochLineP e) := by
  unfold spec_EpochLine.f
  simp only [sIn, Option.bind_some]
  by_cases h : 0 ≤ e ∧ e ≤ 1000000000
  · simp only [show decide (0 ≤ e ∧ e ≤ 1000000000) = true by simpa using h, if_true]
    refine evThen (sWB_ev e) (fun k => rfl) (evThen (sSealed (wb e) (by rw [wb_size]; omega)) (f := fun _ t => some t) (fun k => rfl) (evIs fun k => ?_))
    unfold epochLineP; rw [if_pos h]
  · simp only [show decide (0 ≤ e ∧ e ≤ 1000000000) = false by simpa using h, Bool.false_eq_true, if_false]
    refine evIs fun k => ?_
    unfold epochLineP; rw [if_neg h]
theorem superP_size {a b c : Int} {l : List ByteArray} (h : cfgP a b c l = true) : (superP a b c l).size = 64 := by
  obtain ⟨_, h2⟩ := cfgP_of h
  obtain ⟨_, h4, _⟩ := tys_of h2
  unfold superP; rw [if_pos h]
  have hh := supHead_size a b c l.length
  exact sealedP_size _ (by rw [supP_size]; omega)
def fmtP (a b c : Int) (l : List ByteArray) : ByteArray := if cfgP a b c l = true then (superP a b c l ++ epochLineP 0) ++ zs (64 * a.toNat - 128) else (⟨#[]⟩ : ByteArray)
theorem sFmt (a b c : Int) (l : List ByteArray) (hl : l.length ≤ 1048576) (hs : ∀ s ∈ l, s.size ≤ 9223372036854775807) : Ev (fun k => spec_Format.f k a b c l) (fmtP a b c l) := by
  refine evThen (sCfg a b c l (by omega) hs) (fun k => rfl) ?_
  unfold fmtP
  by_cases h : cfgP a b c l = true
  · have hz := superP_size h
    have he := epochLineP_size 0 (by omega)
    obtain ⟨hc, _⟩ := cfgP_of h
    have e : superP a b c l = sealedP (supP l (supHead a b c l.length)) := by unfold superP; rw [if_pos h]
    simp only [if_pos h]
    rw [e] at hz ⊢
    refine evThen (sSup a b c l hl hs) (fun k => rfl) (evThen (sEL 0) (fun k => rfl) (evIs fun k => ?_))
    rw [if_pos (by omega), w64 (n := 64 * a) (by omega) (by omega), w64 (by omega) (by omega), show 64 * a - 128 = ((64 * a.toNat - 128 : Nat) : Int) by omega, sZeros _ (by omega), Option.bind_some, if_pos (by rw [ByteArray.size_append, zs_size]; omega)]
  · simp only [if_neg h]; exact evIs fun k => rfl
theorem iSup_l1 (x s : ByteArray) (l : List ByteArray) (n1 i : Int) (hx : x.size ≤ 1099511627776) (hs : s.size ≤ 9223372036854775807) (r : ByteArray) : ∀ (n j : Nat) (m : Int), j + n = s.size →
    Ev (fun k => impl_SuperLine.l0 k (x ++ typP s (maskP s n j m)) l n1 (wrap64 (i + 1))) r → Ev (fun k => impl_SuperLine.l1 k x s m l n1 i (s.size : Int) (j : Int)) r := by
  intro n
  induction n with
  | zero =>
    intro j m hj h
    refine Ev.step (f := fun k => impl_SuperLine.l0 k (x ++ typP s m) l n1 (wrap64 (i + 1))) (fun k => ?_) h
    simp only [impl_SuperLine.l1]
    rw [if_neg (by omega), Option.bind_some, if_pos (by show _ + (typP s m).size ≤ _; rw [typP_size]; omega)]
    rfl
  | succ n ih =>
    intro j m hj h
    have ih := ih (j + 1) (if bt s (j : Int) = 114 then Go.bits .or .i64 m (shl .i64 1 (j : Int)) else m) (by omega) h
    refine Ev.step (f := fun k => impl_SuperLine.l1 k x s (if bt s (j : Int) = 114 then Go.bits .or .i64 m (shl .i64 1 (j : Int)) else m) l n1 i (s.size : Int) ((j + 1 : Nat) : Int)) (fun k => ?_) ih
    simp only [impl_SuperLine.l1]
    rw [if_pos (by omega), if_pos (by omega), if_pos (by omega), w64 (n := (j : Int) + 1) (by omega) (by omega)]
    by_cases c : bt s (j : Int) = 114
    · rw [if_pos c, if_pos c]; rfl
    · rw [if_neg c, if_neg c]; rfl
theorem iSup_l0 (l : List ByteArray) (hl : l.length ≤ 1048576) (hs : ∀ s ∈ l, s.size ≤ 9223372036854775807) : ∀ (n i : Nat) (x : ByteArray), i + n = l.length → x.size + 4 * n ≤ 1099511627776 → Ev (fun k => impl_SuperLine.l0 k x l (l.length : Int) (i : Int)) (sealedP (supP (l.drop i) x)) := by
  intro n
  induction n with
  | zero =>
    intro i x hi hx
    rw [List.drop_eq_nil_iff.2 (by omega)]
    refine Ev.step (f := fun k => (impl_Sealed.f k x).bind fun t => some t) (fun k => by simp only [impl_SuperLine.l0]; rw [if_neg (by omega)]) ?_
    exact evThen (iSealed x (by omega)) (fun k => rfl) (evIs fun k => rfl)
  | succ n ih =>
    intro i x hi hx
    have hil : i < l.length := by omega
    rw [List.drop_eq_getElem_cons hil, supP]
    refine Ev.step (f := fun k => impl_SuperLine.l1 k x l[i] 0 l (l.length : Int) (i : Int) ((l[i]).size : Int) ((0 : Nat) : Int)) (fun k => by simp only [impl_SuperLine.l0]; rw [if_pos (by omega), if_pos (by omega), if_pos (by omega), rdS l i hil]; rfl) ?_
    refine iSup_l1 x l[i] l _ _ (by omega) (hs _ (List.getElem_mem hil)) _ (l[i]).size 0 0 (by omega) ?_
    have := ih (i + 1) (x ++ typP l[i] (maskP l[i] (l[i]).size 0 0)) (by omega) (by rw [ByteArray.size_append, typP_size]; omega)
    rw [w64 (by omega) (by omega)]
    exact this
theorem iSL (a b c : Int) (l : List ByteArray) (hl : l.length ≤ 1048576) (hs : ∀ s ∈ l, s.size ≤ 9223372036854775807) : Ev (fun k => impl_SuperLine.f k a b c l) (superP a b c l) := by
  have h1 := sb_le a
  have h2 := sb_le b
  have h3 := sb_le c
  refine Ev.congr (fun k => by unfold impl_SuperLine.f; rw [iCfg, Option.bind_some]) ?_
  unfold superP
  by_cases h : cfgP a b c l = true
  · simp only [if_pos h, iSB, Option.bind_some]
    refine Ev.congr (fun k => by rw [if_pos (by omega), if_pos (by rw [ByteArray.size_append]; show 4 + _ + _ ≤ _; omega), if_pos (by rw [ByteArray.size_append, ByteArray.size_append]; show 4 + _ + _ + _ ≤ _; omega), if_pos (by rw [one_size, ByteArray.size_append, ByteArray.size_append, ByteArray.size_append]; show 4 + _ + _ + _ + 1 ≤ _; omega)]) ?_
    have hh := supHead_size a b c l.length
    have := iSup_l0 l hl hs l.length 0 (supHead a b c l.length) (by omega) (by omega)
    exact this
  · simp only [if_neg h]; exact evIs fun k => rfl
theorem iFmt (a b c : Int) (l : List ByteArray) (hl : l.length ≤ 1048576) (hs : ∀ s ∈ l, s.size ≤ 9223372036854775807) : Ev (fun k => impl_Format.f k a b c l) (fmtP a b c l) := by
  refine Ev.congr (fun k => by unfold impl_Format.f; rw [iCfg, Option.bind_some]) ?_
  unfold fmtP
  by_cases h : cfgP a b c l = true
  · have hz := superP_size h
    have he := epochLineP_size 0 (by omega)
    obtain ⟨hc, _⟩ := cfgP_of h
    simp only [if_pos h]
    refine evThen (iSL a b c l hl hs) (fun k => rfl) (evThen (iEL 0) (fun k => rfl) (evIs fun k => ?_))
    rw [if_pos (by omega), w64 (n := a - 2) (by omega) (by omega), w64 (by omega) (by omega), show 64 * (a - 2) = ((64 * a.toNat - 128 : Nat) : Int) by omega, iZeros _ (by omega), Option.bind_some, if_pos (by rw [ByteArray.size_append, zs_size]; omega)]
  · simp only [if_neg h]; exact evIs fun k => rfl
noncomputable def seenP (s : ByteArray) (l : List S106) : ByteArray := open Classical in if DevOk s l then ⟨(seenL s.data.toList l).toArray⟩ else (⟨#[]⟩ : ByteArray)
theorem iSe (s : ByteArray) (l : List S106) (hs : s.size ≤ 1048576) (hl : l.length ≤ 1048576) : Ev (fun k => impl_Seen.f k s l) (seenP s l) := by
  unfold impl_Seen.f seenP
  refine evThen (iDO s l hs hl) (fun k => rfl) ?_
  by_cases c : DevOk s l
  · simp only [if_pos ((devOkB_iff s l).2 c), if_pos c]
    exact evThen (iSn s l c hs hl) (fun k => rfl) (Ev.now _)
  · have : ¬ devOkB s l = true := fun z => c ((devOkB_iff s l).1 z)
    simp only [if_neg this, if_neg c]; exact Ev.now _
theorem seen_nil (b : List UInt8) (h : b.length % 64 = 0) : seenL b [] = b := (layAll_seen [] b h (fun x hx => by cases hx)).symm
/-- the i-th half that is noted -/
def halfN (b : Int) (i : Nat) : Int := if i ≤ 1 then 4 + (i : Int) else 2 * (4 + b) + (i : Int) - 2
theorem halfN_inj {b : Int} (hb : 1 ≤ b) {i j : Nat} (h : halfN b i = halfN b j) : i = j := by
  unfold halfN at h
  split at h <;> split at h <;> omega
theorem halfN_in {a b : Int} (hb : 1 ≤ b) (hl : b ≤ 2 * (a - 4 - b) + 1) {i : Nat} (hi : (i : Int) < b) : halfP a b (halfN b i) = true := by
  unfold halfP halfN
  rw [decide_eq_true_eq]
  split <;> omega
/-- an image with so many records -/
def FullN (a b : Int) (m : ByteArray) (n : Nat) : Prop := (m.size : Int) = 64 * a ∧ lineP m 1 = epochLineP 0 ∧ (∀ j : Nat, j < n → ∃ o, readRecP (lineP m (4 + j)) = (0, (j : Int), halfN b j, o, true)) ∧ ∀ j : Nat, n ≤ j → (j : Int) < b → (readRecP (lineP m (4 + j))).2.2.2.2 = false
theorem any_map {b h : Int} {out : List S83} {n : Nat} (e : out.map (·.f2) = (List.range n).map (halfN b)) : out.any (fun x => x.f2 == h) = decide (∃ j : Nat, j < n ∧ halfN b j = h) := by
  have e1 : out.any (fun x => x.f2 == h) = (out.map (·.f2)).any (fun x => x == h) := by rw [List.any_map]; rfl
  rw [e1, e, List.any_map]
  by_cases c : ∃ j : Nat, j < n ∧ halfN b j = h
  · rw [decide_eq_true c, List.any_eq_true]
    obtain ⟨j, hj, hh⟩ := c
    exact ⟨j, List.mem_range.2 hj, by simp [hh]⟩
  · rw [decide_eq_false c, List.any_eq_false]
    intro j hj
    simp only [Function.comp_apply, beq_iff_eq]
    exact fun hh => c ⟨j, List.mem_range.1 hj, hh⟩
theorem logL_full {a b : Int} {m : ByteArray} {n : Nat} (hb : 1 ≤ b) (hl : b ≤ 2 * (a - 4 - b) + 1) (hn : (n : Int) ≤ b) (hm : FullN a b m n) : ∀ (k i : Nat) (out : List S83), ((k + i : Nat) : Int) = b → out.map (·.f2) = (List.range (min i n)).map (halfN b) → (logL 0 a b m k i out).2 = true ∧ (logL 0 a b m k i out).1.map (·.f2) = (List.range n).map (halfN b)
  | 0, i, out, hk, ho => by
    rw [logL]
    exact ⟨rfl, by rw [show min i n = n by omega] at ho; exact ho⟩
  | k + 1, i, out, hk, ho => by
    have hlen : out.length = min i n := by have := congrArg List.length ho; simpa using this
    by_cases c : i < n
    · obtain ⟨o, hr⟩ := hm.2.2.1 i c
      have hmin : min i n = i := by omega
      have ha := any_map (h := halfN b i) ho
      rw [hmin, decide_eq_false (fun ⟨j, hj, hh⟩ => by have := halfN_inj hb hh; omega)] at ha
      rw [logL, hr]
      simp only [if_true, if_neg (show ¬ ((0 : Int) < 0) by decide), if_pos (show (out.length : Int) = (i : Int) by omega), if_pos (halfN_in hb hl (show (i : Int) < b by omega)), ha, Bool.false_eq_true, if_false]
      refine logL_full hb hl hn hm k (i + 1) _ (by omega) ?_
      rw [List.map_append, ho, hmin, show min (i + 1) n = i + 1 by omega, List.range_succ, List.map_append]
      rfl
    · rw [logL, if_neg (by rw [hm.2.2.2 i (by omega) (by omega)]; decide)]
      exact logL_full hb hl hn hm k (i + 1) out (by omega) (by rw [show min (i + 1) n = min i n by omega]; exact ho)
theorem logP_full {a b c : Int} {T : List ByteArray} {m : ByteArray} {n : Nat} (hc : cfgP a b c T = true) (hl : b ≤ 2 * (a - 4 - b) + 1) (hn : (n : Int) ≤ b) (hm : FullN a b m n) : epochOfP a b c T m = 0 ∧ (logP a b c T m).2 = true ∧ (logP a b c T m).1.map (·.f2) = (List.range n).map (halfN b) := by
  obtain ⟨hq, _⟩ := cfgP_of hc
  have hi : imgP a b c T m = true := by unfold imgP; rw [hc, decide_eq_true hm.1]; rfl
  have he : epochOfP a b c T m = 0 := by
    unfold epochOfP
    rw [if_pos hi, hm.2.1, readEpoch_line 0 (by omega)]
    rfl
  refine ⟨he, ?_⟩
  unfold logP
  rw [he, if_neg (by decide)]
  exact logL_full (by omega) hl hn hm b.toNat 0 [] (by omega) (by simp)
theorem line_bytes (m : ByteArray) (n : Nat) : (lineP m n).data.toList = blk m.data.toList n := by
  unfold lineP blk
  rw [ByteArray.data_extract]
  simp
theorem img_fnc {s : ByteArray} {l : List S106} (hd : DevOk s l) : imgL (fnc s l).1 (fnc s l).2 = imgL s l := by
  have e2 : (fnc s l).2 = keepL l := by unfold fnc; rw [fence_acc]; rfl
  have e1 : (fnc s l).1.data.toList = (fenceL l s.data.toList []).1 := by unfold fnc; simp
  unfold imgL
  rw [e2, e1, seenL_eq s.data.toList (fenceL l s.data.toList []).1 l (keepL l) (fenceL_size l _ _ (fun x hx => by rw [dlen]; exact okL_of hd x hx)) (fun i hi => fence_seen s.size i (by rw [dlen] at hi; exact hi) l s.data.toList (dlen s) (srt_of hd) (okL_of hd))]
theorem img_sync {s : ByteArray} {l : List S106} (hd : DevOk s l) (y : Nat) (t : ByteArray) (hy : 64 * y + 64 ≤ s.size) (ht : t.size ≤ 64) : (imgL (syncP s l (y : Int) t).1 (syncP s l (y : Int) t).2).data.toList = putA (imgL s l).data.toList (64 * y) t.data.toList := by
  have h := store_DevOk s l (y : Int) 0 t hd (by omega) (by omega) (by omega)
  unfold syncP
  rw [img_fnc (devOk_fl (y : Int) h)]
  unfold imgL
  rw [seenL_map _ _ _ (fl_f0 _) (fl_f1 _), store_seenL s l y 0 t hd (by omega) hy]
  simp
theorem line_sync {s : ByteArray} {l : List S106} (hd : DevOk s l) (y : Nat) (t : ByteArray) (hy : 64 * y + 64 ≤ s.size) (ht : t.size = 64) (j : Nat) (hj : 64 * j + 64 ≤ s.size) : lineP (imgL (syncP s l (y : Int) t).1 (syncP s l (y : Int) t).2) j = if j = y then t else lineP (imgL s l) j := by
  have hz : (imgL s l).data.toList.length = s.size := by rw [dlen]; exact imgL_size hd
  apply ByteArray.ext
  apply Array.toList_inj.1
  have h := blk_put (imgL s l).data.toList y 0 t.data.toList j (by rw [dlen]; omega) (by omega) (by omega)
  rw [line_bytes, img_sync hd y t hy (by omega), show 64 * y = 64 * y + 0 from rfl, h]
  by_cases c : j = y
  · rw [if_pos c, if_pos c]
    unfold putA
    have hb := blk_length (imgL s l).data.toList y (by omega)
    rw [List.drop_of_length_le (by rw [dlen, ht]; omega)]
    simp
  · rw [if_neg c, if_neg c, line_bytes]
theorem full_sync {a b : Int} {s : ByteArray} {l : List S106} {n : Nat} (ha : 8 ≤ a ∧ a ≤ 128) (hb : 1 ≤ b ∧ b ≤ 32) (hba : b ≤ a - 5) (hd : DevOk s l) (hm : FullN a b (imgL s l) n) (hn : (n : Int) < b) (hl : b ≤ 2 * (a - 4 - b) + 1) (o : ByteArray) (ho : o.size = 32) : FullN a b (imgL (syncP s l (4 + (n : Int)) (recLineP 0 (n : Int) (halfN b n) o)).1 (syncP s l (4 + (n : Int)) (recLineP 0 (n : Int) (halfN b n) o)).2) (n + 1) := by
  have hh := halfN_in hb.1 hl hn
  have hh1 : 0 ≤ halfN b n ∧ halfN b n ≤ 255 := by unfold halfN; split <;> omega
  have hc : ((0 : Int) ≤ 0 ∧ (0 : Int) ≤ 999999999) ∧ (0 ≤ (n : Int) ∧ (n : Int) ≤ 31) ∧ (0 ≤ halfN b n ∧ halfN b n ≤ 255) ∧ o.size = 32 := by omega
  have ht := recLineP_size 0 (n : Int) (halfN b n) o hc
  have hz := imgL_size hd
  have h1 := hm.1
  have e4 : (4 + (n : Int)) = ((4 + n : Nat) : Int) := by omega
  have hok := syncP_ok hd (4 + (n : Int)) (recLineP 0 (n : Int) (halfN b n) o) (by omega) (by omega) (by omega)
  have hr := readRec_line 0 (n : Int) (halfN b n) o hc
  rw [e4] at hok ⊢
  have hL := line_sync hd (4 + n) _ (by omega) ht
  refine ⟨by rw [imgL_size hok.1, hok.2]; omega, ?_, fun j hj => ?_, fun j hj hjb => ?_⟩
  · rw [hL 1 (by omega), if_neg (by omega)]; exact hm.2.1
  · rw [hL (4 + j) (by omega)]
    by_cases c : j = n
    · subst c; rw [if_pos rfl]; exact ⟨o, hr⟩
    · rw [if_neg (by omega)]; exact hm.2.2.1 j (by omega)
  · rw [hL (4 + j) (by omega), if_neg (by omega)]; exact hm.2.2.2 j (by omega) hjb
/-- a device with so many records -/
def NotedN (a b : Int) (s : ByteArray) (l : List S106) (n : Nat) : Prop := DevOk s l ∧ FullN a b (imgL s l) n
theorem NotedN.lon {a b c : Int} {T : List ByteArray} {s : ByteArray} {l : List S106} {n : Nat} (h : NotedN a b s l n) (hc : cfgP a b c T = true) (hl : b ≤ 2 * (a - 4 - b) + 1) (hn : (n : Int) ≤ b) : (lonP a b c T s l).2.2 = true := by
  unfold lonP
  rw [if_pos ⟨hc, h.1⟩]
  exact (logP_full hc hl hn h.2).2.1
theorem NotedN.size {a b : Int} {s : ByteArray} {l : List S106} {n : Nat} (h : NotedN a b s l n) : (s.size : Int) = 64 * a := by
  have := h.2.1; rw [imgL_size h.1] at this; exact this
theorem hfP_size {m : ByteArray} {h : Int} (h0 : 0 ≤ h) (h1 : 32 * h + 32 ≤ (m.size : Int)) : (hfP m h).size = 32 := by
  unfold hfP
  rw [if_pos ⟨h0, h1⟩, ByteArray.size_extract]
  omega
theorem noted_next {a b c : Int} {T : List ByteArray} {s : ByteArray} {l : List S106} {n : Nat} (h : NotedN a b s l n) (hc : cfgP a b c T = true) (hl : b ≤ 2 * (a - 4 - b) + 1) (hn : (n : Int) < b) : (notedP a b c T s l (halfN b n)).2.2 = 0 ∧ NotedN a b (notedP a b c T s l (halfN b n)).1 (notedP a b c T s l (halfN b n)).2.1 (n + 1) := by
  obtain ⟨hq, _⟩ := cfgP_of hc
  have hlon := h.lon hc hl (by omega)
  obtain ⟨e0, e1, e2⟩ := logP_full hc hl (by omega) h.2
  have hlen : (logP a b c T (imgL s l)).1.length = n := by have := congrArg List.length e2; simpa using this
  have ha := any_map (h := halfN b n) e2
  rw [decide_eq_false (fun ⟨j, hj, hh⟩ => by have := halfN_inj (by omega) hh; omega)] at ha
  have hh := halfN_in (a := a) (by omega) hl hn
  have hi := half_in hq.1 (by omega) hq.2.2.1 hh
  have hz := h.size
  have hos := hfP_size (m := imgL s l) hi.1 (by rw [imgL_size h.1]; omega)
  have en : noteP a b c T s l (halfN b n) = ((syncP s l (4 + (n : Int)) (recLineP 0 (n : Int) (halfN b n) (hfP (imgL s l) (halfN b n)))).1, (syncP s l (4 + (n : Int)) (recLineP 0 (n : Int) (halfN b n) (hfP (imgL s l) (halfN b n)))).2, 0) := by
    unfold noteP noteLn
    rw [ha, if_neg (by decide), hlen, e0, if_neg (by omega)]
  have ed : notedP a b c T s l (halfN b n) = noteP a b c T s l (halfN b n) := by
    unfold notedP
    rw [if_pos hlon, if_pos hh, en, if_pos rfl]
  have hok := noteP_ok (h := halfN b n) hlon
  rw [ed]
  refine ⟨by rw [en], hok.1, ?_⟩
  rw [en]
  exact full_sync hq.1 hq.2.1 hq.2.2.1 h.1 h.2 hn hl _ hos
theorem noted_full {a b c : Int} {T : List ByteArray} {s : ByteArray} {l : List S106} {n : Nat} (h : NotedN a b s l n) (hc : cfgP a b c T = true) (hl : b ≤ 2 * (a - 4 - b) + 1) (hn : (n : Int) = b) : (notedP a b c T s l (2 * a - 1)).2.2 = 3 ∧ (notedP a b c T s l 4).2.2 = 0 := by
  obtain ⟨hq, _⟩ := cfgP_of hc
  have hlon := h.lon hc hl (by omega)
  obtain ⟨e0, e1, e2⟩ := logP_full hc hl (by omega) h.2
  have hlen : (logP a b c T (imgL s l)).1.length = n := by have := congrArg List.length e2; simpa using this
  have ha := any_map (h := 2 * a - 1) e2
  rw [decide_eq_false (fun ⟨j, hj, hh⟩ => by unfold halfN at hh; split at hh <;> omega)] at ha
  have hb := any_map (h := 4) e2
  rw [decide_eq_true ⟨0, by omega, rfl⟩] at hb
  constructor
  · have en : noteP a b c T s l (2 * a - 1) = (s, l, 3) := by
      unfold noteP
      rw [ha, if_neg (by decide), hlen, if_pos (.inl hn)]
    unfold notedP
    rw [if_pos hlon, if_pos (show halfP a b (2 * a - 1) = true by unfold halfP; rw [decide_eq_true_eq]; omega), en, if_neg (show ¬ (3 : Int) = 0 by decide)]
  · have en : noteP a b c T s l 4 = (s, l, 0) := by
      unfold noteP
      rw [hb, if_pos rfl]
    unfold notedP
    rw [if_pos hlon, if_pos (show halfP a b 4 = true by unfold halfP; rw [decide_eq_true_eq]; omega), en, if_pos rfl]
theorem bt_zs (n : Nat) (i : Int) (h0 : 0 ≤ i) : bt (zs n) i = 0 := by
  by_cases h : i.toNat < (zs n).size
  · have h' : i.toNat < (List.replicate n (0 : Int)).length := by rw [zs_size] at h; simpa using h
    have := bt_strOfNums (List.replicate n 0) (fun x hx => by rw [List.mem_replicate] at hx; omega) i.toNat h'
    have e : bt (zs n) i = bt (strOfNums (List.replicate n 0)) ((i.toNat : Nat) : Int) := by rw [show ((i.toNat : Nat) : Int) = i by omega]; rfl
    rw [e, this]; simp
  · unfold bt; rw [dif_neg h]
/-- an image as it is made has no records -/
theorem noted_zero {a b c : Int} {T : List ByteArray} (hc : cfgP a b c T = true) : NotedN a b (fmtP a b c T) [] 0 := by
  obtain ⟨hq, _⟩ := cfgP_of hc
  have z1 := superP_size hc
  have z2 := epochLineP_size 0 (by omega)
  have ef : fmtP a b c T = (superP a b c T ++ epochLineP 0) ++ zs (64 * a.toNat - 128) := by unfold fmtP; rw [if_pos hc]
  have z3 : (fmtP a b c T).size = 64 * a.toNat := by rw [ef, ByteArray.size_append, ByteArray.size_append, zs_size]; omega
  have z4 : (superP a b c T ++ epochLineP 0).size = 128 := by rw [ByteArray.size_append]; omega
  have x2 : lineP (fmtP a b c T) 1 = epochLineP 0 := by
    unfold lineP
    refine ext_bt (by rw [ByteArray.size_extract]; omega) (fun i hi => ?_)
    rw [ByteArray.size_extract] at hi
    rw [bt_extract _ _ _ _ (by omega) (by omega) (by omega), ef, bt_append_l _ _ _ (by omega) (by rw [ByteArray.size_append]; omega), bt_append_r _ _ _ (by omega) (by omega)]
    congr 1; omega
  have hz : ∀ i : Int, 128 ≤ i → i < (fmtP a b c T).size → bt (fmtP a b c T) i = 0 := fun i hi q => by
    rw [ef, bt_append_r _ _ _ (by rw [ByteArray.size_append]; omega) (by rw [ByteArray.size_append, zs_size]; omega)]; exact bt_zs _ _ (by omega)
  have hi : imgL (fmtP a b c T) [] = fmtP a b c T := by
    unfold imgL
    rw [seen_nil _ (by rw [dlen, z3]; omega)]
  refine ⟨devOk_of (by omega) (by omega) (fun x hx => by cases hx) List.Pairwise.nil, ?_⟩
  rw [hi]
  refine ⟨by omega, x2, fun j hj => absurd hj (Nat.not_lt_zero j), fun j _ hj => ?_⟩
  have h0 : bt (lineP (fmtP a b c T) (4 + j)) 0 = 0 := by
    unfold lineP
    rw [bt_extract _ _ _ _ (by omega) (by omega) (by omega)]
    exact hz _ (by omega) (by omega)
  rw [Bool.eq_false_iff]
  intro hr
  have hk := readRec_ok _ hr
  generalize readRecP (lineP (fmtP a b c T) (4 + j)) = R at hr hk
  obtain ⟨e, q, h, o, u⟩ := R
  have hls : (lineP (fmtP a b c T) (4 + j)).size = 64 := by unfold lineP; rw [ByteArray.size_extract]; omega
  rw [← hk] at h0 hls
  simp only at h0 hls
  by_cases g : (0 ≤ e ∧ e ≤ 999999999) ∧ (0 ≤ q ∧ q ≤ 31) ∧ (0 ≤ h ∧ h ≤ 255) ∧ o.size = 32
  · unfold recLineP at h0
    have hb := recBody_size e q h o (by omega)
    rw [if_pos g, sealed_bt _ (by omega) _ (by omega) (by omega)] at h0
    unfold recBody at h0 hb
    have o1 := one_sizeR (q % 256)
    have o2 := (rs_sb h (by omega)).1
    rw [bt_append_l _ _ _ (by omega) (by simp only [ByteArray.size_append, lit1_size, o1, o2, wb_size]; omega), bt_append_l _ _ _ (by omega) (by simp only [ByteArray.size_append, lit1_size, o1, o2]; omega), bt_append_l _ _ _ (by omega) (by simp only [ByteArray.size_append, lit1_size, o1]; omega), bt_append_l _ _ _ (by omega) (by rw [lit1_size]; omega)] at h0
    exact absurd h0 (by decide)
  · unfold recLineP at hls
    rw [if_neg g] at hls
    exact absurd hls (by decide)
theorem full_loop {a b c : Int} {T : List ByteArray} (hc : cfgP a b c T = true) (hl : b ≤ 2 * (a - 4 - b) + 1) : ∀ (n i : Nat) (s : ByteArray) (l : List S106), NotedN a b s l i → ((i + n : Nat) : Int) = b → Ev (fun k => laws_FnLogFull.l0 k (i : Int) a b c T s l) true := by
  obtain ⟨hq, _⟩ := cfgP_of hc
  intro n
  induction n with
  | zero =>
    intro i s l h hn
    have hz := h.size
    have hd := devOk_len h.1
    obtain ⟨f1, f2⟩ := noted_full h hc hl (by omega)
    obtain ⟨e0, e1, e2⟩ := logP_full hc hl (by omega) h.2
    have hlen : (logP a b c T (imgL s l)).1.length = i := by have := congrArg List.length e2; simpa using this
    have es : seenP s l = imgL s l := by unfold seenP; rw [if_pos h.1]; rfl
    have hi := imgL_size h.1
    refine Ev.step (f := fun k => (impl_Noted.f k a b c T s l (2 * a - 1)).bind fun x => (impl_Noted.f k a b c T s l 4).bind fun y => (impl_Seen.f k s l).bind fun t => (impl_LogOf.f k a b c T t).bind fun z => if x.2.2 = 3 then (if y.2.2 = 0 then (if z.2 = true then some ((z.1.length : Int) == b) else none) else none) else none) (fun k => by
      simp only [laws_FnLogFull.l0]
      rw [if_neg (by omega), w64 (n := 2 * a) (by omega) (by omega), w64 (by omega) (by omega)]) ?_
    refine evThen (iNoted a b c T s l (2 * a - 1) (by omega) (by omega)) (fun k => rfl) (evThen (iNoted a b c T s l 4 (by omega) (by omega)) (fun k => rfl) (evThen (iSe s l (by omega) (by omega)) (fun k => rfl) (evThen (iLO a b c T (seenP s l) (by rw [es]; omega)) (fun k => rfl) (evIs fun k => ?_))))
    rw [es, f1, f2, e1, if_pos rfl, if_pos rfl, if_pos rfl, hlen]
    simp; omega
  | succ n ih =>
    intro i s l h hn
    have hz := h.size
    have hd := devOk_len h.1
    obtain ⟨f1, f2⟩ := noted_next h hc hl (show (i : Int) < b by omega)
    refine Ev.step (f := fun k => (impl_Noted.f k a b c T s l (halfN b i)).bind fun x => if x.2.2 = 0 then laws_FnLogFull.l0 k ((i + 1 : Nat) : Int) a b c T x.1 x.2.1 else none) (fun k => ?_) ?_
    · simp only [laws_FnLogFull.l0]
      rw [if_pos (by omega), w64 (n := (i : Int) + 1) (by omega) (by omega)]
      by_cases g : (i : Int) > 1
      · rw [if_pos g, w64 (n := 4 + b) (by omega) (by omega), w64 (n := 2 * (4 + b)) (by omega) (by omega), w64 (n := 2 * (4 + b) + (i : Int)) (by omega) (by omega), w64 (by omega) (by omega)]
        unfold halfN
        rw [if_neg (by omega)]
        rfl
      · rw [if_neg g, w64 (n := 4 + (i : Int)) (by omega) (by omega)]
        unfold halfN
        rw [if_pos (by omega)]
        rfl
    · refine evThen (iNoted a b c T s l (halfN b i) (by omega) (by omega)) (fun k => rfl) ?_
      simp only [f1, if_true]
      exact ih (i + 1) _ _ f2 (by omega)
theorem FnLogFull : laws_FnLogFull.Pure := by
  intro l hl _ hw
  by_cases hb : (l.length : Int) > 1048576
  · exact ⟨0, by unfold laws_FnLogFull.f laws_big.f; rw [decide_eq_true hb, Option.bind_some, if_pos rfl]⟩
  · obtain ⟨⟨a, b, c, T⟩, es, hT⟩ := drawCfg (l := l) (RdOk.start (by omega) hw)
    have hT1 : T.length ≤ 1000 := hT.1
    have hT2 : ∀ s ∈ T, s.size ≤ 9223372036854775807 := fun s hs => by have := hT.2 s hs; omega
    have fi := iFmt a b c T (by omega) hT2
    refine Ev.rounds (evThen es (fun k => by unfold laws_FnLogFull.f laws_big.f; rw [decide_eq_false hb, Option.bind_some, if_neg (by decide)]) ?_)
    refine evThen (sFmt a b c T (by omega) hT2) (fun k => rfl) ?_
    have same : ∀ d : Bool, d = true → Ev (fun k => laws_FnLogFull.j0 k (fmtP a b c T) d a b c T) true := fun d hd => by
      subst hd
      refine Ev.step (f := fun k => (impl_Format.f k a b c T).bind fun t => some (t.toList == (fmtP a b c T).toList)) (fun k => by simp only [laws_FnLogFull.j0]; rw [if_pos trivial]) ?_
      exact evThen fi (fun k => rfl) (evIs fun k => by simp)
    by_cases h : cfgP a b c T = true
    · obtain ⟨hc, _⟩ := cfgP_of h
      have hz := (noted_zero h).size
      have ne : ¬ (fmtP a b c T).toList = ([] : List UInt8) := by
        intro q
        have : (fmtP a b c T) = (⟨#[]⟩ : ByteArray) := toList_inj.1 (by rw [q, empty_toList])
        rw [this] at hz
        have e0 : (⟨#[]⟩ : ByteArray).size = 0 := rfl
        omega
      simp only [if_neg ne]
      have ew : wrap64 (wrap64 (2 * wrap64 (wrap64 (a - 4) - b)) + 2) = 2 * (a - 4 - b) + 2 := by
        rw [w64 (n := a - 4) (by omega) (by omega), w64 (n := a - 4 - b) (by omega) (by omega), w64 (n := 2 * (a - 4 - b)) (by omega) (by omega), w64 (by omega) (by omega)]
      rw [ew]
      by_cases g : 2 * (a - 4 - b) + 2 ≤ b
      · exact same _ (decide_eq_true g)
      · rw [decide_eq_false g]
        refine Ev.step (f := fun k => (impl_Format.f k a b c T).bind fun t => laws_FnLogFull.l0 k 0 a b c T t []) (fun k => by simp only [laws_FnLogFull.j0]; rw [if_neg (by decide)]) ?_
        exact evThen fi (fun k => rfl) (full_loop h (by omega) b.toNat 0 _ _ (noted_zero h) (by omega))
    · have ef : fmtP a b c T = (⟨#[]⟩ : ByteArray) := by unfold fmtP; rw [if_neg h]
      have e0 : (fmtP a b c T).toList = ([] : List UInt8) := by rw [ef, empty_toList]
      simp only [if_pos e0]
      exact same _ rfl
end Go.Proofs.YtngccjeicolcpaaGreatDoor.Pure
