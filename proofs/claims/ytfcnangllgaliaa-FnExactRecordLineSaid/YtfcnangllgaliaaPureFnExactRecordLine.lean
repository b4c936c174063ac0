/- The program's and the reference's RecordLine agree: both are recLineP. -/
import Derived.Test.YtfcnangllgaliaaPFnExactRecordLinex5
namespace Go.Proofs.Ytfcnangllgaliaa.Pure
open Go.RowKit Go.Proofs.Ytfcnangllgaliaa.PFnExactRecordLine Go.Proofs.YtfcnangllgaliaaW.PrintWords Go.Proofs.YtfcnangllgaliaaW.PrintLast
theorem w64 {n : Int} (h0 : -9223372036854775808 ≤ n) (h1 : n ≤ 9223372036854775807) : wrap64 n = n := by unfold wrap64; omega
theorem u64 (n : Int) : IntKind.u64.wrap n = n % 18446744073709551616 := by simp [IntKind.wrap, IntKind.bits, IntKind.signed]
theorem xorN (a b : Nat) (ha : a < 4294967296) (hb : b < 4294967296) : Go.bits .xor .u32 (a : Int) (b : Int) = ((a ^^^ b : Nat) : Int) := by
  have hx : a ^^^ b < 2 ^ 32 := Nat.xor_lt_two_pow (by omega) (by omega)
  show IntKind.u32.wrap (((BitVec.ofInt 32 (a : Int) ^^^ BitVec.ofInt 32 (b : Int)).toNat : Nat) : Int) = _
  rw [BitVec.toNat_xor, BitVec.ofInt_natCast, BitVec.ofInt_natCast, BitVec.toNat_ofNat, BitVec.toNat_ofNat, Nat.mod_eq_of_lt (by omega : a < 2 ^ 32), Nat.mod_eq_of_lt (by omega : b < 2 ^ 32), IntKind.wrap_u32]
  omega
theorem xor_lt (a b : Nat) (ha : a < 4294967296) (hb : b < 4294967296) : a ^^^ b < 4294967296 := Nat.xor_lt_two_pow (n := 32) (by omega) (by omega)
theorem and1 (c : Nat) (h : c < 4294967296) : Go.bits .and .u32 (c : Int) 1 = ((c % 2 : Nat) : Int) := by
  have e := bits_mask .u32 32 (by decide) (fun n h0 h1 => by rw [IntKind.wrap_u32]; omega) 1 (by decide) (c : Int) (by omega) (by omega)
  simpa using e
/-- one bit of the checksum -/
def crcBit (c : Nat) : Nat := if c % 2 = 1 then (c / 2) ^^^ 3988292384 else c / 2
def crcBits : Nat → Nat → Nat
  | 0, c => c
  | n + 1, c => crcBits n (crcBit c)
theorem crcBit_lt {c : Nat} (h : c < 4294967296) : crcBit c < 4294967296 := by
  unfold crcBit; split
  · exact xor_lt _ _ (by omega) (by omega)
  · omega
theorem crcBits_lt : ∀ (n : Nat) {c : Nat}, c < 4294967296 → crcBits n c < 4294967296
  | 0, _, h => h
  | n + 1, _, h => crcBits_lt n (crcBit_lt h)
/-- a byte, as a number -/
def btN (s : ByteArray) (i : Nat) : Nat := (bt s i).toNat
theorem btN_le (s : ByteArray) (i : Nat) : btN s i ≤ 255 := by have := bt_range s i; unfold btN; omega
theorem btN_cast (s : ByteArray) (i : Nat) : ((btN s i : Nat) : Int) = bt s i := by have := bt_range s i; unfold btN; omega
/-- the state behind the first n bytes -/
def crcAt (s : ByteArray) : Nat → Nat
  | 0 => 4294967295
  | n + 1 => crcBits 8 (crcAt s n ^^^ btN s n)
theorem crcAt_lt (s : ByteArray) : ∀ n, crcAt s n < 4294967296
  | 0 => by show 4294967295 < 4294967296; omega
  | n + 1 => crcBits_lt 8 (xor_lt _ _ (crcAt_lt s n) (by have := btN_le s n; omega))
def crcNum (s : ByteArray) : Nat := 4294967295 ^^^ crcAt s s.size
theorem crcNum_lt (s : ByteArray) : crcNum s < 4294967296 := xor_lt _ _ (by omega) (crcAt_lt s _)
def four (x : Int) : List Int := [x / 16777216 % 256, x / 65536 % 256, x / 256 % 256, x % 256]
def crcStr (s : ByteArray) : ByteArray := strOfNums (four (crcNum s))
theorem crcStr_size (s : ByteArray) : (crcStr s).size = 4 := by rw [crcStr, strOfNums_size]; rfl
/-- so many zero bytes -/
def zs (n : Nat) : ByteArray := strOfNums (List.replicate n 0)
theorem zs_size (n : Nat) : (zs n).size = n := by rw [zs, strOfNums_size]; simp
/-- what a string is sealed as -/
def pad (s : ByteArray) : ByteArray := s ++ zs (60 - s.size)
theorem pad_size (s : ByteArray) (h : s.size ≤ 60) : (pad s).size = 60 := by rw [pad, ByteArray.size_append, zs_size]; omega
def sealedP (s : ByteArray) : ByteArray := if 60 < s.size then (⟨#[]⟩ : ByteArray) else pad s ++ crcStr (pad s)
theorem sealedP_size (s : ByteArray) (h : s.size ≤ 60) : (sealedP s).size = 64 := by
  unfold sealedP; rw [if_neg (by omega), ByteArray.size_append, pad_size s h, crcStr_size]
theorem sealedP_le (s : ByteArray) : (sealedP s).size ≤ 64 := by
  by_cases h : s.size ≤ 60
  · rw [sealedP_size s h]; omega
  · unfold sealedP; rw [if_pos (by omega)]; simp [ByteArray.size]
theorem sZeros (n : Nat) (h : n ≤ 281474976710656) : spec_l1Zeros.f (n : Int) = some (zs n) := by
  unfold spec_l1Zeros.f; rw [if_pos (by omega), if_pos (by omega)]; rfl
theorem sCrc_in (s : ByteArray) (x4 : Int) (r : ByteArray) : ∀ (d j c : Nat), j + d = 8 → c < 4294967296 → Ev (fun k => spec_l1Crc.l0 k s (crcBits d c : Nat) (wrap64 (x4 + 1))) r → Ev (fun k => spec_l1Crc.l1 k s (c : Nat) x4 j) r := by
  intro d
  induction d with
  | zero =>
    intro j c hj hc h
    refine Ev.step (f := fun k => spec_l1Crc.l0 k s (c : Nat) (wrap64 (x4 + 1))) (fun k => ?_) h
    simp only [spec_l1Crc.l1]; rw [if_neg (by omega)]
  | succ d ih =>
    intro j c hj hc h
    refine Ev.step (f := fun k => spec_l1Crc.l1 k s (crcBit c : Nat) x4 ((j + 1 : Nat) : Int)) (fun k => ?_) (ih (j + 1) (crcBit c) (by omega) (crcBit_lt hc) h)
    simp only [spec_l1Crc.l1]; rw [if_pos (by omega), w64 (n := (j : Int) + 1) (by omega) (by omega)]
    have e2 : ((c : Int) / 2) = ((c / 2 : Nat) : Int) := by omega
    have e1 : Int.tmod (c : Int) 2 = ((c % 2 : Nat) : Int) := by rw [Int.tmod_eq_emod_of_nonneg (by omega)]; omega
    rw [e1, e2]
    unfold crcBit
    by_cases h1 : c % 2 = 1
    · rw [if_pos (by omega), if_pos h1, show (3988292384 : Int) = ((3988292384 : Nat) : Int) from rfl, xorN _ _ (by omega) (by omega)]; rfl
    · rw [if_neg (by omega), if_neg h1]; rfl
theorem sCrc_out (s : ByteArray) (hs : s.size ≤ 4611686018427387904) : ∀ (d i : Nat), i + d = s.size → Ev (fun k => spec_l1Crc.l0 k s (crcAt s i : Nat) i) (crcStr s) := by
  intro d
  induction d with
  | zero =>
    intro i hi
    refine Ev.step (f := fun _ => some (crcStr s)) (fun k => ?_) (Ev.now _)
    simp only [spec_l1Crc.l0]; rw [if_neg (by omega)]
    obtain rfl : i = s.size := by omega
    rw [show (4294967295 : Int) = ((4294967295 : Nat) : Int) from rfl, xorN _ _ (by omega) (crcAt_lt s _)]; rfl
  | succ d ih =>
    intro i hi
    have hb := btN_le s i
    refine Ev.step (f := fun k => spec_l1Crc.l1 k s ((crcAt s i ^^^ btN s i : Nat) : Int) i ((0 : Nat) : Int)) (fun k => ?_) ?_
    · simp only [spec_l1Crc.l0]; rw [if_pos (by omega), if_pos (by omega), ← btN_cast, show ((btN s i : Nat) : Int) % 4294967296 = (btN s i : Nat) by omega, xorN _ _ (crcAt_lt s i) (by omega)]; rfl
    · refine sCrc_in s i _ 8 0 _ rfl (xor_lt _ _ (crcAt_lt s i) (by omega)) ?_
      have := ih (i + 1) (by omega)
      rw [w64 (n := (i : Int) + 1) (by omega) (by omega)]
      exact this
theorem sCrc (s : ByteArray) (hs : s.size ≤ 4611686018427387904) : Ev (fun k => spec_l1Crc.f k s) (crcStr s) := by
  refine Ev.congr (fun k => ?_) (sCrc_out s hs s.size 0 (by omega))
  rfl
theorem evThen {α β : Type} {g : Nat → Option α} {h : Nat → Option β} {f : Nat → α → Option β} {a : α} {r : β} (e : Ev g a) (he : ∀ k, h k = (g k).bind (f k)) (k : Ev (fun n => f n a) r) : Ev h r := Ev.congr he (Ev.bind e k)
theorem evIs {α : Type} {g : Nat → Option α} {r : α} (h : ∀ k, g k = some r) : Ev g r := ⟨0, fun k _ => h k⟩
theorem sSealed (s : ByteArray) (hs : s.size ≤ 4611686018427387904) : Ev (fun k => spec_Sealed.f k s) (sealedP s) := by
  by_cases h : (s.size : Int) > 60
  · refine evIs fun k => ?_
    unfold spec_Sealed.f sealedP; rw [if_pos h, if_pos (by omega)]
  · have hz := pad_size s (by omega)
    have e : ∀ k, spec_Sealed.f k s = (spec_l1Crc.f k (pad s)).bind fun t => (if (pad s).size + t.size ≤ 9223372036854775807 then some (pad s ++ t) else none) := by
      intro k
      unfold spec_Sealed.f
      rw [if_neg h, w64 (by omega) (by omega), show (60 : Int) - (s.size : Int) = ((60 - s.size : Nat) : Int) by omega, sZeros _ (by omega)]
      simp only [Option.bind_some]
      rw [if_pos (by rw [zs_size]; omega)]; rfl
    refine evThen (sCrc (pad s) (by omega)) e (evIs fun k => ?_)
    rw [if_pos (by rw [hz, crcStr_size]; omega)]
    unfold sealedP; rw [if_neg (by omega)]
theorem sIn (a b c : Int) : spec_l1In.f a b c = some (decide (b ≤ a ∧ a ≤ c)) := by
  unfold spec_l1In.f
  by_cases h : a ≥ b
  · rw [if_pos h]; congr 1; rw [decide_eq_decide]; omega
  · rw [if_neg h]; congr 1; symm; rw [decide_eq_false_iff_not]; omega
def wbx (x : Int) : List Int := [x / 72057594037927936 % 256, x / 281474976710656 % 256, x / 1099511627776 % 256, x / 4294967296 % 256, x / 16777216 % 256, x / 65536 % 256, x / 256 % 256, x % 256]
def wb (a : Int) : ByteArray := strOfNums (wbx (a % 18446744073709551616))
theorem wb_size (a : Int) : (wb a).size = 8 := by rw [wb, strOfNums_size]; rfl
theorem strOfNums_toList (xs : List Int) : (strOfNums xs).toList = xs.map fun n => UInt8.ofNat n.toNat := by rw [ByteArray.toList_eq]; rfl
theorem bt_strOfNums (xs : List Int) (h : ∀ x ∈ xs, 0 ≤ x ∧ x ≤ 255) (i : Nat) (hi : i < xs.length) : bt (strOfNums xs) i = xs[i] := by
  have e := bt_at (strOfNums xs) i (by rw [strOfNums_size]; simpa using hi)
  rw [← e]
  have hx := h xs[i] (List.getElem_mem hi)
  simp only [strOfNums, ByteArray.getElem_eq_getElem_data]
  simp
  omega
theorem sWB (k : Nat) (a0 : Int) : spec_WordBytes.f (k + 9) a0 = some (wb a0) := by
  unfold spec_WordBytes.f
  simp (config := {maxSteps := 1000000}) [spec_WordBytes.l0, wrap64, u64, List.replicate, shr, IntKind.bits, wb, wbx]
theorem sWB_ev (a0 : Int) : Ev (fun k => spec_WordBytes.f k a0) (wb a0) := ⟨9, fun k hk => by
  obtain ⟨m, rfl⟩ : ∃ m, k = m + 9 := ⟨k - 9, by omega⟩
  exact sWB m a0⟩
/-- two bytes -/
def sb (n : Int) : ByteArray := if 0 ≤ n ∧ n ≤ 65535 then strOfNums [n / 256 % 256, n % 256] else (⟨#[]⟩ : ByteArray)
theorem cut6 (a b c d e f g h : Int) : (strOfNums [a, b, c, d, e, f, g, h]).extract 6 (strOfNums [a, b, c, d, e, f, g, h]).size = strOfNums [g, h] := by
  apply ByteArray.ext
  simp [strOfNums, ByteArray.size]
theorem or8 (a b : Int) (ha : 0 ≤ a) (ha1 : a ≤ 255) (hb : 0 ≤ b) (hb1 : b ≤ 255) : Go.bits .or .i64 (a * 256) b = a * 256 + b :=
  bits_join .i64 63 (by decide) (fun n h0 h1 => by rw [IntKind.wrap_i64]; omega) 8 _ _ (by omega) (by omega) (by omega) hb (by omega) (by omega)
theorem sSB (k : Nat) (n : Int) : spec_ShortBytes.f (k + 9) n = some (sb n) := by
  unfold spec_ShortBytes.f
  rw [sIn, sWB]; simp only [Option.bind_some, sb]
  by_cases h : 0 ≤ n ∧ n ≤ 65535
  · rw [if_pos (by simpa using h), if_pos h, if_pos (by rw [wb_size]; omega)]
    have e : n % 18446744073709551616 = n := by omega
    unfold wb; rw [e]; unfold wbx; rw [cut6]
  · rw [if_neg (by simpa using h), if_neg h]
theorem sSB_ev (n : Int) : Ev (fun k => spec_ShortBytes.f k n) (sb n) := ⟨9, fun k hk => by
  obtain ⟨m, rfl⟩ : ∃ m, k = m + 9 := ⟨k - 9, by omega⟩
  exact sSB m n⟩
theorem orNat (X b : Nat) (hb : b < 256) : (X * 256) ||| b = X * 256 + b := by
  have h := Nat.two_pow_add_eq_or_of_lt (i := 8) (b := b) (by omega) X
  rw [show 2 ^ 8 * X = X * 256 by omega] at h
  exact h.symm
theorem ofInt_toNat64 (z : Int) : (BitVec.ofInt 64 z).toNat = (z % 18446744073709551616).toNat := by
  rw [BitVec.toNat_ofInt]; rfl
theorem bitsOr (k : IntKind) (hk : k.bits = 64) (z w b : Int) (hz : z % 18446744073709551616 = (w * 256) % 18446744073709551616) (hb : 0 ≤ b) (hb1 : b ≤ 255) :
    Go.bits .or k z b = k.wrap ((w * 256) % 18446744073709551616 + b) := by
  unfold Go.bits
  rw [hk]
  simp only [BitVec.toNat_or, ofInt_toNat64, hz]
  have e : ((w * 256) % 18446744073709551616).toNat = (w % 72057594037927936).toNat * 256 := by omega
  have e2 : (b % 18446744073709551616).toNat = b.toNat := by omega
  rw [e, e2, orNat _ _ (by omega)]
  congr 1; omega
theorem orW (x b : Int) (hb : 0 ≤ b) (hb1 : b ≤ 255) : Go.bits .or .i64 (wrap64 (x * 256)) b = wrap64 (x * 256 + b) := by
  rw [bitsOr .i64 rfl _ x b (by unfold wrap64; omega) hb hb1, IntKind.wrap_i64]; unfold wrap64; omega
theorem orU (x b : Int) (hb : 0 ≤ b) (hb1 : b ≤ 255) : Go.bits .or .u64 ((x * 256) % 18446744073709551616) b = (x * 256 + b) % 18446744073709551616 := by
  rw [bitsOr .u64 rfl _ x b (by omega) hb hb1, u64]; omega
/-- the number that n bytes tell, the highest one first -/
def hn (s : ByteArray) (i : Int) : Nat → Int
  | 0 => 0
  | n + 1 => hn s i n * 256 + bt s (i + n)
def wordP (s : ByteArray) (i : Int) : Int := wrap64 (hn s i 8)
theorem ext_bt {s t : ByteArray} (h : s.size = t.size) (hb : ∀ i : Nat, i < s.size → bt s i = bt t i) : s = t := by
  apply ByteArray.ext
  apply Array.ext h
  intro i h1 h2
  have e := hb i h1
  rw [← bt_at s i (by simpa using h1), ← bt_at t i (by simpa using h2)] at e
  have e2 : (s[i]'h1).toNat = (t[i]'h2).toNat := by
    have : ((s[(i : Int).toNat]'(by simpa using h1)).toNat : Int) = ((t[(i : Int).toNat]'(by simpa using h2)).toNat : Int) := e
    simp only [Int.toNat_natCast] at this
    omega
  exact UInt8.toNat_inj.mp e2
theorem wbx_range (x : Int) : ∀ y ∈ wbx x, 0 ≤ y ∧ y ≤ 255 := by
  intro y hy
  simp [wbx] at hy
  omega
theorem bt_wb (a : Int) (i : Nat) (hi : i < 8) : bt (wb a) i = (wbx (a % 18446744073709551616))[i]'(by simpa [wbx] using hi) := bt_strOfNums _ (wbx_range _) i (by simpa [wbx] using hi)
theorem wordP_wb (a : Int) (h0 : -9223372036854775808 ≤ a) (h1 : a ≤ 9223372036854775807) : wordP (wb a) 0 = a := by
  have b0 : bt (wb a) (0 + ((0 : Nat) : Int)) = _ := bt_wb a 0 (by omega)
  have b1 : bt (wb a) (0 + ((1 : Nat) : Int)) = _ := bt_wb a 1 (by omega)
  have b2 : bt (wb a) (0 + ((2 : Nat) : Int)) = _ := bt_wb a 2 (by omega)
  have b3 : bt (wb a) (0 + ((3 : Nat) : Int)) = _ := bt_wb a 3 (by omega)
  have b4 : bt (wb a) (0 + ((4 : Nat) : Int)) = _ := bt_wb a 4 (by omega)
  have b5 : bt (wb a) (0 + ((5 : Nat) : Int)) = _ := bt_wb a 5 (by omega)
  have b6 : bt (wb a) (0 + ((6 : Nat) : Int)) = _ := bt_wb a 6 (by omega)
  have b7 : bt (wb a) (0 + ((7 : Nat) : Int)) = _ := bt_wb a 7 (by omega)
  unfold wordP
  simp only [hn]
  rw [b0, b1, b2, b3, b4, b5, b6, b7]
  simp only [wbx, List.getElem_cons_zero, List.getElem_cons_succ]
  unfold wrap64; omega
theorem wb_wordP (s : ByteArray) (h : s.size = 8) : wb (wordP s 0) = s := by
  refine ext_bt (by rw [wb_size, h]) (fun i hi => ?_)
  rw [wb_size] at hi
  rw [bt_wb _ i hi]
  have r0 := bt_range s 0
  have r1 := bt_range s 1
  have r2 := bt_range s 2
  have r3 := bt_range s 3
  have r4 := bt_range s 4
  have r5 := bt_range s 5
  have r6 := bt_range s 6
  have r7 := bt_range s 7
  have e : wordP s 0 % 18446744073709551616 = (((((((bt s 0 * 256 + bt s 1) * 256 + bt s 2) * 256 + bt s 3) * 256 + bt s 4) * 256 + bt s 5) * 256 + bt s 6) * 256 + bt s 7) := by
    unfold wordP
    simp only [hn]
    simp
    unfold wrap64; omega
  simp only [e]
  have : i = 0 ∨ i = 1 ∨ i = 2 ∨ i = 3 ∨ i = 4 ∨ i = 5 ∨ i = 6 ∨ i = 7 := by omega
  rcases this with rfl | rfl | rfl | rfl | rfl | rfl | rfl | rfl <;> simp only [wbx, List.getElem_cons_zero, List.getElem_cons_succ] <;> simp <;> omega
theorem rs_sb (n : Int) (h : 0 ≤ n ∧ n ≤ 65535) : (sb n).size = 2 ∧ bt (sb n) 0 * 256 + bt (sb n) 1 = n := by
  have hr : ∀ x ∈ ([n / 256 % 256, n % 256] : List Int), 0 ≤ x ∧ x ≤ 255 := by intro x hx; simp at hx; omega
  have e0 := bt_strOfNums _ hr 0 (by simp)
  have e1 := bt_strOfNums _ hr 1 (by simp)
  unfold sb; rw [if_pos h]
  refine ⟨by rw [strOfNums_size]; rfl, ?_⟩
  have e0' : bt (strOfNums [n / 256 % 256, n % 256]) 0 = n / 256 % 256 := e0
  have e1' : bt (strOfNums [n / 256 % 256, n % 256]) 1 = n % 256 := e1
  rw [e0', e1']; omega
theorem sb_rs (s : ByteArray) (h : s.size = 2) : sb (bt s 0 * 256 + bt s 1) = s := by
  have r0 := bt_range s 0
  have r1 := bt_range s 1
  unfold sb; rw [if_pos (by omega)]
  have hr : ∀ x ∈ ([(bt s 0 * 256 + bt s 1) / 256 % 256, (bt s 0 * 256 + bt s 1) % 256] : List Int), 0 ≤ x ∧ x ≤ 255 := by intro x hx; simp at hx; omega
  refine ext_bt (by rw [strOfNums_size, h]; rfl) (fun i hi => ?_)
  rw [strOfNums_size] at hi
  rw [bt_strOfNums _ hr i hi]
  have : i = 0 ∨ i = 1 := by simp at hi; omega
  rcases this with rfl | rfl <;> simp only [List.getElem_cons_zero, List.getElem_cons_succ] <;> simp <;> omega
theorem toList_inj {s t : ByteArray} : s.toList = t.toList ↔ s = t := by
  rw [ByteArray.toList_eq, ByteArray.toList_eq]
  exact ⟨fun h => ByteArray.ext (Array.toList_inj.mp h), fun h => by rw [h]⟩
theorem empty_toList : (⟨#[]⟩ : ByteArray).toList = [] := by rw [ByteArray.toList_eq]
theorem bt_extract (s : ByteArray) (a b : Nat) (i : Int) (h0 : 0 ≤ i) (hi : a + i < b) (hb : b ≤ s.size) : bt (s.extract a b) i = bt s (a + i) := by
  have h1 : i.toNat < (s.extract a b).size := by rw [ByteArray.size_extract]; omega
  have h2 : ((a : Int) + i).toNat < s.size := by omega
  rw [← bt_at _ i h1, ← bt_at s (a + i) h2]
  have e : ((a : Int) + i).toNat = a + i.toNat := by omega
  simp only [ByteArray.getElem_eq_getElem_data, ByteArray.data_extract, Array.getElem_extract, e]
theorem bt_append_l (s t : ByteArray) (i : Int) (h0 : 0 ≤ i) (hi : i < s.size) : bt (s ++ t) i = bt s i := by
  have h1 : i.toNat < (s ++ t).size := by rw [ByteArray.size_append]; omega
  have h2 : i.toNat < s.size := by omega
  rw [← bt_at _ i h1, ← bt_at s i h2]
  simp only [ByteArray.getElem_eq_getElem_data, ByteArray.data_append]
  rw [Array.getElem_append_left]
theorem bt_append_r (s t : ByteArray) (i : Int) (h0 : s.size ≤ i) (hi : i < s.size + t.size) : bt (s ++ t) i = bt t (i - s.size) := by
  have h1 : i.toNat < (s ++ t).size := by rw [ByteArray.size_append]; omega
  have h2 : (i - s.size).toNat < t.size := by omega
  rw [← bt_at _ i h1, ← bt_at t _ h2]
  have e : (i - (s.size : Int)).toNat = i.toNat - s.data.size := by show _ = i.toNat - s.size; omega
  simp only [ByteArray.getElem_eq_getElem_data, ByteArray.data_append, e]
  rw [Array.getElem_append_right (by show s.size ≤ _; omega)]
theorem hn_congr (s t : ByteArray) (i j : Int) : ∀ n : Nat, (∀ m : Nat, m < n → bt s (i + m) = bt t (j + m)) → hn s i n = hn t j n
  | 0, _ => rfl
  | n + 1, h => by rw [hn, hn, hn_congr s t i j n (fun m hm => h m (by omega)), h n (by omega)]
theorem wordP_congr (s t : ByteArray) (i j : Int) (h : ∀ m : Nat, m < 8 → bt s (i + m) = bt t (j + m)) : wordP s i = wordP t j := by
  unfold wordP; rw [hn_congr s t i j 8 h]
theorem wordP_extract (s : ByteArray) (a b : Nat) (i : Int) (h0 : 0 ≤ i) (hi : a + i + 8 ≤ b) (hb : b ≤ s.size) : wordP (s.extract a b) i = wordP s (a + i) :=
  wordP_congr _ _ _ _ (fun m hm => by rw [bt_extract s a b _ (by omega) (by omega) hb]; congr 1; omega)
theorem wordP_append_l (s t : ByteArray) (i : Int) (h0 : 0 ≤ i) (hi : i + 8 ≤ s.size) : wordP (s ++ t) i = wordP s i :=
  wordP_congr _ _ _ _ (fun m hm => bt_append_l s t _ (by omega) (by omega))
theorem extract_extract (s : ByteArray) (a b c d : Nat) (h : a + d ≤ b) : (s.extract a b).extract c d = s.extract (a + c) (a + d) := by
  apply ByteArray.ext
  simp only [ByteArray.data_extract, Array.extract_extract]
  congr 1; omega
theorem extract_append_l (s t : ByteArray) (b : Nat) (h : b ≤ s.size) : (s ++ t).extract 0 b = s.extract 0 b := by
  refine ext_bt (by rw [ByteArray.size_extract, ByteArray.size_extract, ByteArray.size_append]; omega) (fun i hi => ?_)
  rw [ByteArray.size_extract, ByteArray.size_append] at hi
  rw [bt_extract _ _ _ _ (by omega) (by omega) (by rw [ByteArray.size_append]; omega), bt_extract _ _ _ _ (by omega) (by omega) h, bt_append_l _ _ _ (by omega) (by omega)]
theorem extract_all (s : ByteArray) (b : Nat) (h : s.size ≤ b) : s.extract 0 b = s := by
  refine ext_bt (by rw [ByteArray.size_extract]; omega) (fun i hi => ?_)
  rw [ByteArray.size_extract] at hi
  apply congrFun (congrArg bt ?_)
  apply ByteArray.ext
  simp only [ByteArray.data_extract]
  exact Array.extract_eq_self_of_le (by show s.size ≤ b; exact h)
theorem extract_append_r (s t : ByteArray) (b : Nat) (h : s.size + t.size ≤ b) : (s ++ t).extract s.size b = t := by
  refine ext_bt (by rw [ByteArray.size_extract, ByteArray.size_append]; omega) (fun i hi => ?_)
  rw [ByteArray.size_extract, ByteArray.size_append] at hi
  have e : (s ++ t).extract s.size b = (s ++ t).extract s.size (s.size + t.size) := by
    apply ByteArray.ext
    simp only [ByteArray.data_extract]
    rw [Array.extract_eq_extract_right]
    have z : (s.data ++ t.data).size = s.size + t.size := by rw [Array.size_append]; rfl
    rw [← ByteArray.data_append] at z
    rw [z]; omega
  rw [e, bt_extract _ _ _ _ (by omega) (by omega) (by rw [ByteArray.size_append]; omega), bt_append_r _ _ _ (by omega) (by omega)]
  congr 1; omega
theorem extract_to (s : ByteArray) (a b : Nat) (h : s.size ≤ b) : s.extract a b = s.extract a s.size := by
  apply ByteArray.ext
  simp only [ByteArray.data_extract]
  rw [Array.extract_eq_extract_right]
  have z : s.data.size = s.size := rfl
  omega
/-- what is sealed, opened again -/
def unsP (s : ByteArray) : ByteArray × Bool := if s.size = 64 ∧ crcStr (s.extract 0 60) = s.extract 60 s.size then (s.extract 0 60, true) else ((⟨#[]⟩ : ByteArray), false)
theorem sealed_head (t : ByteArray) (h : t.size ≤ 60) : (sealedP t).extract 0 60 = pad t := by
  unfold sealedP; rw [if_neg (by omega), extract_append_l _ _ _ (by rw [pad_size t h]; omega), extract_all _ _ (by rw [pad_size t h]; omega)]
theorem sealed_tail (t : ByteArray) (h : t.size ≤ 60) : (sealedP t).extract 60 (sealedP t).size = crcStr (pad t) := by
  rw [sealedP_size t h]
  unfold sealedP; rw [if_neg (by omega)]
  have e := extract_append_r (pad t) (crcStr (pad t)) 64 (by rw [pad_size t h, crcStr_size]; omega)
  rw [pad_size t h] at e; exact e
theorem uns_sealed (t : ByteArray) (h : t.size ≤ 60) : unsP (sealedP t) = (pad t, true) := by
  unfold unsP; rw [sealed_head t h, sealed_tail t h, if_pos ⟨sealedP_size t h, rfl⟩]
theorem pad_head (t : ByteArray) (a b : Nat) (h : b ≤ t.size) : (pad t).extract a b = t.extract a b := by
  by_cases hab : a ≤ b
  · refine ext_bt (by rw [ByteArray.size_extract, ByteArray.size_extract, pad, ByteArray.size_append]; omega) (fun i hi => ?_)
    rw [ByteArray.size_extract, pad, ByteArray.size_append] at hi
    rw [bt_extract _ _ _ _ (by omega) (by omega) (by rw [pad, ByteArray.size_append]; omega), bt_extract _ _ _ _ (by omega) (by omega) h]
    unfold pad; rw [bt_append_l _ _ _ (by omega) (by omega)]
  · refine ext_bt (by rw [ByteArray.size_extract, ByteArray.size_extract]; omega) (fun i hi => ?_)
    rw [ByteArray.size_extract] at hi; omega
/-- a sealed string that tells what it seals -/
theorem sealed_inj {s t : ByteArray} (hs : s.size ≤ 60) (ht : t.size ≤ 60) (h : sealedP s = sealedP t) : pad s = pad t := by
  rw [← sealed_head s hs, ← sealed_head t ht, h]
def recBody (e q h : Int) (o : ByteArray) : ByteArray := ((((⟨#[85]⟩ : ByteArray) ++ strOfNums [q % 256]) ++ sb h) ++ wb e) ++ o
theorem one_size (x : Int) : (strOfNums [x]).size = 1 := by rw [strOfNums_size]; rfl
theorem lit1_size (x : UInt8) : (⟨#[x]⟩ : ByteArray).size = 1 := rfl
theorem recBody_size (e q h : Int) (o : ByteArray) (hh : 0 ≤ h ∧ h ≤ 65535) : (recBody e q h o).size = 12 + o.size := by
  simp only [recBody, ByteArray.size_append, lit1_size, one_size, (rs_sb h hh).1, wb_size]
def recLineP (e q h : Int) (o : ByteArray) : ByteArray := if (0 ≤ e ∧ e ≤ 999999999) ∧ (0 ≤ q ∧ q ≤ 31) ∧ (0 ≤ h ∧ h ≤ 255) ∧ o.size = 32 then sealedP (recBody e q h o) else (⟨#[]⟩ : ByteArray)
theorem recLineP_size (e q h : Int) (o : ByteArray) (c : (0 ≤ e ∧ e ≤ 999999999) ∧ (0 ≤ q ∧ q ≤ 31) ∧ (0 ≤ h ∧ h ≤ 255) ∧ o.size = 32) : (recLineP e q h o).size = 64 := by
  unfold recLineP; rw [if_pos c]; exact sealedP_size _ (by rw [recBody_size _ _ _ _ (by omega)]; omega)
def readRecP (s : ByteArray) : Int × Int × Int × ByteArray × Bool := if s.size = 64 ∧ recLineP (wordP s 4) (bt s 1) (bt s 2 * 256 + bt s 3) (s.extract 12 44) = s then (wordP s 4, bt s 1, bt s 2 * 256 + bt s 3, s.extract 12 44, true) else (0, 0, 0, (⟨#[]⟩ : ByteArray), false)
theorem bt_ext0 (s : ByteArray) (a b : Nat) (i : Nat) (h : a + i < b) (hb : b ≤ s.size) : bt (s.extract a b) i = bt s ((a + i : Nat) : Int) := by
  rw [bt_extract s a b i (by omega) (by omega) hb]; congr 1
theorem sRLj (e q h : Int) (o : ByteArray) (hh : 0 ≤ h ∧ h ≤ 255) (ho : o.size = 32) : Ev (fun k => spec_RecordLine.j0 k false e q h o) (sealedP (recBody e q h o)) := by
  have z1 := one_size (q % 256)
  have z2 := (rs_sb h ⟨hh.1, by omega⟩).1
  have z3 := wb_size e
  have z4 := recBody_size e q h o (by omega)
  refine Ev.step (f := fun k => _) (fun k => by simp (implicitDefEqProofs := false) only [spec_RecordLine.j0, Bool.false_eq_true, if_false, Option.bind_some]; rfl) ?_
  simp only [if_pos (show 1 + (strOfNums [q % 256]).size ≤ 9223372036854775807 by omega)]
  refine evThen (sSB_ev h) (fun k => rfl) ?_
  simp only [if_pos (show ((⟨#[85]⟩ : ByteArray) ++ strOfNums [q % 256]).size + (sb h).size ≤ 9223372036854775807 by rw [ByteArray.size_append, lit1_size]; omega)]
  refine evThen (sWB_ev e) (fun k => rfl) ?_
  simp only [if_pos (show (((⟨#[85]⟩ : ByteArray) ++ strOfNums [q % 256]) ++ sb h).size + (wb e).size ≤ 9223372036854775807 by rw [ByteArray.size_append, ByteArray.size_append, lit1_size]; omega), if_pos (show ((((⟨#[85]⟩ : ByteArray) ++ strOfNums [q % 256]) ++ sb h) ++ wb e).size + o.size ≤ 9223372036854775807 by rw [ByteArray.size_append, ByteArray.size_append, ByteArray.size_append, lit1_size]; omega)]
  exact evThen (sSealed (recBody e q h o) (by omega)) (f := fun _ t => some t) (fun k => rfl) (Ev.now _)
theorem sRLt (e q h : Int) (o : ByteArray) : Ev (fun k => spec_RecordLine.j0 k true e q h o) (⟨#[]⟩ : ByteArray) :=
  Ev.step (f := fun _ => some _) (fun k => by simp only [spec_RecordLine.j0, if_true]) (Ev.now _)
theorem sRL (e q h : Int) (o : ByteArray) : Ev (fun k => spec_RecordLine.f k e q h o) (recLineP e q h o) := by
  unfold spec_RecordLine.f recLineP
  simp only [sIn, Option.bind_some]
  by_cases c1 : 0 ≤ e ∧ e ≤ 999999999
  · simp only [show decide (0 ≤ e ∧ e ≤ 999999999) = true by simpa using c1, if_true]
    by_cases c2 : 0 ≤ q ∧ q ≤ 31
    · simp only [show decide (0 ≤ q ∧ q ≤ 31) = true by simpa using c2, if_true]
      by_cases c3 : 0 ≤ h ∧ h ≤ 255
      · simp only [show decide (0 ≤ h ∧ h ≤ 255) = true by simpa using c3, if_true]
        by_cases c4 : o.size = 32
        · rw [if_pos ⟨c1, c2, c3, c4⟩]
          simp only [show ((o.size : Int) != 32) = false by simp; omega]
          exact sRLj e q h o c3 c4
        · rw [if_neg (fun z => c4 z.2.2.2)]
          simp only [show ((o.size : Int) != 32) = true by simp; omega]
          exact sRLt e q h o
      · rw [if_neg (fun z => c3 z.2.2.1)]
        simp only [show decide (0 ≤ h ∧ h ≤ 255) = false by simpa using c3, Bool.false_eq_true, if_false]
        exact sRLt e q h o
    · rw [if_neg (fun z => c2 z.2.1)]
      simp only [show decide (0 ≤ q ∧ q ≤ 31) = false by simpa using c2, Bool.false_eq_true, if_false]
      exact sRLt e q h o
  · rw [if_neg (fun z => c1 z.1)]
    simp only [show decide (0 ≤ e ∧ e ≤ 999999999) = false by simpa using c1, Bool.false_eq_true, if_false]
    exact sRLt e q h o
theorem iZeros (n : Nat) (h : n ≤ 140737488355328) : impl_zeros.f (n : Int) = some (zs n) := by
  unfold impl_zeros.f; rw [if_pos (by omega), if_pos (by omega)]; rfl
theorem iBB4 (k : Nat) (x : Int) : impl_bigBytes.f (k + 5) x 4 = some (strOfNums (four x)) := by
  unfold impl_bigBytes.f
  simp (config := {maxSteps := 1000000}) [impl_bigBytes.l0, wrap64, List.replicate, four, Int.ediv_ediv]
theorem iBB8 (k : Nat) (x : Int) : impl_bigBytes.f (k + 9) x 8 = some (strOfNums (wbx x)) := by
  unfold impl_bigBytes.f
  simp (config := {maxSteps := 1000000}) [impl_bigBytes.l0, wrap64, List.replicate, wbx, Int.ediv_ediv]
theorem iCrc_in (s : ByteArray) (x10 x11 : Int) (r : ByteArray) : ∀ (d j c : Nat), j + d = 8 → c < 4294967296 → Ev (fun k => impl_Crc.l0 k s (crcBits d c : Nat) x10 (wrap64 (x11 + 1))) r → Ev (fun k => impl_Crc.l1 k s (c : Nat) x10 x11 j) r := by
  intro d
  induction d with
  | zero =>
    intro j c hj hc h
    refine Ev.step (f := fun k => impl_Crc.l0 k s (c : Nat) x10 (wrap64 (x11 + 1))) (fun k => ?_) h
    simp only [impl_Crc.l1]; rw [if_neg (by omega)]
  | succ d ih =>
    intro j c hj hc h
    refine Ev.step (f := fun k => impl_Crc.l1 k s (crcBit c : Nat) x10 x11 ((j + 1 : Nat) : Int)) (fun k => ?_) (ih (j + 1) (crcBit c) (by omega) (crcBit_lt hc) h)
    simp only [impl_Crc.l1]; rw [if_pos (by omega), w64 (n := (j : Int) + 1) (by omega) (by omega), and1 c hc]
    have e2 : ((c : Int) / 2) = ((c / 2 : Nat) : Int) := by omega
    rw [e2]
    unfold crcBit
    by_cases h1 : c % 2 = 1
    · rw [if_pos (by omega), if_pos h1, show (3988292384 : Int) = ((3988292384 : Nat) : Int) from rfl, xorN _ _ (by omega) (by omega)]; rfl
    · rw [if_neg (by omega), if_neg h1]; rfl
theorem iCrc_out (s : ByteArray) (hs : s.size ≤ 4611686018427387904) : ∀ (d i : Nat), i + d = s.size → Ev (fun k => impl_Crc.l0 k s (crcAt s i : Nat) s.size i) (crcStr s) := by
  intro d
  induction d with
  | zero =>
    intro i hi
    obtain rfl : i = s.size := by omega
    refine Ev.step (f := fun k => (impl_bigBytes.f k (crcNum s : Nat) 4).bind fun t => some t) (fun k => ?_) ?_
    · simp only [impl_Crc.l0]; rw [if_neg (by omega), show (4294967295 : Int) = ((4294967295 : Nat) : Int) from rfl, xorN _ _ (by omega) (crcAt_lt s _), u64]
      have := crcNum_lt s
      rw [show ((4294967295 ^^^ crcAt s s.size : Nat) : Int) % 18446744073709551616 = (crcNum s : Nat) by unfold crcNum at *; omega]
    · refine ⟨5, fun k hk => ?_⟩
      obtain ⟨m, rfl⟩ : ∃ m, k = m + 5 := ⟨k - 5, by omega⟩
      show (impl_bigBytes.f (m + 5) (crcNum s : Nat) 4).bind _ = _
      rw [iBB4]; rfl
  | succ d ih =>
    intro i hi
    have hb := btN_le s i
    refine Ev.step (f := fun k => impl_Crc.l1 k s ((crcAt s i ^^^ btN s i : Nat) : Int) s.size i ((0 : Nat) : Int)) (fun k => ?_) ?_
    · simp only [impl_Crc.l0]; rw [if_pos (by omega), if_pos (by omega), if_pos (by omega), ← btN_cast, show ((btN s i : Nat) : Int) % 4294967296 = (btN s i : Nat) by omega, xorN _ _ (crcAt_lt s i) (by omega)]; rfl
    · refine iCrc_in s s.size i _ 8 0 _ rfl (xor_lt _ _ (crcAt_lt s i) (by omega)) ?_
      have := ih (i + 1) (by omega)
      rw [w64 (n := (i : Int) + 1) (by omega) (by omega)]
      exact this
theorem iCrc (s : ByteArray) (hs : s.size ≤ 20000) : Ev (fun k => impl_Crc.f k s) (crcStr s) := by
  refine Ev.congr (fun k => ?_) (iCrc_out s (by omega) s.size 0 (by omega))
  unfold impl_Crc.f; rw [if_neg (by omega)]; rfl
theorem iSealed (s : ByteArray) (hs : s.size ≤ 4611686018427387904) : Ev (fun k => impl_Sealed.f k s) (sealedP s) := by
  by_cases h : (s.size : Int) > 60
  · refine evIs fun k => ?_
    unfold impl_Sealed.f sealedP; rw [if_pos h, if_pos (by omega)]
  · have hz := pad_size s (by omega)
    have e : ∀ k, impl_Sealed.f k s = (impl_Crc.f k (pad s)).bind fun t => (if (pad s).size + t.size ≤ 9223372036854775807 then some (pad s ++ t) else none) := by
      intro k
      unfold impl_Sealed.f
      rw [if_neg h, w64 (by omega) (by omega), show (60 : Int) - (s.size : Int) = ((60 - s.size : Nat) : Int) by omega, iZeros _ (by omega)]
      simp only [Option.bind_some]
      rw [if_pos (by rw [zs_size]; omega)]; rfl
    refine evThen (iCrc (pad s) (by omega)) e (evIs fun k => ?_)
    rw [if_pos (by rw [hz, crcStr_size]; omega)]
    unfold sealedP; rw [if_neg (by omega)]
theorem iIn (a b c : Int) : impl_within.f a b c = some (decide (b ≤ a ∧ a ≤ c)) := by
  unfold impl_within.f
  by_cases h : a ≥ b
  · rw [if_pos h]; congr 1; rw [decide_eq_decide]; omega
  · rw [if_neg h]; congr 1; symm; rw [decide_eq_false_iff_not]; omega
theorem iWB (k : Nat) (a0 : Int) : impl_WordBytes.f (k + 9) a0 = some (wb a0) := by
  unfold impl_WordBytes.f
  rw [iBB8]; simp [u64, wb]
theorem iWB_ev (a0 : Int) : Ev (fun k => impl_WordBytes.f k a0) (wb a0) := ⟨9, fun k hk => by
  obtain ⟨m, rfl⟩ : ∃ m, k = m + 9 := ⟨k - 9, by omega⟩
  exact iWB m a0⟩
theorem iSB (n : Int) : impl_ShortBytes.f n = some (sb n) := by
  unfold impl_ShortBytes.f
  rw [iIn]; simp only [Option.bind_some, sb]
  by_cases h : 0 ≤ n ∧ n ≤ 65535
  · rw [if_pos (by simpa using h), if_pos h]
  · rw [if_neg (by simpa using h), if_neg h]
theorem iRLj (e q h : Int) (o : ByteArray) (hh : 0 ≤ h ∧ h ≤ 255) (ho : o.size = 32) : Ev (fun k => impl_RecordLine.j0 k false e q h o) (sealedP (recBody e q h o)) := by
  have z1 := one_size (q % 256)
  have z2 := (rs_sb h ⟨hh.1, by omega⟩).1
  have z3 := wb_size e
  have z4 := recBody_size e q h o (by omega)
  refine Ev.step (f := fun k => _) (fun k => by simp (implicitDefEqProofs := false) only [impl_RecordLine.j0, Bool.false_eq_true, if_false, Option.bind_some]; rfl) ?_
  simp only [if_pos (show 1 + (strOfNums [q % 256]).size ≤ 9223372036854775807 by omega)]
  simp only [iSB, Option.bind_some]
  simp only [if_pos (show ((⟨#[85]⟩ : ByteArray) ++ strOfNums [q % 256]).size + (sb h).size ≤ 9223372036854775807 by rw [ByteArray.size_append, lit1_size]; omega)]
  refine evThen (iWB_ev e) (fun k => rfl) ?_
  simp only [if_pos (show (((⟨#[85]⟩ : ByteArray) ++ strOfNums [q % 256]) ++ sb h).size + (wb e).size ≤ 9223372036854775807 by rw [ByteArray.size_append, ByteArray.size_append, lit1_size]; omega), if_pos (show ((((⟨#[85]⟩ : ByteArray) ++ strOfNums [q % 256]) ++ sb h) ++ wb e).size + o.size ≤ 9223372036854775807 by rw [ByteArray.size_append, ByteArray.size_append, ByteArray.size_append, lit1_size]; omega)]
  exact evThen (iSealed (recBody e q h o) (by omega)) (f := fun _ t => some t) (fun k => rfl) (Ev.now _)
theorem iRLt (e q h : Int) (o : ByteArray) : Ev (fun k => impl_RecordLine.j0 k true e q h o) (⟨#[]⟩ : ByteArray) :=
  Ev.step (f := fun _ => some _) (fun k => by simp only [impl_RecordLine.j0, if_true]) (Ev.now _)
theorem iRL (e q h : Int) (o : ByteArray) : Ev (fun k => impl_RecordLine.f k e q h o) (recLineP e q h o) := by
  unfold impl_RecordLine.f recLineP
  simp only [iIn, Option.bind_some]
  by_cases c1 : 0 ≤ e ∧ e ≤ 999999999
  · simp only [show decide (0 ≤ e ∧ e ≤ 999999999) = true by simpa using c1, if_true]
    by_cases c2 : 0 ≤ q ∧ q ≤ 31
    · simp only [show decide (0 ≤ q ∧ q ≤ 31) = true by simpa using c2, if_true]
      by_cases c3 : 0 ≤ h ∧ h ≤ 255
      · simp only [show decide (0 ≤ h ∧ h ≤ 255) = true by simpa using c3, if_true]
        by_cases c4 : o.size = 32
        · rw [if_pos ⟨c1, c2, c3, c4⟩]
          simp only [show ((o.size : Int) != 32) = false by simp; omega]
          exact iRLj e q h o c3 c4
        · rw [if_neg (fun z => c4 z.2.2.2)]
          simp only [show ((o.size : Int) != 32) = true by simp; omega]
          exact iRLt e q h o
      · rw [if_neg (fun z => c3 z.2.2.1)]
        simp only [show decide (0 ≤ h ∧ h ≤ 255) = false by simpa using c3, Bool.false_eq_true, if_false]
        exact iRLt e q h o
    · rw [if_neg (fun z => c2 z.2.1)]
      simp only [show decide (0 ≤ q ∧ q ≤ 31) = false by simpa using c2, Bool.false_eq_true, if_false]
      exact iRLt e q h o
  · rw [if_neg (fun z => c1 z.1)]
    simp only [show decide (0 ≤ e ∧ e ≤ 999999999) = false by simpa using c1, Bool.false_eq_true, if_false]
    exact iRLt e q h o
theorem FnExactRecordLine (e q n : Int) (o : ByteArray) : ∃ k, laws_FnExactRecordLine.f k e q n o = some true := by
  refine Ev.rounds (r := true) ?_
  unfold laws_FnExactRecordLine.f laws_szRecord.f laws_toRecord.f
  by_cases c : wrap64 (1048576 - (o.size : Int)) < 0
  · simp only [if_pos c, Option.bind_some, if_pos (show (-1 : Int) < 0 by decide)]; exact Ev.now _
  · simp only [if_neg c, Option.bind_some]
    exact evThen (sRL e q n o) (fun k => rfl) (evThen (iRL e q n o) (fun k => rfl) (evIs fun k => by rw [if_pos rfl]))
end Go.Proofs.Ytfcnangllgaliaa.Pure
