/- A sealed string is recovered with its zero bytes, and is rejected if a byte is changed: FnSealed returns true for all arguments; no condition. -/
import Derived.Test.YtbbbajnnoficbaaPFnSealedx0
import Derived.Test.YtbbbajnnoficbaaPFnSealedx1
import Derived.Test.YtbbbajnnoficbaaPFnSealedx2
namespace Go.Proofs.Ytbbbajnnoficbaa.Pure
open Go.RowKit Go.Proofs.Ytbbbajnnoficbaa.PFnSealed Go.Proofs.YtbbbajnnoficbaaW.PrintWords Go.Proofs.YtbbbajnnoficbaaW.PrintLast
set_option linter.unusedVariables false
set_option linter.unusedSimpArgs false
theorem w64 {n : Int} (h0 : -9223372036854775808 ≤ n) (h1 : n ≤ 9223372036854775807) : wrap64 n = n := by unfold wrap64; omega
theorem u64 (n : Int) : IntKind.u64.wrap n = n % 18446744073709551616 := by simp [IntKind.wrap, IntKind.bits, IntKind.signed]
/-- a reader of drawn bytes that is in order -/
def RdOk (l : List Int) (p : Int) : Prop := 0 ≤ p ∧ p ≤ (l.length : Int) ∧ (l.length : Int) ≤ 140737488351232 ∧ ∀ x ∈ l, 0 ≤ x ∧ x ≤ 255
theorem RdOk.start {l : List Int} (h1 : l.length * 1 ≤ 140737488351232) (h2 : ∀ x ∈ l, (Lit.int .u8 x).wf = true) : RdOk l 0 :=
  ⟨by omega, by omega, by omega, fun x hx => by
    have := h2 x hx
    simp [Lit.wf, IntKind.min, IntKind.max, IntKind.bits, IntKind.signed] at this
    omega⟩
theorem rd_mem {l : List Int} {i : Int} (h0 : 0 ≤ i) (h1 : i < (l.length : Int)) : rd l i ∈ l := by
  unfold rd
  rw [List.getD_eq_getElem?_getD, List.getElem?_eq_getElem (by omega : i.toNat < l.length)]
  exact List.getElem_mem _
theorem next_ok {l : List Int} {p : Int} (h : RdOk l p) : ∃ v p', spec_l1Rd_next.f l p = some (v, p') ∧ 0 ≤ v ∧ v ≤ 255 ∧ RdOk l p' := by
  obtain ⟨h0, h1, h2, h3⟩ := h
  unfold spec_l1Rd_next.f
  by_cases c : p ≥ (l.length : Int)
  · exact ⟨0, p, by rw [if_pos c], by omega, by omega, h0, h1, h2, h3⟩
  · have hm := h3 _ (rd_mem h0 (by omega : p < (l.length : Int)))
    refine ⟨rd l p, p + 1, ?_, hm.1, hm.2, by omega, by omega, h2, h3⟩
    rw [if_neg c, w64 (n := p + 1) (by omega) (by omega), w64 (n := p + 1 - 1) (by omega) (by omega), if_pos (by omega), if_pos (by omega), show p + 1 - 1 = p by omega, w64 (by omega) (by omega)]
theorem below_ok {l : List Int} {p : Int} (h : RdOk l p) (n : Int) : ∃ v p', spec_l1Rd_below.f l p n = some (v, p') ∧ 0 ≤ v ∧ (n ≤ 1 → v = 0) ∧ (1 < n → v < n) ∧ RdOk l p' := by
  unfold spec_l1Rd_below.f
  by_cases c : n ≤ 1
  · exact ⟨0, p, by rw [if_pos c], by omega, fun _ => rfl, fun _ => by omega, h⟩
  · rw [if_neg c]
    by_cases c2 : n ≤ 256
    · obtain ⟨v, p1, e, v0, v1, h'⟩ := next_ok h
      refine ⟨Int.tmod v n, p1, by rw [if_pos c2, e]; simp only [Option.bind_some]; rw [if_neg (by omega)], ?_, by omega, fun _ => ?_, h'⟩
      · rw [Int.tmod_eq_emod_of_nonneg v0]; exact Int.emod_nonneg _ (by omega)
      · rw [Int.tmod_eq_emod_of_nonneg v0]; exact Int.emod_lt_of_pos _ (by omega)
    · obtain ⟨v, p1, e, v0, v1, h'⟩ := next_ok h
      obtain ⟨u, p2, e2, u0, u1, h2⟩ := next_ok h'
      have e3 : wrap64 (wrap64 (v * 256) + u) = v * 256 + u := by rw [w64 (n := v * 256) (by omega) (by omega), w64 (by omega) (by omega)]
      refine ⟨Int.tmod (v * 256 + u) n, p2, by rw [if_neg c2, e]; simp only [Option.bind_some]; rw [e2]; simp only [Option.bind_some]; rw [if_neg (by omega), e3], ?_, by omega, fun _ => ?_, h2⟩
      · rw [Int.tmod_eq_emod_of_nonneg (by omega)]; exact Int.emod_nonneg _ (by omega)
      · rw [Int.tmod_eq_emod_of_nonneg (by omega)]; exact Int.emod_lt_of_pos _ (by omega)
theorem bytes_in {l : List Int} : ∀ (d : Nat) (xs : List Int) (p : Int), xs.length + d ≤ 1000000 → RdOk l p → ∃ s p', Ev (fun k => spec_l1Rd_bytes.l0 k xs d l p) (s, p') ∧ s.size = xs.length + d ∧ RdOk l p' := by
  intro d
  induction d with
  | zero =>
    intro xs p hx h
    exact ⟨strOfNums xs, p, Ev.step (f := fun _ => some (strOfNums xs, p)) (fun k => by simp only [spec_l1Rd_bytes.l0]; rw [if_neg (by omega)]) (Ev.now _), by rw [strOfNums_size]; omega, h⟩
  | succ d ih =>
    intro xs p hx h
    obtain ⟨v, p1, e, v0, _, v1, h1⟩ := below_ok h 256
    obtain ⟨s, p2, e2, hs, h2⟩ := ih (xs ++ [v % 256]) p1 (by simp; omega) h1
    refine ⟨s, p2, Ev.step (fun k => ?_) e2, by rw [hs]; simp; omega, h2⟩
    simp only [spec_l1Rd_bytes.l0]; rw [if_pos (by omega), e]; simp only [Option.bind_some]; rw [if_pos (by omega), w64 (by omega) (by omega), show ((d + 1 : Nat) : Int) - 1 = (d : Int) by omega]
theorem bytes_ok {l : List Int} {p : Int} (h : RdOk l p) (m : Int) (h0 : 0 ≤ m) (h1 : m ≤ 100000) : ∃ s p', Ev (fun k => spec_l1Rd_bytes.f k l p m) (s, p') ∧ (s.size : Int) ≤ m ∧ RdOk l p' := by
  unfold spec_l1Rd_bytes.f
  rw [w64 (n := m + 1) (by omega) (by omega)]
  obtain ⟨v, p1, e, v0, va, vb, h'⟩ := below_ok h (m + 1)
  have hv : v ≤ m := by
    by_cases c : 1 < m + 1
    · have := vb c; omega
    · have := va (by omega); omega
  obtain ⟨s, p2, e2, hs, h2⟩ := bytes_in v.toNat [] p1 (by simp; omega) h'
  refine ⟨s, p2, ?_, by rw [hs]; simp; omega, h2⟩
  rw [e]; simp only [Option.bind_some]
  rw [show ((v.toNat : Nat) : Int) = v by omega] at e2
  exact e2
theorem once_ok {l : List Int} {p : Int} (h : RdOk l p) (n : Int) : ∃ b p', spec_l1Rd_once.f l p n = some (b, p') ∧ RdOk l p' := by
  obtain ⟨v, p1, e, _, _, _, h'⟩ := below_ok h n
  exact ⟨_, p1, by unfold spec_l1Rd_once.f; rw [e]; rfl, h'⟩
theorem xorN (a b : Nat) (ha : a < 4294967296) (hb : b < 4294967296) : Go.bits .xor .u32 (a : Int) (b : Int) = ((a ^^^ b : Nat) : Int) := by
  have hx : a ^^^ b < 2 ^ 32 := Nat.xor_lt_two_pow (by omega) (by omega)
  show IntKind.u32.wrap (((BitVec.ofInt 32 (a : Int) ^^^ BitVec.ofInt 32 (b : Int)).toNat : Nat) : Int) = _
  rw [BitVec.toNat_xor, BitVec.ofInt_natCast, BitVec.ofInt_natCast, BitVec.toNat_ofNat, BitVec.toNat_ofNat, Nat.mod_eq_of_lt (by omega : a < 2 ^ 32), Nat.mod_eq_of_lt (by omega : b < 2 ^ 32), IntKind.wrap_u32]
  omega
theorem xor_lt (a b : Nat) (ha : a < 4294967296) (hb : b < 4294967296) : a ^^^ b < 4294967296 := Nat.xor_lt_two_pow (n := 32) (by omega) (by omega)
theorem and1 (c : Nat) (h : c < 4294967296) : Go.bits .and .u32 (c : Int) 1 = ((c % 2 : Nat) : Int) := by
  have e := bits_mask .u32 32 (by decide) (fun n h0 h1 => by rw [IntKind.wrap_u32]; omega) 1 (by decide) (c : Int) (by omega) (by omega)
  simpa using e
/-- one bit of the checksum -/
def crcBit (c : Nat) : Nat := if c % 2 = 1 then (c / 2) ^^^ 3988292384 else c / 2
def crcBits : Nat → Nat → Nat
  | 0, c => c
  | n + 1, c => crcBits n (crcBit c)
theorem crcBit_lt {c : Nat} (h : c < 4294967296) : crcBit c < 4294967296 := by
  unfold crcBit; split
  · exact xor_lt _ _ (by omega) (by omega)
  · omega
theorem crcBits_lt : ∀ (n : Nat) {c : Nat}, c < 4294967296 → crcBits n c < 4294967296
  | 0, _, h => h
  | n + 1, _, h => crcBits_lt n (crcBit_lt h)
/-- a byte, as a number -/
def btN (s : ByteArray) (i : Nat) : Nat := (bt s i).toNat
theorem btN_le (s : ByteArray) (i : Nat) : btN s i ≤ 255 := by have := bt_range s i; unfold btN; omega
theorem btN_cast (s : ByteArray) (i : Nat) : ((btN s i : Nat) : Int) = bt s i := by have := bt_range s i; unfold btN; omega
/-- the state behind the first n bytes -/
def crcAt (s : ByteArray) : Nat → Nat
  | 0 => 4294967295
  | n + 1 => crcBits 8 (crcAt s n ^^^ btN s n)
theorem crcAt_lt (s : ByteArray) : ∀ n, crcAt s n < 4294967296
  | 0 => by show 4294967295 < 4294967296; omega
  | n + 1 => crcBits_lt 8 (xor_lt _ _ (crcAt_lt s n) (by have := btN_le s n; omega))
def crcNum (s : ByteArray) : Nat := 4294967295 ^^^ crcAt s s.size
theorem crcNum_lt (s : ByteArray) : crcNum s < 4294967296 := xor_lt _ _ (by omega) (crcAt_lt s _)
def four (x : Int) : List Int := [x / 16777216 % 256, x / 65536 % 256, x / 256 % 256, x % 256]
def crcStr (s : ByteArray) : ByteArray := strOfNums (four (crcNum s))
theorem crcStr_size (s : ByteArray) : (crcStr s).size = 4 := by rw [crcStr, strOfNums_size]; rfl
/-- so many zero bytes -/
def zs (n : Nat) : ByteArray := strOfNums (List.replicate n 0)
theorem zs_size (n : Nat) : (zs n).size = n := by rw [zs, strOfNums_size]; simp
/-- what a string is sealed as -/
def pad (s : ByteArray) : ByteArray := s ++ zs (60 - s.size)
theorem pad_size (s : ByteArray) (h : s.size ≤ 60) : (pad s).size = 60 := by rw [pad, ByteArray.size_append, zs_size]; omega
def sealedP (s : ByteArray) : ByteArray := if 60 < s.size then (⟨#[]⟩ : ByteArray) else pad s ++ crcStr (pad s)
theorem sealedP_size (s : ByteArray) (h : s.size ≤ 60) : (sealedP s).size = 64 := by
  unfold sealedP; rw [if_neg (by omega), ByteArray.size_append, pad_size s h, crcStr_size]
theorem sZeros (n : Nat) (h : n ≤ 281474976710656) : spec_l1Zeros.f (n : Int) = some (zs n) := by
  unfold spec_l1Zeros.f; rw [if_pos (by omega), if_pos (by omega)]; rfl
theorem iZeros (n : Nat) (h : n ≤ 140737488355328) : impl_zeros.f (n : Int) = some (zs n) := by
  unfold impl_zeros.f; rw [if_pos (by omega), if_pos (by omega)]; rfl
theorem bt_strOfNums (xs : List Int) (h : ∀ x ∈ xs, 0 ≤ x ∧ x ≤ 255) (i : Nat) (hi : i < xs.length) : bt (strOfNums xs) i = xs[i] := by
  have e := bt_at (strOfNums xs) i (by rw [strOfNums_size]; simpa using hi)
  rw [← e]
  have hx := h xs[i] (List.getElem_mem hi)
  simp only [strOfNums, ByteArray.getElem_eq_getElem_data]
  simp
  omega
theorem iBB4 (k : Nat) (x : Int) : impl_bigBytes.f (k + 5) x 4 = some (strOfNums (four x)) := by
  unfold impl_bigBytes.f
  simp (config := {maxSteps := 1000000}) [impl_bigBytes.l0, wrap64, List.replicate, four, Int.ediv_ediv]
theorem iCrc_in (s : ByteArray) (x10 x11 : Int) (r : ByteArray) : ∀ (d j c : Nat), j + d = 8 → c < 4294967296 → Ev (fun k => impl_Crc.l0 k s (crcBits d c : Nat) x10 (wrap64 (x11 + 1))) r → Ev (fun k => impl_Crc.l1 k s (c : Nat) x10 x11 j) r := by
  intro d
  induction d with
  | zero =>
    intro j c hj hc h
    refine Ev.step (f := fun k => impl_Crc.l0 k s (c : Nat) x10 (wrap64 (x11 + 1))) (fun k => ?_) h
    simp only [impl_Crc.l1]; rw [if_neg (by omega)]
  | succ d ih =>
    intro j c hj hc h
    refine Ev.step (f := fun k => impl_Crc.l1 k s (crcBit c : Nat) x10 x11 ((j + 1 : Nat) : Int)) (fun k => ?_) (ih (j + 1) (crcBit c) (by omega) (crcBit_lt hc) h)
    simp only [impl_Crc.l1]; rw [if_pos (by omega), w64 (n := (j : Int) + 1) (by omega) (by omega), and1 c hc]
    have e2 : ((c : Int) / 2) = ((c / 2 : Nat) : Int) := by omega
    rw [e2]
    unfold crcBit
    by_cases h1 : c % 2 = 1
    · rw [if_pos (by omega), if_pos h1, show (3988292384 : Int) = ((3988292384 : Nat) : Int) from rfl, xorN _ _ (by omega) (by omega)]; rfl
    · rw [if_neg (by omega), if_neg h1]; rfl
theorem iCrc_out (s : ByteArray) (hs : s.size ≤ 4611686018427387904) : ∀ (d i : Nat), i + d = s.size → Ev (fun k => impl_Crc.l0 k s (crcAt s i : Nat) s.size i) (crcStr s) := by
  intro d
  induction d with
  | zero =>
    intro i hi
    obtain rfl : i = s.size := by omega
    refine Ev.step (f := fun k => (impl_bigBytes.f k (crcNum s : Nat) 4).bind fun t => some t) (fun k => ?_) ?_
    · simp only [impl_Crc.l0]; rw [if_neg (by omega), show (4294967295 : Int) = ((4294967295 : Nat) : Int) from rfl, xorN _ _ (by omega) (crcAt_lt s _), u64]
      have := crcNum_lt s
      rw [show ((4294967295 ^^^ crcAt s s.size : Nat) : Int) % 18446744073709551616 = (crcNum s : Nat) by unfold crcNum at *; omega]
    · refine ⟨5, fun k hk => ?_⟩
      obtain ⟨m, rfl⟩ : ∃ m, k = m + 5 := ⟨k - 5, by omega⟩
      show (impl_bigBytes.f (m + 5) (crcNum s : Nat) 4).bind _ = _
      rw [iBB4]; rfl
  | succ d ih =>
    intro i hi
    have hb := btN_le s i
    refine Ev.step (f := fun k => impl_Crc.l1 k s ((crcAt s i ^^^ btN s i : Nat) : Int) s.size i ((0 : Nat) : Int)) (fun k => ?_) ?_
    · simp only [impl_Crc.l0]; rw [if_pos (by omega), if_pos (by omega), if_pos (by omega), ← btN_cast, show ((btN s i : Nat) : Int) % 4294967296 = (btN s i : Nat) by omega, xorN _ _ (crcAt_lt s i) (by omega)]; rfl
    · refine iCrc_in s s.size i _ 8 0 _ rfl (xor_lt _ _ (crcAt_lt s i) (by omega)) ?_
      have := ih (i + 1) (by omega)
      rw [w64 (n := (i : Int) + 1) (by omega) (by omega)]
      exact this
theorem iCrc (s : ByteArray) (hs : s.size ≤ 20000) : Ev (fun k => impl_Crc.f k s) (crcStr s) := by
  refine Ev.congr (fun k => ?_) (iCrc_out s (by omega) s.size 0 (by omega))
  unfold impl_Crc.f; rw [if_neg (by omega)]; rfl
theorem evThen {α β : Type} {g : Nat → Option α} {h : Nat → Option β} {f : Nat → α → Option β} {a : α} {r : β} (e : Ev g a) (he : ∀ k, h k = (g k).bind (f k)) (k : Ev (fun n => f n a) r) : Ev h r := Ev.congr he (Ev.bind e k)
theorem evIs {α : Type} {g : Nat → Option α} {r : α} (h : ∀ k, g k = some r) : Ev g r := ⟨0, fun k _ => h k⟩
theorem iSealed (s : ByteArray) (hs : s.size ≤ 4611686018427387904) : Ev (fun k => impl_Sealed.f k s) (sealedP s) := by
  by_cases h : (s.size : Int) > 60
  · refine evIs fun k => ?_
    unfold impl_Sealed.f sealedP; rw [if_pos h, if_pos (by omega)]
  · have hz := pad_size s (by omega)
    have e : ∀ k, impl_Sealed.f k s = (impl_Crc.f k (pad s)).bind fun t => (if (pad s).size + t.size ≤ 9223372036854775807 then some (pad s ++ t) else none) := by
      intro k
      unfold impl_Sealed.f
      rw [if_neg h, w64 (by omega) (by omega), show (60 : Int) - (s.size : Int) = ((60 - s.size : Nat) : Int) by omega, iZeros _ (by omega)]
      simp only [Option.bind_some]
      rw [if_pos (by rw [zs_size]; omega)]; rfl
    refine evThen (iCrc (pad s) (by omega)) e (evIs fun k => ?_)
    rw [if_pos (by rw [hz, crcStr_size]; omega)]
    unfold sealedP; rw [if_neg (by omega)]
theorem sCrc_in (s : ByteArray) (x4 : Int) (r : ByteArray) : ∀ (d j c : Nat), j + d = 8 → c < 4294967296 → Ev (fun k => spec_l1Crc.l0 k s (crcBits d c : Nat) (wrap64 (x4 + 1))) r → Ev (fun k => spec_l1Crc.l1 k s (c : Nat) x4 j) r := by
  intro d
  induction d with
  | zero =>
    intro j c hj hc h
    refine Ev.step (f := fun k => spec_l1Crc.l0 k s (c : Nat) (wrap64 (x4 + 1))) (fun k => ?_) h
    simp only [spec_l1Crc.l1]; rw [if_neg (by omega)]
  | succ d ih =>
    intro j c hj hc h
    refine Ev.step (f := fun k => spec_l1Crc.l1 k s (crcBit c : Nat) x4 ((j + 1 : Nat) : Int)) (fun k => ?_) (ih (j + 1) (crcBit c) (by omega) (crcBit_lt hc) h)
    simp only [spec_l1Crc.l1]; rw [if_pos (by omega), w64 (n := (j : Int) + 1) (by omega) (by omega)]
    have e2 : ((c : Int) / 2) = ((c / 2 : Nat) : Int) := by omega
    have e1 : Int.tmod (c : Int) 2 = ((c % 2 : Nat) : Int) := by rw [Int.tmod_eq_emod_of_nonneg (by omega)]; omega
    rw [e1, e2]
    unfold crcBit
    by_cases h1 : c % 2 = 1
    · rw [if_pos (by omega), if_pos h1, show (3988292384 : Int) = ((3988292384 : Nat) : Int) from rfl, xorN _ _ (by omega) (by omega)]; rfl
    · rw [if_neg (by omega), if_neg h1]; rfl
theorem sCrc_out (s : ByteArray) (hs : s.size ≤ 4611686018427387904) : ∀ (d i : Nat), i + d = s.size → Ev (fun k => spec_l1Crc.l0 k s (crcAt s i : Nat) i) (crcStr s) := by
  intro d
  induction d with
  | zero =>
    intro i hi
    refine Ev.step (f := fun _ => some (crcStr s)) (fun k => ?_) (Ev.now _)
    simp only [spec_l1Crc.l0]; rw [if_neg (by omega)]
    obtain rfl : i = s.size := by omega
    rw [show (4294967295 : Int) = ((4294967295 : Nat) : Int) from rfl, xorN _ _ (by omega) (crcAt_lt s _)]; rfl
  | succ d ih =>
    intro i hi
    have hb := btN_le s i
    refine Ev.step (f := fun k => spec_l1Crc.l1 k s ((crcAt s i ^^^ btN s i : Nat) : Int) i ((0 : Nat) : Int)) (fun k => ?_) ?_
    · simp only [spec_l1Crc.l0]; rw [if_pos (by omega), if_pos (by omega), ← btN_cast, show ((btN s i : Nat) : Int) % 4294967296 = (btN s i : Nat) by omega, xorN _ _ (crcAt_lt s i) (by omega)]; rfl
    · refine sCrc_in s i _ 8 0 _ rfl (xor_lt _ _ (crcAt_lt s i) (by omega)) ?_
      have := ih (i + 1) (by omega)
      rw [w64 (n := (i : Int) + 1) (by omega) (by omega)]
      exact this
theorem sCrc (s : ByteArray) (hs : s.size ≤ 4611686018427387904) : Ev (fun k => spec_l1Crc.f k s) (crcStr s) := by
  refine Ev.congr (fun k => ?_) (sCrc_out s hs s.size 0 (by omega))
  rfl
theorem sSealed (s : ByteArray) (hs : s.size ≤ 4611686018427387904) : Ev (fun k => spec_Sealed.f k s) (sealedP s) := by
  by_cases h : (s.size : Int) > 60
  · refine evIs fun k => ?_
    unfold spec_Sealed.f sealedP; rw [if_pos h, if_pos (by omega)]
  · have hz := pad_size s (by omega)
    have e : ∀ k, spec_Sealed.f k s = (spec_l1Crc.f k (pad s)).bind fun t => (if (pad s).size + t.size ≤ 9223372036854775807 then some (pad s ++ t) else none) := by
      intro k
      unfold spec_Sealed.f
      rw [if_neg h, w64 (by omega) (by omega), show (60 : Int) - (s.size : Int) = ((60 - s.size : Nat) : Int) by omega, sZeros _ (by omega)]
      simp only [Option.bind_some]
      rw [if_pos (by rw [zs_size]; omega)]; rfl
    refine evThen (sCrc (pad s) (by omega)) e (evIs fun k => ?_)
    rw [if_pos (by rw [hz, crcStr_size]; omega)]
    unfold sealedP; rw [if_neg (by omega)]
/-- the number that n bytes tell, the highest one first -/
def hn (s : ByteArray) (i : Int) : Nat → Int
  | 0 => 0
  | n + 1 => hn s i n * 256 + bt s (i + n)
theorem ext_bt {s t : ByteArray} (h : s.size = t.size) (hb : ∀ i : Nat, i < s.size → bt s i = bt t i) : s = t := by
  apply ByteArray.ext
  apply Array.ext h
  intro i h1 h2
  have e := hb i h1
  rw [← bt_at s i (by simpa using h1), ← bt_at t i (by simpa using h2)] at e
  have e2 : (s[i]'h1).toNat = (t[i]'h2).toNat := by
    have : ((s[(i : Int).toNat]'(by simpa using h1)).toNat : Int) = ((t[(i : Int).toNat]'(by simpa using h2)).toNat : Int) := e
    simp only [Int.toNat_natCast] at this
    omega
  exact UInt8.toNat_inj.mp e2
theorem toList_inj {s t : ByteArray} : s.toList = t.toList ↔ s = t := by
  rw [ByteArray.toList_eq, ByteArray.toList_eq]
  exact ⟨fun h => ByteArray.ext (Array.toList_inj.mp h), fun h => by rw [h]⟩
theorem empty_toList : (⟨#[]⟩ : ByteArray).toList = [] := by rw [ByteArray.toList_eq]
theorem bt_extract (s : ByteArray) (a b : Nat) (i : Int) (h0 : 0 ≤ i) (hi : a + i < b) (hb : b ≤ s.size) : bt (s.extract a b) i = bt s (a + i) := by
  have h1 : i.toNat < (s.extract a b).size := by rw [ByteArray.size_extract]; omega
  have h2 : ((a : Int) + i).toNat < s.size := by omega
  rw [← bt_at _ i h1, ← bt_at s (a + i) h2]
  have e : ((a : Int) + i).toNat = a + i.toNat := by omega
  simp only [ByteArray.getElem_eq_getElem_data, ByteArray.data_extract, Array.getElem_extract, e]
theorem bt_append_l (s t : ByteArray) (i : Int) (h0 : 0 ≤ i) (hi : i < s.size) : bt (s ++ t) i = bt s i := by
  have h1 : i.toNat < (s ++ t).size := by rw [ByteArray.size_append]; omega
  have h2 : i.toNat < s.size := by omega
  rw [← bt_at _ i h1, ← bt_at s i h2]
  simp only [ByteArray.getElem_eq_getElem_data, ByteArray.data_append]
  rw [Array.getElem_append_left]
theorem bt_append_r (s t : ByteArray) (i : Int) (h0 : s.size ≤ i) (hi : i < s.size + t.size) : bt (s ++ t) i = bt t (i - s.size) := by
  have h1 : i.toNat < (s ++ t).size := by rw [ByteArray.size_append]; omega
  have h2 : (i - s.size).toNat < t.size := by omega
  rw [← bt_at _ i h1, ← bt_at t _ h2]
  have e : (i - (s.size : Int)).toNat = i.toNat - s.data.size := by show _ = i.toNat - s.size; omega
  simp only [ByteArray.getElem_eq_getElem_data, ByteArray.data_append, e]
  rw [Array.getElem_append_right (by show s.size ≤ _; omega)]
theorem extract_append_l (s t : ByteArray) (b : Nat) (h : b ≤ s.size) : (s ++ t).extract 0 b = s.extract 0 b := by
  refine ext_bt (by rw [ByteArray.size_extract, ByteArray.size_extract, ByteArray.size_append]; omega) (fun i hi => ?_)
  rw [ByteArray.size_extract, ByteArray.size_append] at hi
  rw [bt_extract _ _ _ _ (by omega) (by omega) (by rw [ByteArray.size_append]; omega), bt_extract _ _ _ _ (by omega) (by omega) h, bt_append_l _ _ _ (by omega) (by omega)]
theorem extract_all (s : ByteArray) (b : Nat) (h : s.size ≤ b) : s.extract 0 b = s := by
  refine ext_bt (by rw [ByteArray.size_extract]; omega) (fun i hi => ?_)
  rw [ByteArray.size_extract] at hi
  apply congrFun (congrArg bt ?_)
  apply ByteArray.ext
  simp only [ByteArray.data_extract]
  exact Array.extract_eq_self_of_le (by show s.size ≤ b; exact h)
theorem extract_append_r (s t : ByteArray) (b : Nat) (h : s.size + t.size ≤ b) : (s ++ t).extract s.size b = t := by
  refine ext_bt (by rw [ByteArray.size_extract, ByteArray.size_append]; omega) (fun i hi => ?_)
  rw [ByteArray.size_extract, ByteArray.size_append] at hi
  have e : (s ++ t).extract s.size b = (s ++ t).extract s.size (s.size + t.size) := by
    apply ByteArray.ext
    simp only [ByteArray.data_extract]
    rw [Array.extract_eq_extract_right]
    have z : (s.data ++ t.data).size = s.size + t.size := by rw [Array.size_append]; rfl
    rw [← ByteArray.data_append] at z
    rw [z]; omega
  rw [e, bt_extract _ _ _ _ (by omega) (by omega) (by rw [ByteArray.size_append]; omega), bt_append_r _ _ _ (by omega) (by omega)]
  congr 1; omega
/-- what is sealed, opened again -/
def unsP (s : ByteArray) : ByteArray × Bool := if s.size = 64 ∧ crcStr (s.extract 0 60) = s.extract 60 s.size then (s.extract 0 60, true) else ((⟨#[]⟩ : ByteArray), false)
theorem sealed_head (t : ByteArray) (h : t.size ≤ 60) : (sealedP t).extract 0 60 = pad t := by
  unfold sealedP; rw [if_neg (by omega), extract_append_l _ _ _ (by rw [pad_size t h]; omega), extract_all _ _ (by rw [pad_size t h]; omega)]
theorem sealed_tail (t : ByteArray) (h : t.size ≤ 60) : (sealedP t).extract 60 (sealedP t).size = crcStr (pad t) := by
  rw [sealedP_size t h]
  unfold sealedP; rw [if_neg (by omega)]
  have e := extract_append_r (pad t) (crcStr (pad t)) 64 (by rw [pad_size t h, crcStr_size]; omega)
  rw [pad_size t h] at e; exact e
theorem uns_sealed (t : ByteArray) (h : t.size ≤ 60) : unsP (sealedP t) = (pad t, true) := by
  unfold unsP; rw [sealed_head t h, sealed_tail t h, if_pos ⟨sealedP_size t h, rfl⟩]
theorem pad_head (t : ByteArray) (a b : Nat) (h : b ≤ t.size) : (pad t).extract a b = t.extract a b := by
  by_cases hab : a ≤ b
  · refine ext_bt (by rw [ByteArray.size_extract, ByteArray.size_extract, pad, ByteArray.size_append]; omega) (fun i hi => ?_)
    rw [ByteArray.size_extract, pad, ByteArray.size_append] at hi
    rw [bt_extract _ _ _ _ (by omega) (by omega) (by rw [pad, ByteArray.size_append]; omega), bt_extract _ _ _ _ (by omega) (by omega) h]
    unfold pad; rw [bt_append_l _ _ _ (by omega) (by omega)]
  · refine ext_bt (by rw [ByteArray.size_extract, ByteArray.size_extract]; omega) (fun i hi => ?_)
    rw [ByteArray.size_extract] at hi; omega
theorem iUns (s : ByteArray) : Ev (fun k => impl_Unsealed.f k s) (unsP s) := by
  by_cases h : s.size = 64
  · have hx : (s.extract 0 60).size = 60 := by rw [ByteArray.size_extract]; omega
    refine evThen (iCrc (s.extract 0 60) (by omega)) (f := fun _ t110 => if t110.toList = (s.extract 60 s.size).toList then (some (s.extract 0 60, true)) else (some ((⟨#[]⟩ : ByteArray), false))) (fun k => ?_) (evIs fun k => ?_)
    · unfold impl_Unsealed.f; rw [if_pos (by omega), if_pos (by omega), if_pos (by omega)]
    · unfold unsP
      by_cases c : crcStr (s.extract 0 60) = s.extract 60 s.size
      · rw [if_pos (toList_inj.mpr c), if_pos ⟨h, c⟩]
      · rw [if_neg (fun z => c (toList_inj.mp z)), if_neg (fun z => c z.2)]
  · refine evIs fun k => ?_
    unfold impl_Unsealed.f unsP; rw [if_neg (by omega), if_neg (fun z => h z.1)]
theorem xorP_lt (x : Nat) (h : x < 2147483648) : 2147483648 ≤ x ^^^ 3988292384 := by
  have h1 : (x ^^^ 3988292384).testBit 31 = true := by
    rw [Nat.testBit_xor, Nat.testBit_lt_two_pow (show x < 2 ^ 31 by omega)]
    decide
  exact Nat.ge_two_pow_of_testBit h1
theorem xor_cancel (c a b : Nat) (h : c ^^^ a = c ^^^ b) : a = b := by
  have : c ^^^ (c ^^^ a) = c ^^^ (c ^^^ b) := by rw [h]
  rwa [← Nat.xor_assoc, ← Nat.xor_assoc, Nat.xor_self, Nat.zero_xor, Nat.zero_xor] at this
theorem crcBit_inj {a b : Nat} (ha : a < 4294967296) (hb : b < 4294967296) (h : crcBit a = crcBit b) : a = b := by
  unfold crcBit at h
  by_cases ca : a % 2 = 1
  · rw [if_pos ca] at h
    have := xorP_lt (a / 2) (by omega)
    by_cases cb : b % 2 = 1
    · rw [if_pos cb] at h
      have e : a / 2 = b / 2 := xor_cancel 3988292384 _ _ (by rw [Nat.xor_comm _ (a / 2), Nat.xor_comm _ (b / 2)]; exact h)
      omega
    · rw [if_neg cb] at h; omega
  · rw [if_neg ca] at h
    by_cases cb : b % 2 = 1
    · rw [if_pos cb] at h
      have := xorP_lt (b / 2) (by omega)
      omega
    · rw [if_neg cb] at h; omega
theorem crcBits_inj : ∀ (n : Nat) {a b : Nat}, a < 4294967296 → b < 4294967296 → crcBits n a = crcBits n b → a = b
  | 0, _, _, _, _, h => h
  | n + 1, a, b, ha, hb, h => crcBit_inj ha hb (crcBits_inj n (crcBit_lt ha) (crcBit_lt hb) h)
theorem crcAt_pre (a b : ByteArray) (j : Nat) (h : ∀ i, i < j → btN a i = btN b i) : ∀ n, n ≤ j → crcAt a n = crcAt b n
  | 0, _ => rfl
  | n + 1, hn => by
    show crcBits 8 (crcAt a n ^^^ btN a n) = crcBits 8 (crcAt b n ^^^ btN b n)
    rw [crcAt_pre a b j h n (by omega), h n (by omega)]
theorem crcAt_post (a b : ByteArray) (j m : Nat) (hj : btN a j ≠ btN b j) (h : ∀ i, i < m → i ≠ j → btN a i = btN b i) : ∀ n, j < n → n ≤ m → crcAt a n ≠ crcAt b n
  | 0, hn, _ => by omega
  | n + 1, hn, hm => by
    intro e
    have e' : crcBits 8 (crcAt a n ^^^ btN a n) = crcBits 8 (crcAt b n ^^^ btN b n) := e
    have ba := btN_le a n
    have bb := btN_le b n
    have ex := crcBits_inj 8 (xor_lt _ _ (crcAt_lt a n) (by omega)) (xor_lt _ _ (crcAt_lt b n) (by omega)) e'
    by_cases c : n = j
    · subst c
      rw [crcAt_pre a b n (fun i hi => h i (by omega) (by omega)) n (Nat.le_refl _)] at ex
      exact hj (xor_cancel _ _ _ ex)
    · rw [h n (by omega) c, Nat.xor_comm, Nat.xor_comm (crcAt b n)] at ex
      exact crcAt_post a b j m hj h n (by omega) (by omega) (xor_cancel _ _ _ ex)
theorem evFrom {α : Type} {g f : Nat → Option α} {r : α} (K : Nat) (h : ∀ k, K ≤ k → g k = f k) (e : Ev f r) : Ev g r := by
  obtain ⟨M, hM⟩ := e
  exact ⟨K + M, fun k hk => (h k (by omega)).trans (hM k (by omega))⟩
theorem xor8 (a b : Nat) (ha : a < 256) (hb : b < 256) : Go.bits .xor .u8 (a : Int) (b : Int) = ((a ^^^ b : Nat) : Int) := by
  have hx : a ^^^ b < 2 ^ 8 := Nat.xor_lt_two_pow (by omega) (by omega)
  show IntKind.u8.wrap (((BitVec.ofInt 8 (a : Int) ^^^ BitVec.ofInt 8 (b : Int)).toNat : Nat) : Int) = _
  rw [BitVec.toNat_xor, BitVec.ofInt_natCast, BitVec.ofInt_natCast, BitVec.toNat_ofNat, BitVec.toNat_ofNat, Nat.mod_eq_of_lt (by omega : a < 2 ^ 8), Nat.mod_eq_of_lt (by omega : b < 2 ^ 8)]
  simp [IntKind.wrap, IntKind.bits, IntKind.signed]
  omega
theorem drawSealed (l : List Int) (h1 : l.length * 1 ≤ 140737488351232) (h2 : ∀ x ∈ l, (Lit.int .u8 x).wf = true) : ∃ s, Ev (fun k => spec_DrawSealed.f k l) s ∧ s.size ≤ 61 := by
  obtain ⟨b, p1, e1, hp1⟩ := once_ok (RdOk.start h1 h2) 6
  cases b with
  | true =>
    obtain ⟨v, p2, e2, v0, va, vb, hp2⟩ := below_ok hp1 3
    have vb' := vb (by omega)
    refine ⟨zs (59 + v).toNat, evIs fun k => ?_, by rw [zs_size]; omega⟩
    unfold spec_DrawSealed.f spec_l1Open.f
    have := sZeros (59 + v).toNat (by omega)
    rw [show (((59 + v).toNat : Nat) : Int) = 59 + v by omega] at this
    rw [Option.bind_some, e1, Option.bind_some, if_pos rfl, e2, Option.bind_some, w64 (by omega) (by omega), this, Option.bind_some]
  | false =>
    obtain ⟨t, p2, e2, ht, hp2⟩ := bytes_ok hp1 40 (by omega) (by omega)
    refine ⟨t, evThen e2 (f := fun _ x => some x.1) (fun k => ?_) (Ev.now _), by omega⟩
    unfold spec_DrawSealed.f spec_l1Open.f
    rw [Option.bind_some, e1, Option.bind_some, if_neg (by simp)]
theorem byteOf_at (l : List Int) (h2 : ∀ x ∈ l, (Lit.int .u8 x).wf = true) (hl : l.length ≤ 1048576) (i : Int) (hi : 0 ≤ i) : ∃ r, laws_byteOf.f l i = some r ∧ 0 ≤ r ∧ r ≤ 255 := by
  unfold laws_byteOf.f
  by_cases c : (l.length : Int) = 0
  · exact ⟨0, if_pos c, by omega, by omega⟩
  · have z := Int.emod_nonneg i c
    have y := Int.emod_lt_of_pos i (show 0 < (l.length : Int) by omega)
    have e := Int.tmod_eq_emod_of_nonneg hi (b := (l.length : Int))
    rw [if_neg c, e, if_pos z, if_pos y]
    have hj : (i % (l.length : Int)).toNat < l.length := by omega
    have er : rd l (i % (l.length : Int)) = l[(i % (l.length : Int)).toNat] := by simp [rd, List.getD, hj]
    have hw := h2 _ (List.getElem_mem hj)
    have : 0 ≤ l[(i % (l.length : Int)).toNat] ∧ l[(i % (l.length : Int)).toNat] ≤ 255 := by
      simp [Lit.wf, IntKind.min, IntKind.max, IntKind.bits, IntKind.signed] at hw
      omega
    rw [er, w64 (by omega) (by omega)]
    exact ⟨_, rfl, this.1, this.2⟩
theorem chg_size (t : ByteArray) (n : Nat) (v : Int) : (laws_FnSealed.chg t n v).size = t.size := by
  unfold laws_FnSealed.chg
  refine List.size_toArray.trans ?_
  simp
theorem bt_list (t : ByteArray) (i : Nat) (h : i < t.data.toList.length) : bt t (i : Int) = ((t.data.toList[i]).toNat : Int) := by
  have h' : i < t.size := by simpa using h
  simp [bt, h']
  rfl
theorem chg_bt (t : ByteArray) (n : Nat) (v : Int) (h0 : 0 ≤ v) (h1 : v < 256) (i : Nat) (hi : i < t.size) : bt (laws_FnSealed.chg t n v) (i : Int) = if i = n then v else bt t (i : Int) := by
  have hl : t.data.toList.length = t.size := by simp
  rw [bt_list _ i (by unfold laws_FnSealed.chg; simp; omega), bt_list t i (by omega)]
  have e : (laws_FnSealed.chg t n v).data.toList[i]'(by unfold laws_FnSealed.chg; simp; omega) = if n = i then UInt8.ofNat v.toNat else t.data.toList[i]'(by omega) := by
    unfold laws_FnSealed.chg
    simp [List.getElem_set]
  rw [e]
  by_cases c : i = n
  · rw [if_pos c, if_pos c.symm, UInt8.toNat_ofNat']
    omega
  · rw [if_neg c, if_neg (fun z => c z.symm)]
theorem four_inj {a b : Nat} (ha : a < 4294967296) (hb : b < 4294967296) (h : strOfNums (four (a : Int)) = strOfNums (four (b : Int))) : a = b := by
  have r : ∀ x : Nat, ∀ y ∈ four (x : Int), 0 ≤ y ∧ y ≤ 255 := by
    intro x y hy
    unfold four at hy
    simp only [List.mem_cons, List.not_mem_nil, or_false] at hy
    omega
  have e : ∀ i : Nat, (hi : i < 4) → (four (a : Int))[i]'(by simpa [four] using hi) = (four (b : Int))[i]'(by simpa [four] using hi) := fun i hi => by
    have e1 := bt_strOfNums (four (a : Int)) (r a) i (by simpa [four] using hi)
    have e2 := bt_strOfNums (four (b : Int)) (r b) i (by simpa [four] using hi)
    rw [← e1, ← e2, h]
  have h0 := e 0 (by omega)
  have h1 := e 1 (by omega)
  have h2 := e 2 (by omega)
  have h3 := e 3 (by omega)
  simp only [four, List.getElem_cons_zero, List.getElem_cons_succ] at h0 h1 h2 h3
  omega
theorem crc_differs (a b : ByteArray) (m j : Nat) (ha : a.size = m) (hb : b.size = m) (hj : j < m) (hne : btN a j ≠ btN b j) (h : ∀ i, i < m → i ≠ j → btN a i = btN b i) : crcStr a ≠ crcStr b := by
  intro e
  have e2 := four_inj (crcNum_lt a) (crcNum_lt b) e
  unfold crcNum at e2
  rw [ha, hb] at e2
  exact crcAt_post a b j m hne h m hj (Nat.le_refl _) (xor_cancel _ _ _ e2)
theorem uns_turned (s : ByteArray) (hs : s.size ≤ 60) (n : Nat) (v : Int) (hn : n < 64) (h0 : 0 ≤ v) (h1 : v < 256) (hv : v ≠ bt (sealedP s) (n : Int)) : (unsP (laws_FnSealed.chg (sealedP s) n v)).2 = false := by
  have hz := sealedP_size s hs
  have cz := chg_size (sealedP s) n v
  have hb := chg_bt (sealedP s) n v h0 h1
  have he := sealed_head s hs
  have ht := sealed_tail s hs
  have hp := pad_size s hs
  generalize hT : sealedP s = T at *
  generalize hC : laws_FnSealed.chg T n v = C at *
  have cs : C.size = 64 := by omega
  unfold unsP
  rw [if_neg]
  rintro ⟨-, e⟩
  have hx1 : (C.extract 0 60).size = 60 := by rw [ByteArray.size_extract]; omega
  by_cases c : n < 60
  · have e2 : C.extract 60 C.size = T.extract 60 T.size := by
      apply toList_inj.mp
      rw [ByteArray.toList_eq, ByteArray.toList_eq]
      apply List.ext_getElem (by simp; omega)
      intro i h1 h2
      have l1 : i < (C.extract 60 C.size).size := by simpa using h1
      have l2 : i < (T.extract 60 T.size).size := by simpa using h2
      rw [ByteArray.size_extract] at l1 l2
      have b1 := bt_list (C.extract 60 C.size) i h1
      have b2 := bt_list (T.extract 60 T.size) i h2
      rw [bt_extract _ _ _ _ (by omega) (by omega) (by omega)] at b1 b2
      have := hb (60 + i) (by omega)
      rw [if_neg (by omega)] at this
      rw [show ((60 + i : Nat) : Int) = (60 : Nat) + (i : Int) by omega] at this
      rw [this, b2] at b1
      exact (UInt8.toNat_inj.mp (by omega)).symm
    rw [e2, ht] at e
    refine crc_differs (C.extract 0 60) (pad s) 60 n hx1 hp c ?_ ?_ e
    · have b1 := bt_extract C 0 60 (n : Int) (by omega) (by omega) (by omega)
      have b2 := bt_extract T 0 60 (n : Int) (by omega) (by omega) (by omega)
      rw [he] at b2
      have := hb n (by omega)
      rw [if_pos rfl] at this
      unfold btN
      rw [b1, b2]
      have r2 := bt_range T (n : Int)
      rw [show (((0 : Nat) : Int) + (n : Int)) = (n : Int) by omega, this]
      omega
    · intro i hi hin
      have b1 := bt_extract C 0 60 (i : Int) (by omega) (by omega) (by omega)
      have b2 := bt_extract T 0 60 (i : Int) (by omega) (by omega) (by omega)
      rw [he] at b2
      have := hb i (by omega)
      rw [if_neg hin] at this
      unfold btN
      rw [b1, b2, show (((0 : Nat) : Int) + (i : Int)) = (i : Int) by omega, this]
  · have e3 : C.extract 0 60 = pad s := by
      rw [← he]
      apply toList_inj.mp
      rw [ByteArray.toList_eq, ByteArray.toList_eq]
      apply List.ext_getElem (by simp; omega)
      intro i h1 h2
      have l1 : i < (C.extract 0 60).size := by simpa using h1
      have l2 : i < (T.extract 0 60).size := by simpa using h2
      rw [ByteArray.size_extract] at l1 l2
      have b1 := bt_list (C.extract 0 60) i h1
      have b2 := bt_list (T.extract 0 60) i h2
      rw [bt_extract _ _ _ _ (by omega) (by omega) (by omega)] at b1 b2
      have := hb i (by omega)
      rw [if_neg (by omega)] at this
      rw [show (((0 : Nat) : Int) + (i : Int)) = (i : Int) by omega] at b1 b2
      rw [this, b2] at b1
      exact (UInt8.toNat_inj.mp (by omega)).symm
    rw [e3, ← ht] at e
    have b1 := bt_extract C 60 C.size ((n - 60 : Nat) : Int) (by omega) (by omega) (by omega)
    have b2 := bt_extract T 60 T.size ((n - 60 : Nat) : Int) (by omega) (by omega) (by omega)
    rw [← e, b2, show (((60 : Nat) : Int) + ((n - 60 : Nat) : Int)) = (n : Int) by omega] at b1
    have := hb n (by omega)
    rw [if_pos rfl] at this
    exact hv (by rw [← this, b1])
theorem FnSealed (l : List Int) (hl : l.length ≤ 9223372036854775807) (h2 : ∀ x ∈ l, (Lit.int .u8 x).wf = true) : ∃ k, laws_FnSealed.f k l = some true := by
  refine Ev.rounds (r := true) ?_
  unfold laws_FnSealed.f laws_big.f
  simp only [Option.bind_some]
  by_cases c : (l.length : Int) > 1048576
  · simp only [decide_eq_true c, if_true]; exact Ev.now _
  · simp only [decide_eq_false c, Bool.false_eq_true, if_false]
    obtain ⟨s, e, hs⟩ := drawSealed l (by omega) h2
    have k1 := iSealed s (by omega)
    have k2 := sSealed s (by omega)
    refine evThen e (fun k => rfl) (evThen k1 (fun k => rfl) ?_)
    obtain ⟨K2, k2⟩ := k2
    by_cases cs : s.size ≤ 60
    · have hz := sealedP_size s cs
      have ne : ¬ (sealedP s).toList = ([] : List UInt8) := fun z => by
        rw [ByteArray.toList_eq] at z
        have : (sealedP s).data.toList.length = 0 := by rw [z]; rfl
        have h : (sealedP s).data.toList.length = (sealedP s).size := by simp
        omega
      have u1 := iUns (sealedP s)
      rw [uns_sealed s cs] at u1
      have hp := pad_size s cs
      have ep : pad (pad s) = pad s := by
        show pad s ++ zs (60 - (pad s).size) = pad s
        rw [hp, show (60 - 60 : Nat) = 0 from rfl]
        apply ByteArray.ext
        rw [ByteArray.data_append]
        have : (zs 0).data = #[] := by rfl
        rw [this, Array.append_empty]
      have es : sealedP (pad s) = sealedP s := by
        unfold sealedP
        rw [if_neg (by omega), if_neg (by omega), ep]
      have k3 := iSealed (pad s) (by omega)
      rw [es] at k3
      obtain ⟨K3, k3⟩ := k3
      obtain ⟨p, ep1, p0, p1⟩ := byteOf_at l h2 (by omega) 1 (by omega)
      obtain ⟨q, eq1, q0, q1⟩ := byteOf_at l h2 (by omega) 2 (by omega)
      have t64 : Int.tmod p 64 = p % 64 := Int.tmod_eq_emod_of_nonneg p0
      have t255 : Int.tmod q 255 = q % 255 := Int.tmod_eq_emod_of_nonneg q0
      obtain ⟨n, hn⟩ := Int.eq_ofNat_of_zero_le (show 0 ≤ p % 64 by omega)
      have n64 : n < 64 := by omega
      have rb := bt_range (sealedP s) (n : Int)
      obtain ⟨a, ha⟩ := Int.eq_ofNat_of_zero_le rb.1
      obtain ⟨x, hx⟩ := Int.eq_ofNat_of_zero_le (show 0 ≤ 1 + q % 255 by omega)
      have ev : laws_FnSealed.byte (sealedP s) n q = ((a ^^^ x : Nat) : Int) := by
        unfold laws_FnSealed.byte
        rw [t255, w64 (by omega) (by omega), ha, hx, show IntKind.u8.wrap (x : Int) = (x : Int) by simp [IntKind.wrap, IntKind.bits, IntKind.signed]; omega, xor8 a x (by omega) (by omega)]
      have hlt : a ^^^ x < 256 := Nat.xor_lt_two_pow (n := 8) (by omega) (by omega)
      have hne : a ^^^ x ≠ a := fun z => by
        have : x = 0 := xor_cancel a x 0 (by rw [z, Nat.xor_zero])
        omega
      have ut := uns_turned s cs n ((a ^^^ x : Nat) : Int) n64 (by omega) (by omega) (by rw [ha]; omega)
      have u2 := iUns (laws_FnSealed.chg (sealedP s) n ((a ^^^ x : Nat) : Int))
      have hd : ((pad s).extract 0 s.size).toList = s.toList := by rw [pad_head s 0 s.size (Nat.le_refl _), extract_all s s.size (Nat.le_refl _)]
      refine evFrom (K2 + K3) (f := fun k => (impl_Unsealed.f k (sealedP s)).bind fun u => laws_FnSealed.main k l s (sealedP s) u) (fun k hk => ?_) (evThen u1 (fun k => rfl) ?_)
      · rw [if_pos (k2 k (by omega)), if_neg ne]
      · refine evFrom (K2 + K3) (f := fun k => (impl_Unsealed.f k (laws_FnSealed.chg (sealedP s) n ((a ^^^ x : Nat) : Int))).bind fun r => some (!r.2)) (fun k hk => ?_) (evThen u2 (fun k => rfl) (evIs fun k => by rw [ut]; rfl))
        unfold laws_FnSealed.main laws_FnSealed.last
        rw [if_pos ⟨rfl, by omega, show s.size ≤ (pad s).size by omega, hd, show ((pad s).size : Int) = 60 by omega, k3 k (by omega)⟩, ep1, Option.bind_some, eq1, Option.bind_some, t64, hn, Int.toNat_natCast, ev, if_pos ⟨by omega, by omega, by omega⟩]
    · have e0 : (sealedP s).toList = ([] : List UInt8) := by unfold sealedP; rw [if_pos (by omega)]; exact empty_toList
      refine evFrom (K2) (f := fun _ => some true) (fun k hk => ?_) (Ev.now _)
      rw [if_pos (k2 k (by omega)), if_pos e0, if_pos (by omega)]
end Go.Proofs.Ytbbbajnnoficbaa.Pure
