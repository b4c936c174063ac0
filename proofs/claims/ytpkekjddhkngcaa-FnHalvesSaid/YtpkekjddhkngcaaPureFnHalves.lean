/- Proved: for every list of drawn bytes the halves of the drawn image, one behind the other, are the image up to less than one half, with no condition on the input. -/
import Derived.Test.YtpkekjddhkngcaaPFnHalvesx2
namespace Go.Proofs.Ytpkekjddhkngcaa.Pure
open Go.RowKit Go.Proofs.Ytpkekjddhkngcaa.PFnHalves Go.Proofs.YtpkekjddhkngcaaW.PrintWords Go.Proofs.YtpkekjddhkngcaaW.PrintLast
theorem w64 {n : Int} (h0 : -9223372036854775808 ≤ n) (h1 : n ≤ 9223372036854775807) : wrap64 n = n := by unfold wrap64; omega
theorem u64 (n : Int) : IntKind.u64.wrap n = n % 18446744073709551616 := by simp [IntKind.wrap, IntKind.bits, IntKind.signed]
theorem wf64 {n : Int} (h : (Lit.int .i64 n).wf = true) : -9223372036854775808 ≤ n ∧ n ≤ 9223372036854775807 := by
  simp [Lit.wf, IntKind.min, IntKind.max, IntKind.bits, IntKind.signed] at h
  omega
/-- a reader of drawn bytes that is in order -/
def RdOk (l : List Int) (p : Int) : Prop := 0 ≤ p ∧ p ≤ (l.length : Int) ∧ (l.length : Int) ≤ 140737488351232 ∧ ∀ x ∈ l, 0 ≤ x ∧ x ≤ 255
theorem RdOk.start {l : List Int} (h1 : l.length * 1 ≤ 140737488351232) (h2 : ∀ x ∈ l, (Lit.int .u8 x).wf = true) : RdOk l 0 :=
  ⟨by omega, by omega, by omega, fun x hx => by
    have := h2 x hx
    simp [Lit.wf, IntKind.min, IntKind.max, IntKind.bits, IntKind.signed] at this
    omega⟩
theorem rd_mem {l : List Int} {i : Int} (h0 : 0 ≤ i) (h1 : i < (l.length : Int)) : rd l i ∈ l := by
  unfold rd
  rw [List.getD_eq_getElem?_getD, List.getElem?_eq_getElem (by omega : i.toNat < l.length)]
  exact List.getElem_mem _
theorem bits_u64 (op : BinOp) (x y : Int) : 0 ≤ Go.bits op .u64 x y ∧ Go.bits op .u64 x y < 18446744073709551616 := by
  unfold Go.bits; rw [u64]; omega
theorem wrap64_in (x : Int) : -9223372036854775808 ≤ wrap64 x ∧ wrap64 x ≤ 9223372036854775807 := by unfold wrap64; omega
theorem one4 (a b c d : UInt8) (i : Int) (h0 : 0 ≤ i) (h1 : i < 4) : (rdOf ByteArray.empty ([(⟨#[a]⟩ : ByteArray), (⟨#[b]⟩ : ByteArray), (⟨#[c]⟩ : ByteArray), (⟨#[d]⟩ : ByteArray)] : List ByteArray) i).size = 1 := by
  have : i = 0 ∨ i = 1 ∨ i = 2 ∨ i = 3 := by omega
  rcases this with rfl | rfl | rfl | rfl <;> rfl
theorem next_ok {l : List Int} {p : Int} (h : RdOk l p) : ∃ v p', spec_l1Rd_next.f l p = some (v, p') ∧ 0 ≤ v ∧ v ≤ 255 ∧ RdOk l p' := by
  obtain ⟨h0, h1, h2, h3⟩ := h
  unfold spec_l1Rd_next.f
  by_cases c : p ≥ (l.length : Int)
  · exact ⟨0, p, by rw [if_pos c], by omega, by omega, h0, h1, h2, h3⟩
  · have hm := h3 _ (rd_mem h0 (by omega : p < (l.length : Int)))
    refine ⟨rd l p, p + 1, ?_, hm.1, hm.2, by omega, by omega, h2, h3⟩
    rw [if_neg c, w64 (n := p + 1) (by omega) (by omega), w64 (n := p + 1 - 1) (by omega) (by omega), if_pos (by omega), if_pos (by omega), show p + 1 - 1 = p by omega, w64 (by omega) (by omega)]
theorem below_ok {l : List Int} {p : Int} (h : RdOk l p) (n : Int) : ∃ v p', spec_l1Rd_below.f l p n = some (v, p') ∧ 0 ≤ v ∧ (n ≤ 1 → v = 0) ∧ (1 < n → v < n) ∧ RdOk l p' := by
  unfold spec_l1Rd_below.f
  by_cases c : n ≤ 1
  · exact ⟨0, p, by rw [if_pos c], by omega, fun _ => rfl, fun _ => by omega, h⟩
  · rw [if_neg c]
    by_cases c2 : n ≤ 256
    · obtain ⟨v, p1, e, v0, v1, h'⟩ := next_ok h
      refine ⟨Int.tmod v n, p1, by rw [if_pos c2, e]; simp only [Option.bind_some]; rw [if_neg (by omega)], ?_, by omega, fun _ => ?_, h'⟩
      · rw [Int.tmod_eq_emod_of_nonneg v0]; exact Int.emod_nonneg _ (by omega)
      · rw [Int.tmod_eq_emod_of_nonneg v0]; exact Int.emod_lt_of_pos _ (by omega)
    · obtain ⟨v, p1, e, v0, v1, h'⟩ := next_ok h
      obtain ⟨u, p2, e2, u0, u1, h2⟩ := next_ok h'
      have e3 : wrap64 (wrap64 (v * 256) + u) = v * 256 + u := by rw [w64 (n := v * 256) (by omega) (by omega), w64 (by omega) (by omega)]
      refine ⟨Int.tmod (v * 256 + u) n, p2, by rw [if_neg c2, e]; simp only [Option.bind_some]; rw [e2]; simp only [Option.bind_some]; rw [if_neg (by omega), e3], ?_, by omega, fun _ => ?_, h2⟩
      · rw [Int.tmod_eq_emod_of_nonneg (by omega)]; exact Int.emod_nonneg _ (by omega)
      · rw [Int.tmod_eq_emod_of_nonneg (by omega)]; exact Int.emod_lt_of_pos _ (by omega)
theorem xorN (a b : Nat) (ha : a < 4294967296) (hb : b < 4294967296) : Go.bits .xor .u32 (a : Int) (b : Int) = ((a ^^^ b : Nat) : Int) := by
  have hx : a ^^^ b < 2 ^ 32 := Nat.xor_lt_two_pow (by omega) (by omega)
  show IntKind.u32.wrap (((BitVec.ofInt 32 (a : Int) ^^^ BitVec.ofInt 32 (b : Int)).toNat : Nat) : Int) = _
  rw [BitVec.toNat_xor, BitVec.ofInt_natCast, BitVec.ofInt_natCast, BitVec.toNat_ofNat, BitVec.toNat_ofNat, Nat.mod_eq_of_lt (by omega : a < 2 ^ 32), Nat.mod_eq_of_lt (by omega : b < 2 ^ 32), IntKind.wrap_u32]
  omega
theorem xor_lt (a b : Nat) (ha : a < 4294967296) (hb : b < 4294967296) : a ^^^ b < 4294967296 := Nat.xor_lt_two_pow (n := 32) (by omega) (by omega)
theorem and1 (c : Nat) (h : c < 4294967296) : Go.bits .and .u32 (c : Int) 1 = ((c % 2 : Nat) : Int) := by
  have e := bits_mask .u32 32 (by decide) (fun n h0 h1 => by rw [IntKind.wrap_u32]; omega) 1 (by decide) (c : Int) (by omega) (by omega)
  simpa using e
/-- one bit of the checksum -/
def crcBit (c : Nat) : Nat := if c % 2 = 1 then (c / 2) ^^^ 3988292384 else c / 2
def crcBits : Nat → Nat → Nat
  | 0, c => c
  | n + 1, c => crcBits n (crcBit c)
theorem crcBit_lt {c : Nat} (h : c < 4294967296) : crcBit c < 4294967296 := by
  unfold crcBit; split
  · exact xor_lt _ _ (by omega) (by omega)
  · omega
theorem crcBits_lt : ∀ (n : Nat) {c : Nat}, c < 4294967296 → crcBits n c < 4294967296
  | 0, _, h => h
  | n + 1, _, h => crcBits_lt n (crcBit_lt h)
/-- a byte, as a number -/
def btN (s : ByteArray) (i : Nat) : Nat := (bt s i).toNat
theorem btN_le (s : ByteArray) (i : Nat) : btN s i ≤ 255 := by have := bt_range s i; unfold btN; omega
theorem btN_cast (s : ByteArray) (i : Nat) : ((btN s i : Nat) : Int) = bt s i := by have := bt_range s i; unfold btN; omega
/-- the state behind the first n bytes -/
def crcAt (s : ByteArray) : Nat → Nat
  | 0 => 4294967295
  | n + 1 => crcBits 8 (crcAt s n ^^^ btN s n)
theorem crcAt_lt (s : ByteArray) : ∀ n, crcAt s n < 4294967296
  | 0 => by show 4294967295 < 4294967296; omega
  | n + 1 => crcBits_lt 8 (xor_lt _ _ (crcAt_lt s n) (by have := btN_le s n; omega))
def crcNum (s : ByteArray) : Nat := 4294967295 ^^^ crcAt s s.size
theorem crcNum_lt (s : ByteArray) : crcNum s < 4294967296 := xor_lt _ _ (by omega) (crcAt_lt s _)
def four (x : Int) : List Int := [x / 16777216 % 256, x / 65536 % 256, x / 256 % 256, x % 256]
def crcStr (s : ByteArray) : ByteArray := strOfNums (four (crcNum s))
theorem crcStr_size (s : ByteArray) : (crcStr s).size = 4 := by rw [crcStr, strOfNums_size]; rfl
/-- so many zero bytes -/
def zs (n : Nat) : ByteArray := strOfNums (List.replicate n 0)
theorem zs_size (n : Nat) : (zs n).size = n := by rw [zs, strOfNums_size]; simp
/-- what a string is sealed as -/
def pad (s : ByteArray) : ByteArray := s ++ zs (60 - s.size)
theorem pad_size (s : ByteArray) (h : s.size ≤ 60) : (pad s).size = 60 := by rw [pad, ByteArray.size_append, zs_size]; omega
def sealedP (s : ByteArray) : ByteArray := if 60 < s.size then (⟨#[]⟩ : ByteArray) else pad s ++ crcStr (pad s)
theorem sealedP_size (s : ByteArray) (h : s.size ≤ 60) : (sealedP s).size = 64 := by
  unfold sealedP; rw [if_neg (by omega), ByteArray.size_append, pad_size s h, crcStr_size]
theorem sealedP_le (s : ByteArray) : (sealedP s).size ≤ 64 := by
  by_cases h : s.size ≤ 60
  · rw [sealedP_size s h]; omega
  · unfold sealedP; rw [if_pos (by omega)]; simp [ByteArray.size]
theorem sZeros (n : Nat) (h : n ≤ 281474976710656) : spec_l1Zeros.f (n : Int) = some (zs n) := by
  unfold spec_l1Zeros.f; rw [if_pos (by omega), if_pos (by omega)]; rfl
theorem sCrc_in (s : ByteArray) (x4 : Int) (r : ByteArray) : ∀ (d j c : Nat), j + d = 8 → c < 4294967296 → Ev (fun k => spec_l1Crc.l0 k s (crcBits d c : Nat) (wrap64 (x4 + 1))) r → Ev (fun k => spec_l1Crc.l1 k s (c : Nat) x4 j) r := by
  intro d
  induction d with
  | zero =>
    intro j c hj hc h
    refine Ev.step (f := fun k => spec_l1Crc.l0 k s (c : Nat) (wrap64 (x4 + 1))) (fun k => ?_) h
    simp only [spec_l1Crc.l1]; rw [if_neg (by omega)]
  | succ d ih =>
    intro j c hj hc h
    refine Ev.step (f := fun k => spec_l1Crc.l1 k s (crcBit c : Nat) x4 ((j + 1 : Nat) : Int)) (fun k => ?_) (ih (j + 1) (crcBit c) (by omega) (crcBit_lt hc) h)
    simp only [spec_l1Crc.l1]; rw [if_pos (by omega), w64 (n := (j : Int) + 1) (by omega) (by omega)]
    have e2 : ((c : Int) / 2) = ((c / 2 : Nat) : Int) := by omega
    have e1 : Int.tmod (c : Int) 2 = ((c % 2 : Nat) : Int) := by rw [Int.tmod_eq_emod_of_nonneg (by omega)]; omega
    rw [e1, e2]
    unfold crcBit
    by_cases h1 : c % 2 = 1
    · rw [if_pos (by omega), if_pos h1, show (3988292384 : Int) = ((3988292384 : Nat) : Int) from rfl, xorN _ _ (by omega) (by omega)]; rfl
    · rw [if_neg (by omega), if_neg h1]; rfl
theorem sCrc_out (s : ByteArray) (hs : s.size ≤ 4611686018427387904) : ∀ (d i : Nat), i + d = s.size → Ev (fun k => spec_l1Crc.l0 k s (crcAt s i : Nat) i) (crcStr s) := by
  intro d
  induction d with
  | zero =>
    intro i hi
    refine Ev.step (f := fun _ => some (crcStr s)) (fun k => ?_) (Ev.now _)
    simp only [spec_l1Crc.l0]; rw [if_neg (by omega)]
    obtain rfl : i = s.size := by omega
    rw [show (4294967295 : Int) = ((4294967295 : Nat) : Int) from rfl, xorN _ _ (by omega) (crcAt_lt s _)]; rfl
  | succ d ih =>
    intro i hi
    have hb := btN_le s i
    refine Ev.step (f := fun k => spec_l1Crc.l1 k s ((crcAt s i ^^^ btN s i : Nat) : Int) i ((0 : Nat) : Int)) (fun k => ?_) ?_
    · simp only [spec_l1Crc.l0]; rw [if_pos (by omega), if_pos (by omega), ← btN_cast, show ((btN s i : Nat) : Int) % 4294967296 = (btN s i : Nat) by omega, xorN _ _ (crcAt_lt s i) (by omega)]; rfl
    · refine sCrc_in s i _ 8 0 _ rfl (xor_lt _ _ (crcAt_lt s i) (by omega)) ?_
      have := ih (i + 1) (by omega)
      rw [w64 (n := (i : Int) + 1) (by omega) (by omega)]
      exact this
theorem sCrc (s : ByteArray) (hs : s.size ≤ 4611686018427387904) : Ev (fun k => spec_l1Crc.f k s) (crcStr s) := by
  refine Ev.congr (fun k => ?_) (sCrc_out s hs s.size 0 (by omega))
  rfl
theorem evThen {α β : Type} {g : Nat → Option α} {h : Nat → Option β} {f : Nat → α → Option β} {a : α} {r : β} (e : Ev g a) (he : ∀ k, h k = (g k).bind (f k)) (k : Ev (fun n => f n a) r) : Ev h r := Ev.congr he (Ev.bind e k)
theorem evIs {α : Type} {g : Nat → Option α} {r : α} (h : ∀ k, g k = some r) : Ev g r := ⟨0, fun k _ => h k⟩
theorem sSealed (s : ByteArray) (hs : s.size ≤ 4611686018427387904) : Ev (fun k => spec_Sealed.f k s) (sealedP s) := by
  by_cases h : (s.size : Int) > 60
  · refine evIs fun k => ?_
    unfold spec_Sealed.f sealedP; rw [if_pos h, if_pos (by omega)]
  · have hz := pad_size s (by omega)
    have e : ∀ k, spec_Sealed.f k s = (spec_l1Crc.f k (pad s)).bind fun t => (if (pad s).size + t.size ≤ 9223372036854775807 then some (pad s ++ t) else none) := by
      intro k
      unfold spec_Sealed.f
      rw [if_neg h, w64 (by omega) (by omega), show (60 : Int) - (s.size : Int) = ((60 - s.size : Nat) : Int) by omega, sZeros _ (by omega)]
      simp only [Option.bind_some]
      rw [if_pos (by rw [zs_size]; omega)]; rfl
    refine evThen (sCrc (pad s) (by omega)) e (evIs fun k => ?_)
    rw [if_pos (by rw [hz, crcStr_size]; omega)]
    unfold sealedP; rw [if_neg (by omega)]
theorem bytes_in {l : List Int} : ∀ (d : Nat) (xs : List Int) (p : Int), xs.length + d ≤ 1000000 → RdOk l p → ∃ s p', Ev (fun k => spec_l1Rd_bytes.l0 k xs d l p) (s, p') ∧ s.size = xs.length + d ∧ RdOk l p' := by
  intro d
  induction d with
  | zero =>
    intro xs p hx h
    exact ⟨strOfNums xs, p, Ev.step (f := fun _ => some (strOfNums xs, p)) (fun k => by simp only [spec_l1Rd_bytes.l0]; rw [if_neg (by omega)]) (Ev.now _), by rw [strOfNums_size]; omega, h⟩
  | succ d ih =>
    intro xs p hx h
    obtain ⟨v, p1, e, v0, _, v1, h1⟩ := below_ok h 256
    obtain ⟨s, p2, e2, hs, h2⟩ := ih (xs ++ [v % 256]) p1 (by simp; omega) h1
    refine ⟨s, p2, Ev.step (fun k => ?_) e2, by rw [hs]; simp; omega, h2⟩
    simp only [spec_l1Rd_bytes.l0]; rw [if_pos (by omega), e]; simp only [Option.bind_some]; rw [if_pos (by omega), w64 (by omega) (by omega), show ((d + 1 : Nat) : Int) - 1 = (d : Int) by omega]
theorem bytes_ok {l : List Int} {p : Int} (h : RdOk l p) (m : Int) (h0 : 0 ≤ m) (h1 : m ≤ 100000) : ∃ s p', Ev (fun k => spec_l1Rd_bytes.f k l p m) (s, p') ∧ (s.size : Int) ≤ m ∧ RdOk l p' := by
  unfold spec_l1Rd_bytes.f
  rw [w64 (n := m + 1) (by omega) (by omega)]
  obtain ⟨v, p1, e, v0, va, vb, h'⟩ := below_ok h (m + 1)
  have hv : v ≤ m := by
    by_cases c : 1 < m + 1
    · have := vb c; omega
    · have := va (by omega); omega
  obtain ⟨s, p2, e2, hs, h2⟩ := bytes_in v.toNat [] p1 (by simp; omega) h'
  refine ⟨s, p2, ?_, by rw [hs]; simp; omega, h2⟩
  rw [e]; simp only [Option.bind_some]
  rw [show ((v.toNat : Nat) : Int) = v by omega] at e2
  exact e2
theorem once_ok {l : List Int} {p : Int} (h : RdOk l p) (n : Int) : ∃ b p', spec_l1Rd_once.f l p n = some (b, p') ∧ RdOk l p' := by
  obtain ⟨v, p1, e, _, _, _, h'⟩ := below_ok h n
  exact ⟨_, p1, by unfold spec_l1Rd_once.f; rw [e]; rfl, h'⟩
theorem word_in {l : List Int} : ∀ (d j : Nat) (x p : Int), j + d = 8 → 0 ≤ x → x < 18446744073709551616 → RdOk l p → ∃ v p', Ev (fun k => spec_l1Rd_word.l0 k x j l p) (v, p') ∧ 0 ≤ v ∧ v < 18446744073709551616 ∧ RdOk l p' := by
  intro d
  induction d with
  | zero =>
    intro j x p hj h0 h1 h
    exact ⟨x, p, Ev.step (f := fun _ => some (x, p)) (fun k => by simp only [spec_l1Rd_word.l0]; rw [if_neg (by omega)]) (Ev.now _), h0, h1, h⟩
  | succ d ih =>
    intro j x p hj h0 h1 h
    obtain ⟨u, p1, e, u0, u1, h'⟩ := next_ok h
    have hb := bits_u64 .or (IntKind.u64.wrap (x * 256)) (IntKind.u64.wrap u)
    obtain ⟨v, p2, e2, v0, v1, h2⟩ := ih (j + 1) _ p1 (by omega) hb.1 hb.2 h'
    refine ⟨v, p2, Ev.step (fun k => ?_) e2, v0, v1, h2⟩
    simp only [spec_l1Rd_word.l0]; rw [if_pos (by omega), e]; simp only [Option.bind_some]; rw [w64 (n := (j : Int) + 1) (by omega) (by omega)]; rfl
theorem word_ok {l : List Int} {p : Int} (h : RdOk l p) : ∃ v p', Ev (fun k => spec_l1Rd_word.f k l p) (v, p') ∧ 0 ≤ v ∧ v < 18446744073709551616 ∧ RdOk l p' := by
  obtain ⟨v, p', e, h⟩ := word_in 8 0 0 p (by omega) (by omega) (by omega) h
  exact ⟨v, p', Ev.congr (fun k => rfl) e, h⟩
theorem near_ok {l : List Int} {p : Int} (h : RdOk l p) (lo hi : Int) (hl : -9223372036854775808 ≤ lo ∧ lo ≤ 9223372036854775807) (hh : -9223372036854775808 ≤ hi ∧ hi ≤ 9223372036854775807) (hd : hi - lo < 18446744073709551615) : ∃ v p', Ev (fun k => spec_l1Rd_near.f k l p lo hi) (v, p') ∧ -9223372036854775808 ≤ v ∧ v ≤ 9223372036854775807 ∧ RdOk l p' := by
  unfold spec_l1Rd_near.f
  obtain ⟨v, p1, e, v0, _, v1, h1⟩ := below_ok h 8
  rw [e]; simp only [Option.bind_some]
  by_cases c0 : v = 0
  · simp only [if_pos c0]; exact ⟨_, p1, Ev.now _, hl.1, hl.2, h1⟩
  · simp only [if_neg c0]
    by_cases c1 : v = 1
    · simp only [if_pos c1]; exact ⟨_, p1, Ev.now _, hh.1, hh.2, h1⟩
    · simp only [if_neg c1]
      by_cases c2 : hi < lo
      · simp only [if_pos c2]; exact ⟨_, p1, Ev.now _, hl.1, hl.2, h1⟩
      · simp only [if_neg c2]
        obtain ⟨u, p2, e2, u0, u1, h2⟩ := word_ok h1
        have hz : ¬ (IntKind.u64.wrap (wrap64 (wrap64 (hi - lo) + 1)) = 0) := by rw [u64]; unfold wrap64; omega
        have hw := wrap64_in (lo + wrap64 (Int.tmod (u / 2) (IntKind.u64.wrap (wrap64 (wrap64 (hi - lo) + 1)))))
        refine ⟨_, p2, ?_, hw.1, hw.2, h2⟩
        simp only [if_neg hz]
        exact Ev.bind (f := fun _ (b : Int × Int) => some (wrap64 (lo + wrap64 (Int.tmod (b.1 / 2) (IntKind.u64.wrap (wrap64 (wrap64 (hi - lo) + 1))))), b.2)) e2 (Ev.now _)
theorem off_ok {l : List Int} {p : Int} (h : RdOk l p) (lo hi : Int) (hl : -9223372036854775808 ≤ lo ∧ lo ≤ 9223372036854775807) (hh : -9223372036854775808 ≤ hi ∧ hi ≤ 9223372036854775807) (hd : hi - lo < 18446744073709551615) : ∃ v p', Ev (fun k => spec_l1Rd_off.f k l p lo hi) (v, p') ∧ -9223372036854775808 ≤ v ∧ v ≤ 9223372036854775807 ∧ RdOk l p' := by
  unfold spec_l1Rd_off.f
  obtain ⟨b, p1, e, h1⟩ := once_ok h 24
  rw [e]; simp only [Option.bind_some]
  cases b with
  | true =>
    simp only [if_true]
    obtain ⟨u, p2, e2, u0, _, u1, h2⟩ := below_ok h1 4
    have hu := u1 (by omega)
    simp only [e2, Option.bind_some]
    rw [if_pos u0, if_pos (by simpa using hu)]
    have hw := wrap64_in (lo - 1)
    have hw2 := wrap64_in (hi + 1)
    refine ⟨_, p2, Ev.now _, ?_, ?_, h2⟩
    all_goals
      have : u = 0 ∨ u = 1 ∨ u = 2 ∨ u = 3 := by omega
      rcases this with rfl | rfl | rfl | rfl <;> simp [rd] <;> omega
  | false =>
    simp only [Bool.false_eq_true, if_false]
    obtain ⟨u, p2, e2, u0, u1, h2⟩ := near_ok h1 lo hi hl hh hd
    exact ⟨u, p2, Ev.bind (f := fun _ (b : Int × Int) => some (b.1, b.2)) e2 (Ev.now _), u0, u1, h2⟩
theorem drawHalf_in {l : List Int} : ∀ (d : Nat) (x : ByteArray) (p : Int), d ≤ 4 → x.size + 64 * d ≤ 400 → RdOk l p → ∃ (s : ByteArray) (n : Int), Ev (fun k => spec_DrawHalf.l0 k x d l p) (s, n) ∧ s.size ≤ 440 := by
  intro d
  induction d with
  | zero =>
    intro x p hd hx h
    obtain ⟨t, p1, e1, ht, h1⟩ := bytes_ok h 40 (by omega) (by omega)
    obtain ⟨v, p2, e2, _, _, _⟩ := off_ok h1 0 (wrap64 (wrap64 ((x.size : Int) / 32) + 1)) (by omega) (wrap64_in _) (by have := wrap64_in (wrap64 ((x.size : Int) / 32) + 1); omega)
    refine ⟨x ++ t, v, ?_, by rw [ByteArray.size_append]; omega⟩
    refine Ev.step (f := fun k => (spec_l1Rd_bytes.f k l p 40).bind fun bt153 => (if x.size + bt153.1.size ≤ 9223372036854775807 then ((spec_l1Rd_off.f k l bt153.2 0 (wrap64 ((wrap64 ((x.size : Int) / 32)) + 1))).bind fun bt155 => (some (x ++ bt153.1, bt155.1))) else (none))) (fun k => ?_) ?_
    · simp only [spec_DrawHalf.l0]; rw [if_neg (by omega)]
    · refine evThen e1 (fun k => rfl) ?_
      refine evThen e2 (f := fun _ b => some (x ++ t, b.1)) (fun k => ?_) (Ev.now _)
      show (if x.size + t.size ≤ 9223372036854775807 then _ else none) = _
      rw [if_pos (by omega)]
  | succ d ih =>
    intro x p hd hx h
    obtain ⟨t, p1, e1, ht, h1⟩ := bytes_ok h 3 (by omega) (by omega)
    have hz := sealedP_le t
    obtain ⟨s, n, e, hs⟩ := ih (x ++ sealedP t) p1 (by omega) (by rw [ByteArray.size_append]; omega) h1
    refine ⟨s, n, ?_, hs⟩
    refine Ev.step (f := fun k => (spec_l1Rd_bytes.f k l p 3).bind fun bt150 => ((spec_Sealed.f k bt150.1).bind fun t152 => (if x.size + t152.size ≤ 9223372036854775807 then (spec_DrawHalf.l0 k (x ++ t152) (wrap64 (((d + 1 : Nat) : Int) - 1)) l bt150.2) else (none)))) (fun k => ?_) ?_
    · simp only [spec_DrawHalf.l0]; rw [if_pos (by omega)]
    · refine evThen e1 (fun k => rfl) ?_
      refine evThen (sSealed t (by omega)) (fun k => rfl) ?_
      refine Ev.congr (fun k => ?_) e
      rw [if_pos (by omega), w64 (by omega) (by omega), show ((d + 1 : Nat) : Int) - 1 = (d : Int) by omega]
theorem drawHalf {l : List Int} (h : RdOk l 0) : ∃ (s : ByteArray) (n : Int), Ev (fun k => spec_DrawHalf.f k l) (s, n) ∧ s.size ≤ 440 := by
  obtain ⟨v, p, e, h0, _, h1, h2⟩ := below_ok h 5
  have hv := h1 (by omega)
  obtain ⟨s, n, e1, hs⟩ := drawHalf_in v.toNat (⟨#[]⟩ : ByteArray) p (by omega) (by simp [ByteArray.size]; omega) h2
  rw [show ((v.toNat : Nat) : Int) = v by omega] at e1
  refine ⟨s, n, Ev.congr (fun k => ?_) e1, hs⟩
  unfold spec_DrawHalf.f spec_l1Open.f; simp only [Option.bind_some, e]
/-- a half of an image -/
def halfP (s : ByteArray) (n : Int) : ByteArray := if 0 ≤ n ∧ 32 * n + 32 ≤ (s.size : Int) then s.extract (32 * n).toNat (32 * n + 32).toNat else (⟨#[]⟩ : ByteArray)
theorem iHalf (s : ByteArray) (n : Int) (hs : s.size ≤ 4611686018427387904) : impl_Half.f s n = some (halfP s n) := by
  unfold impl_Half.f halfP
  by_cases h1 : n < 0
  · rw [if_pos h1, if_neg (by omega)]
  · rw [if_neg h1, w64 (n := (s.size : Int) / 32) (by omega) (by omega)]
    by_cases h2 : n ≥ (s.size : Int) / 32
    · rw [if_pos h2, if_neg (by omega)]
    · have e3 : wrap64 (32 * n) = 32 * n := w64 (by omega) (by omega)
      have e4 : wrap64 (32 * n + 32) = 32 * n + 32 := w64 (by omega) (by omega)
      rw [if_neg h2, e3, e4, if_pos (by omega), if_pos (by omega), if_pos (by omega), if_pos (by omega)]
theorem cut_next (s : ByteArray) (a b : Nat) (h : a ≤ b) : s.extract 0 a ++ s.extract a b = s.extract 0 b := by
  apply ByteArray.ext
  simp [ByteArray.data_extract, Nat.max_eq_right h]
theorem halves_in (s : ByteArray) (hs : s.size ≤ 440) : ∀ (d n : Nat), n + d = s.size / 32 → Ev (fun k => laws_FnHalves.l0 k s (s.extract 0 (32 * n)) n) true := by
  intro d
  induction d with
  | zero =>
    intro n hn
    refine Ev.step (f := fun _ => some true) (fun k => ?_) (Ev.now _)
    simp only [laws_FnHalves.l0]
    have e1 : wrap64 (wrap64 (32 * (n : Int)) + 32) = 32 * n + 32 := by rw [w64 (n := 32 * (n : Int)) (by omega) (by omega), w64 (by omega) (by omega)]
    have e2 : (s.extract 0 (32 * n)).size = 32 * n := by rw [ByteArray.size_extract]; omega
    have e3 : wrap64 (wrap64 ((s.size : Int) / 32) * 32) = (s.size : Int) / 32 * 32 := by rw [w64 (n := (s.size : Int) / 32) (by omega) (by omega), w64 (by omega) (by omega)]
    rw [e1, if_neg (by omega), e3, e2, if_pos (by omega), if_pos (by omega), if_pos (by omega), w64 (n := (s.size : Int) / 32) (by omega) (by omega), show (((32 * n : Nat) : Int)).toNat = 32 * n by omega, if_pos rfl, iHalf _ _ (by omega), iHalf _ _ (by omega)]
    have h1 : halfP s ((s.size : Int) / 32) = ⟨#[]⟩ := by unfold halfP; rw [if_neg (by omega)]
    have h2 : halfP s (-1) = ⟨#[]⟩ := by unfold halfP; rw [if_neg (by omega)]
    have h0 : (⟨#[]⟩ : ByteArray).toList = [] := by rw [ByteArray.toList_eq]
    rw [h1, h2]; simp [h0]
  | succ d ih =>
    intro n hn
    refine Ev.step (fun k => ?_) (ih (n + 1) (by omega))
    simp only [laws_FnHalves.l0]
    have e1 : wrap64 (wrap64 (32 * (n : Int)) + 32) = 32 * n + 32 := by rw [w64 (n := 32 * (n : Int)) (by omega) (by omega), w64 (by omega) (by omega)]
    have e2 : (s.extract 0 (32 * n)).size = 32 * n := by rw [ByteArray.size_extract]; omega
    rw [e1, if_pos (by omega), iHalf _ _ (by omega)]
    simp only [Option.bind_some]
    have h1 : halfP s n = s.extract (32 * n) (32 * (n + 1)) := by
      unfold halfP; rw [if_pos (by omega), show (32 * (n : Int)).toNat = 32 * n by omega, show (32 * (n : Int) + 32).toNat = 32 * (n + 1) by omega]
    rw [h1, if_pos (by rw [e2, ByteArray.size_extract]; omega), cut_next s _ _ (by omega), w64 (by omega) (by omega)]; rfl
theorem FnHalves : laws_FnHalves.Pure := by
  intro l _ h1 h2
  have h := RdOk.start h1 h2
  by_cases hb : (l.length : Int) > 1048576
  · exact ⟨0, by unfold laws_FnHalves.f laws_big.f; simp [hb]⟩
  · obtain ⟨s, n, e, hs⟩ := drawHalf h
    have e2 := halves_in s hs (s.size / 32) 0 (by omega)
    refine Ev.rounds (evThen (f := fun k bt158 => laws_FnHalves.l0 k bt158.1 (⟨#[]⟩ : ByteArray) 0) e (fun k => ?_) (Ev.congr (fun k => ?_) e2))
    · unfold laws_FnHalves.f laws_big.f; simp only [Option.bind_some]; rw [if_neg (by simpa using hb)]
    · have : s.extract 0 (32 * 0) = ⟨#[]⟩ := by apply ByteArray.ext; simp
      rw [this]; rfl
end Go.Proofs.Ytpkekjddhkngcaa.Pure
