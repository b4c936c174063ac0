/- A right configuration comes back from its line, and what is read and encoded again has just its bytes: the law's function returns true for every slice of drawn bytes, with no condition. -/
import Derived.Test.YtknllhfhcgahiaaDoorPFnSupersx0
import Derived.Test.YtknllhfhcgahiaaDoorPFnSupersx1
import Derived.Test.YtknllhfhcgahiaaDoorPFnSupersx2
import Derived.Test.YtknllhfhcgahiaaDoorPFnSupersx3
import Derived.Test.YtknllhfhcgahiaaDoorPFnSupersx4
import Derived.Test.YtknllhfhcgahiaaDoorPFnSupersx5
import Derived.Test.YtknllhfhcgahiaaDoorPFnSupersx6
import Derived.Test.YtknllhfhcgahiaaDoorPFnSupersx7
import Derived.Test.YtknllhfhcgahiaaDoorPFnSupersx8
import Derived.Test.YtknllhfhcgahiaaDoorPFnSupersx9
import Derived.Test.YtknllhfhcgahiaaDoorPFnSupersx10
import Derived.Test.YtknllhfhcgahiaaDoorPFnSupersx11
import Derived.Test.YtknllhfhcgahiaaDoorPFnSupersx12
import Derived.Test.YtknllhfhcgahiaaDoorPFnSupersx13
import Derived.Test.YtknllhfhcgahiaaDoorPFnSupersx14
namespace Go.Proofs.YtknllhfhcgahiaaDoor.Pure
open Go.RowKit Go.Proofs.YtknllhfhcgahiaaDoor.PFnSupers Go.Proofs.YtknllhfhcgahiaaDoorW.PrintWords Go.Proofs.YtknllhfhcgahiaaDoorW.PrintLast
set_option linter.unusedVariables false
set_option linter.unusedSimpArgs false
theorem sIn (a b c : Int) : spec_l1In.f a b c = some (decide (b ≤ a ∧ a ≤ c)) := by
  unfold spec_l1In.f
  by_cases h : a ≥ b
  · rw [if_pos h]; congr 1; rw [decide_eq_decide]; omega
  · rw [if_neg h]; congr 1; symm; rw [decide_eq_false_iff_not]; omega
theorem w64 {n : Int} (h0 : -9223372036854775808 ≤ n) (h1 : n ≤ 9223372036854775807) : wrap64 n = n := by unfold wrap64; omega
theorem u64 (n : Int) : IntKind.u64.wrap n = n % 18446744073709551616 := by simp [IntKind.wrap, IntKind.bits, IntKind.signed]
theorem evThen {α β : Type} {g : Nat → Option α} {h : Nat → Option β} {f : Nat → α → Option β} {a : α} {r : β} (e : Ev g a) (he : ∀ k, h k = (g k).bind (f k)) (k : Ev (fun n => f n a) r) : Ev h r := Ev.congr he (Ev.bind e k)
theorem evIs {α : Type} {g : Nat → Option α} {r : α} (h : ∀ k, g k = some r) : Ev g r := ⟨0, fun k _ => h k⟩
theorem evIs1 {α : Type} {g : Nat → Option α} {r : α} (h : ∀ k, g (k + 1) = some r) : Ev g r := ⟨1, fun k hk => by cases k with | zero => omega | succ k => exact h k⟩
theorem ok_at (s : ByteArray) (i : Nat) (h : i < s.size) (h' : i < s.data.toList.length) : impl_isType.ok (s.data.toList[i]) = (decide (bt s (i : Int) = 105) || decide (bt s (i : Int) = 114)) := by
  have e : bt s (i : Int) = ((s.data.toList[i]).toNat : Int) := by
    rw [← bt_at s (i : Int) (by rw [Int.toNat_natCast]; exact h)]
    simp only [Int.toNat_natCast, Array.getElem_toList]; rfl
  rw [e]
  generalize s.data.toList[i] = b
  unfold impl_isType.ok
  have g : ∀ n : UInt8, (b == n) = decide ((b.toNat : Int) = (n.toNat : Int)) := by
    intro n
    by_cases hb : b = n
    · subst hb; simp
    · have : ¬ ((b.toNat : Int) = (n.toNat : Int)) := fun q => hb (UInt8.toNat_inj.1 (by omega))
      simp [hb, this]
  rw [g 105, g 114]; rfl
theorem isType_ok (s : ByteArray) (h : impl_isType.g s = true) : 1 ≤ s.size ∧ s.size ≤ 23 ∧ ∀ i : Nat, i < s.size → (bt s (i : Int) = 105 ∨ bt s (i : Int) = 114) := by
  unfold impl_isType.g at h
  rw [Bool.and_eq_true, decide_eq_true_eq, List.all_eq_true] at h
  refine ⟨by omega, by omega, fun i hi => ?_⟩
  have hl : i < s.data.toList.length := by rw [Array.length_toList]; exact hi
  have := h.2 _ (List.getElem_mem hl)
  rw [ok_at s i hi hl] at this
  simpa using this
theorem sTyp_l (s : ByteArray) (hs : s.size ≤ 9223372036854775807) : ∀ (n i : Nat), i + n = s.size → Ev (fun k => spec_l3Type.l0 k s (i : Int)) (decide (1 ≤ (s.size : Int) ∧ (s.size : Int) ≤ 23) && (s.data.toList.drop i).all impl_isType.ok) := by
  intro n
  have hl : s.data.toList.length = s.size := Array.length_toList
  induction n with
  | zero =>
    intro i hi
    refine evIs1 fun k => ?_
    simp only [spec_l3Type.l0]
    rw [if_neg (by omega), sIn, Option.bind_some, List.drop_eq_nil_iff.2 (by omega), List.all_nil, Bool.and_true]
  | succ n ih =>
    intro i hi
    have ih := ih (i + 1) (by omega)
    have hil : i < s.data.toList.length := by omega
    have e := ok_at s i (by omega) hil
    rw [List.drop_eq_getElem_cons hil, List.all_cons, e]
    by_cases c1 : bt s (i : Int) = 105
    · rw [decide_eq_true c1, Bool.true_or, Bool.true_and]
      refine Ev.step (f := fun k => spec_l3Type.l0 k s ((i + 1 : Nat) : Int)) (fun k => ?_) ih
      simp only [spec_l3Type.l0]
      rw [if_pos (by omega), if_pos (by omega), if_pos c1, w64 (by omega) (by omega)]; rfl
    · by_cases c2 : bt s (i : Int) = 114
      · rw [decide_eq_true c2, Bool.or_true, Bool.true_and]
        refine Ev.step (f := fun k => spec_l3Type.l0 k s ((i + 1 : Nat) : Int)) (fun k => ?_) ih
        simp only [spec_l3Type.l0]
        rw [if_pos (by omega), if_pos (by omega), if_neg c1, if_pos c2, w64 (by omega) (by omega)]; rfl
      · rw [decide_eq_false c1, decide_eq_false c2, Bool.or_false, Bool.false_and, Bool.and_false]
        refine evIs1 fun k => ?_
        simp only [spec_l3Type.l0]
        rw [if_pos (by omega), if_pos (by omega), if_neg c1, if_neg c2]
theorem sTyp (s : ByteArray) (hs : s.size ≤ 9223372036854775807) : Ev (fun k => spec_l3Type.f k s) (impl_isType.g s) :=
  Ev.congr (fun k => rfl) (sTyp_l s hs s.size 0 (by omega))
theorem rdS (l : List ByteArray) (i : Nat) (h : i < l.length) : rdOf ByteArray.empty l (i : Int) = l[i] := by
  unfold rdOf; rw [Int.toNat_natCast, List.getD_eq_getElem?_getD, List.getElem?_eq_getElem h]; rfl
theorem sTys_l (l : List ByteArray) (hl : l.length ≤ 9223372036854775807) (hx : ∀ s ∈ l, s.size ≤ 9223372036854775807) : ∀ (n i : Nat), i + n = l.length → Ev (fun k => spec_TypesOk.l0 k l (i : Int)) ((l.drop i).all impl_isType.g) := by
  intro n
  induction n with
  | zero =>
    intro i hi
    exact evIs1 (fun k => by simp only [spec_TypesOk.l0]; rw [if_neg (by omega), List.drop_eq_nil_iff.2 (by omega)]; rfl)
  | succ n ih =>
    intro i hi
    have hil : i < l.length := by omega
    have ih := ih (i + 1) (by omega)
    have ht := sTyp l[i] (hx _ (List.getElem_mem hil))
    rw [List.drop_eq_getElem_cons hil, List.all_cons]
    refine Ev.step (f := fun k => (spec_l3Type.f k l[i]).bind fun t => if t = true then spec_TypesOk.l0 k l ((i + 1 : Nat) : Int) else some false) (fun k => ?_) ?_
    · simp only [spec_TypesOk.l0]
      rw [if_pos (by omega), if_pos (by omega), rdS l i hil, w64 (by omega) (by omega)]; rfl
    · refine evThen ht (fun k => rfl) ?_
      by_cases c : impl_isType.g l[i] = true
      · rw [c, Bool.true_and]; simp only [if_true]; exact ih
      · rw [Bool.eq_false_iff.2 c, Bool.false_and]; exact evIs fun k => rfl
theorem sTys (l : List ByteArray) (hl : l.length ≤ 9223372036854775807) (hx : ∀ s ∈ l, s.size ≤ 9223372036854775807) : Ev (fun k => spec_TypesOk.f k l) (impl_TypesOk.g l) := by
  have e : ∀ k, spec_TypesOk.f k l = if (decide (1 ≤ (l.length : Int) ∧ (l.length : Int) ≤ 12)) = true then spec_TypesOk.l0 k l 0 else some false := fun k => by
    unfold spec_TypesOk.f; rw [sIn, Option.bind_some]
  unfold impl_TypesOk.g
  by_cases c : 1 ≤ (l.length : Int) ∧ (l.length : Int) ≤ 12
  · rw [decide_eq_true c, Bool.true_and]
    refine Ev.congr (fun k => ?_) (sTys_l l hl hx l.length 0 (by omega))
    rw [e k, decide_eq_true c, if_pos rfl]; rfl
  · rw [decide_eq_false c, Bool.false_and]
    exact evIs fun k => by rw [e k, decide_eq_false c]; rfl
def cfgB (a b c : Int) : Bool := decide ((8 ≤ a ∧ a ≤ 128) ∧ (1 ≤ b ∧ b ≤ 32) ∧ b ≤ a - 5 ∧ (2 ≤ c ∧ c ≤ 400))
def cfgP (a b c : Int) (l : List ByteArray) : Bool := cfgB a b c && impl_TypesOk.g l
theorem cfgB_no {a b c : Int} (h : ¬ ((8 ≤ a ∧ a ≤ 128) ∧ (1 ≤ b ∧ b ≤ 32) ∧ b ≤ a - 5 ∧ (2 ≤ c ∧ c ≤ 400))) : cfgB a b c = false := decide_eq_false h
theorem cfgP_of {a b c : Int} {l : List ByteArray} (h : cfgP a b c l = true) : ((8 ≤ a ∧ a ≤ 128) ∧ (1 ≤ b ∧ b ≤ 32) ∧ b ≤ a - 5 ∧ (2 ≤ c ∧ c ≤ 400)) ∧ impl_TypesOk.g l = true := by
  unfold cfgP cfgB at h; rw [Bool.and_eq_true, decide_eq_true_eq] at h; exact h
theorem tys_of {l : List ByteArray} (h : impl_TypesOk.g l = true) : 1 ≤ l.length ∧ l.length ≤ 12 ∧ ∀ s ∈ l, impl_isType.g s = true := by
  unfold impl_TypesOk.g at h; rw [Bool.and_eq_true, decide_eq_true_eq, List.all_eq_true] at h; exact ⟨by omega, by omega, h.2⟩
theorem sCfg_eq (a b c : Int) (l : List ByteArray) (k : Nat) : spec_ConfigOk.f k a b c l = if cfgB a b c = true then spec_TypesOk.f k l else some false := by
  unfold spec_ConfigOk.f
  rw [sIn, Option.bind_some]
  by_cases c1 : 8 ≤ a ∧ a ≤ 128
  · rw [decide_eq_true c1, if_pos rfl, sIn, Option.bind_some]
    by_cases c2 : 1 ≤ b ∧ b ≤ 32
    · rw [decide_eq_true c2, if_pos rfl, w64 (by omega) (by omega)]
      by_cases c3 : b ≤ a - 5
      · rw [if_pos c3, sIn, Option.bind_some]
        by_cases c4 : 2 ≤ c ∧ c ≤ 400
        · rw [decide_eq_true c4, if_pos rfl, if_pos (show cfgB a b c = true from decide_eq_true ⟨c1, c2, c3, c4⟩)]
          cases spec_TypesOk.f k l <;> rfl
        · rw [decide_eq_false c4, if_neg (by decide), cfgB_no (fun h => c4 h.2.2.2), if_neg (by decide)]
      · rw [if_neg c3, cfgB_no (fun h => c3 h.2.2.1), if_neg (by decide)]
    · rw [decide_eq_false c2, if_neg (by decide), cfgB_no (fun h => c2 h.2.1), if_neg (by decide)]
  · rw [decide_eq_false c1, if_neg (by decide), cfgB_no (fun h => c1 h.1), if_neg (by decide)]
theorem sCfg (a b c : Int) (l : List ByteArray) (hl : l.length ≤ 9223372036854775807) (hx : ∀ s ∈ l, s.size ≤ 9223372036854775807) : Ev (fun k => spec_ConfigOk.f k a b c l) (cfgP a b c l) := by
  unfold cfgP
  by_cases h : cfgB a b c = true
  · rw [h, Bool.true_and]; exact Ev.congr (fun k => by rw [sCfg_eq, if_pos h]) (sTys l hl hx)
  · rw [Bool.eq_false_iff.2 h, Bool.false_and]; exact evIs fun k => by rw [sCfg_eq, if_neg h]
theorem iIn (a b c : Int) : impl_within.f a b c = some (decide (b ≤ a ∧ a ≤ c)) := by
  unfold impl_within.f
  by_cases h : a ≥ b
  · rw [if_pos h]; congr 1; rw [decide_eq_decide]; omega
  · rw [if_neg h]; congr 1; symm; rw [decide_eq_false_iff_not]; omega
theorem iCfg (a b c : Int) (l : List ByteArray) : impl_ConfigOk.f a b c l = some (cfgP a b c l) := by
  unfold impl_ConfigOk.f cfgP
  rw [iIn, Option.bind_some]
  by_cases c1 : 8 ≤ a ∧ a ≤ 128
  · have hm : mn 32 (wrap64 (a - 5)) = mn 32 (a - 5) := by rw [w64 (by omega) (by omega)]
    rw [decide_eq_true c1, if_pos rfl, hm, iIn, Option.bind_some]
    by_cases c2 : 1 ≤ b ∧ b ≤ mn 32 (a - 5)
    · rw [decide_eq_true c2, if_pos rfl, iIn, Option.bind_some]
      have c2' : (1 ≤ b ∧ b ≤ 32) ∧ b ≤ a - 5 := by unfold mn at c2; split at c2 <;> omega
      by_cases c4 : 2 ≤ c ∧ c ≤ 400
      · rw [decide_eq_true c4, if_pos rfl, show cfgB a b c = true from decide_eq_true ⟨c1, c2'.1, c2'.2, c4⟩, Bool.true_and]; rfl
      · rw [decide_eq_false c4, if_neg (by decide), cfgB_no (fun h => c4 h.2.2.2)]; rfl
    · rw [decide_eq_false c2, if_neg (by decide), cfgB_no (fun h => c2 (by unfold mn; split <;> omega))]; rfl
  · rw [decide_eq_false c1, if_neg (by decide), cfgB_no (fun h => c1 h.1)]; rfl
theorem xorN (a b : Nat) (ha : a < 4294967296) (hb : b < 4294967296) : Go.bits .xor .u32 (a : Int) (b : Int) = ((a ^^^ b : Nat) : Int) := by
  have hx : a ^^^ b < 2 ^ 32 := Nat.xor_lt_two_pow (by omega) (by omega)
  show IntKind.u32.wrap (((BitVec.ofInt 32 (a : Int) ^^^ BitVec.ofInt 32 (b : Int)).toNat : Nat) : Int) = _
  rw [BitVec.toNat_xor, BitVec.ofInt_natCast, BitVec.ofInt_natCast, BitVec.toNat_ofNat, BitVec.toNat_ofNat, Nat.mod_eq_of_lt (by omega : a < 2 ^ 32), Nat.mod_eq_of_lt (by omega : b < 2 ^ 32), IntKind.wrap_u32]
  omega
theorem xor_lt (a b : Nat) (ha : a < 4294967296) (hb : b < 4294967296) : a ^^^ b < 4294967296 := Nat.xor_lt_two_pow (n := 32) (by omega) (by omega)
theorem and1 (c : Nat) (h : c < 4294967296) : Go.bits .and .u32 (c : Int) 1 = ((c % 2 : Nat) : Int) := by
  have e := bits_mask .u32 32 (by decide) (fun n h0 h1 => by rw [IntKind.wrap_u32]; omega) 1 (by decide) (c : Int) (by omega) (by omega)
  simpa using e
/-- one bit of the checksum -/
def crcBit (c : Nat) : Nat := if c % 2 = 1 then (c / 2) ^^^ 3988292384 else c / 2
def crcBits : Nat → Nat → Nat
  | 0, c => c
  | n + 1, c => crcBits n (crcBit c)
theorem crcBit_lt {c : Nat} (h : c < 4294967296) : crcBit c < 4294967296 := by
  unfold crcBit; split
  · exact xor_lt _ _ (by omega) (by omega)
  · omega
theorem crcBits_lt : ∀ (n : Nat) {c : Nat}, c < 4294967296 → crcBits n c < 4294967296
  | 0, _, h => h
  | n + 1, _, h => crcBits_lt n (crcBit_lt h)
/-- a byte, as a number -/
def btN (s : ByteArray) (i : Nat) : Nat := (bt s i).toNat
theorem btN_le (s : ByteArray) (i : Nat) : btN s i ≤ 255 := by have := bt_range s i; unfold btN; omega
theorem btN_cast (s : ByteArray) (i : Nat) : ((btN s i : Nat) : Int) = bt s i := by have := bt_range s i; unfold btN; omega
/-- the state behind the first n bytes -/
def crcAt (s : ByteArray) : Nat → Nat
  | 0 => 4294967295
  | n + 1 => crcBits 8 (crcAt s n ^^^ btN s n)
theorem crcAt_lt (s : ByteArray) : ∀ n, crcAt s n < 4294967296
  | 0 => by show 4294967295 < 4294967296; omega
  | n + 1 => crcBits_lt 8 (xor_lt _ _ (crcAt_lt s n) (by have := btN_le s n; omega))
def crcNum (s : ByteArray) : Nat := 4294967295 ^^^ crcAt s s.size
theorem crcNum_lt (s : ByteArray) : crcNum s < 4294967296 := xor_lt _ _ (by omega) (crcAt_lt s _)
def four (x : Int) : List Int := [x / 16777216 % 256, x / 65536 % 256, x / 256 % 256, x % 256]
def crcStr (s : ByteArray) : ByteArray := strOfNums (four (crcNum s))
theorem crcStr_size (s : ByteArray) : (crcStr s).size = 4 := by rw [crcStr, strOfNums_size]; rfl
/-- so many zero bytes -/
def zs (n : Nat) : ByteArray := strOfNums (List.replicate n 0)
theorem zs_size (n : Nat) : (zs n).size = n := by rw [zs, strOfNums_size]; simp
/-- what a string is sealed as -/
def pad (s : ByteArray) : ByteArray := s ++ zs (60 - s.size)
theorem pad_size (s : ByteArray) (h : s.size ≤ 60) : (pad s).size = 60 := by rw [pad, ByteArray.size_append, zs_size]; omega
def sealedP (s : ByteArray) : ByteArray := if 60 < s.size then (⟨#[]⟩ : ByteArray) else pad s ++ crcStr (pad s)
theorem sealedP_size (s : ByteArray) (h : s.size ≤ 60) : (sealedP s).size = 64 := by
  unfold sealedP; rw [if_neg (by omega), ByteArray.size_append, pad_size s h, crcStr_size]
theorem sZeros (n : Nat) (h : n ≤ 281474976710656) : spec_l1Zeros.f (n : Int) = some (zs n) := by
  unfold spec_l1Zeros.f; rw [if_pos (by omega), if_pos (by omega)]; rfl
theorem sCrc_in (s : ByteArray) (x4 : Int) (r : ByteArray) : ∀ (d j c : Nat), j + d = 8 → c < 4294967296 → Ev (fun k => spec_l1Crc.l0 k s (crcBits d c : Nat) (wrap64 (x4 + 1))) r → Ev (fun k => spec_l1Crc.l1 k s (c : Nat) x4 j) r := by
  intro d
  induction d with
  | zero =>
    intro j c hj hc h
    refine Ev.step (f := fun k => spec_l1Crc.l0 k s (c : Nat) (wrap64 (x4 + 1))) (fun k => ?_) h
    simp only [spec_l1Crc.l1]; rw [if_neg (by omega)]
  | succ d ih =>
    intro j c hj hc h
    refine Ev.step (f := fun k => spec_l1Crc.l1 k s (crcBit c : Nat) x4 ((j + 1 : Nat) : Int)) (fun k => ?_) (ih (j + 1) (crcBit c) (by omega) (crcBit_lt hc) h)
    simp only [spec_l1Crc.l1]; rw [if_pos (by omega), w64 (n := (j : Int) + 1) (by omega) (by omega)]
    have e2 : ((c : Int) / 2) = ((c / 2 : Nat) : Int) := by omega
    have e1 : Int.tmod (c : Int) 2 = ((c % 2 : Nat) : Int) := by rw [Int.tmod_eq_emod_of_nonneg (by omega)]; omega
    rw [e1, e2]
    unfold crcBit
    by_cases h1 : c % 2 = 1
    · rw [if_pos (by omega), if_pos h1, show (3988292384 : Int) = ((3988292384 : Nat) : Int) from rfl, xorN _ _ (by omega) (by omega)]; rfl
    · rw [if_neg (by omega), if_neg h1]; rfl
theorem sCrc_out (s : ByteArray) (hs : s.size ≤ 4611686018427387904) : ∀ (d i : Nat), i + d = s.size → Ev (fun k => spec_l1Crc.l0 k s (crcAt s i : Nat) i) (crcStr s) := by
  intro d
  induction d with
  | zero =>
    intro i hi
    refine Ev.step (f := fun _ => some (crcStr s)) (fun k => ?_) (Ev.now _)
    simp only [spec_l1Crc.l0]; rw [if_neg (by omega)]
    obtain rfl : i = s.size := by omega
    rw [show (4294967295 : Int) = ((4294967295 : Nat) : Int) from rfl, xorN _ _ (by omega) (crcAt_lt s _)]; rfl
  | succ d ih =>
    intro i hi
    have hb := btN_le s i
    refine Ev.step (f := fun k => spec_l1Crc.l1 k s ((crcAt s i ^^^ btN s i : Nat) : Int) i ((0 : Nat) : Int)) (fun k => ?_) ?_
    · simp only [spec_l1Crc.l0]; rw [if_pos (by omega), if_pos (by omega), ← btN_cast, show ((btN s i : Nat) : Int) % 4294967296 = (btN s i : Nat) by omega, xorN _ _ (crcAt_lt s i) (by omega)]; rfl
    · refine sCrc_in s i _ 8 0 _ rfl (xor_lt _ _ (crcAt_lt s i) (by omega)) ?_
      have := ih (i + 1) (by omega)
      rw [w64 (n := (i : Int) + 1) (by omega) (by omega)]
      exact this
theorem sCrc (s : ByteArray) (hs : s.size ≤ 4611686018427387904) : Ev (fun k => spec_l1Crc.f k s) (crcStr s) := by
  refine Ev.congr (fun k => ?_) (sCrc_out s hs s.size 0 (by omega))
  rfl
theorem sSealed (s : ByteArray) (hs : s.size ≤ 4611686018427387904) : Ev (fun k => spec_Sealed.f k s) (sealedP s) := by
  by_cases h : (s.size : Int) > 60
  · refine evIs fun k => ?_
    unfold spec_Sealed.f sealedP; rw [if_pos h, if_pos (by omega)]
  · have hz := pad_size s (by omega)
    have e : ∀ k, spec_Sealed.f k s = (spec_l1Crc.f k (pad s)).bind fun t => (if (pad s).size + t.size ≤ 9223372036854775807 then some (pad s ++ t) else none) := by
      intro k
      unfold spec_Sealed.f
      rw [if_neg h, w64 (by omega) (by omega), show (60 : Int) - (s.size : Int) = ((60 - s.size : Nat) : Int) by omega, sZeros _ (by omega)]
      simp only [Option.bind_some]
      rw [if_pos (by rw [zs_size]; omega)]; rfl
    refine evThen (sCrc (pad s) (by omega)) e (evIs fun k => ?_)
    rw [if_pos (by rw [hz, crcStr_size]; omega)]
    unfold sealedP; rw [if_neg (by omega)]
def wbx (x : Int) : List Int := [x / 72057594037927936 % 256, x / 281474976710656 % 256, x / 1099511627776 % 256, x / 4294967296 % 256, x / 16777216 % 256, x / 65536 % 256, x / 256 % 256, x % 256]
def wb (a : Int) : ByteArray := strOfNums (wbx (a % 18446744073709551616))
theorem wb_size (a : Int) : (wb a).size = 8 := by rw [wb, strOfNums_size]; rfl
theorem bt_strOfNums (xs : List Int) (h : ∀ x ∈ xs, 0 ≤ x ∧ x ≤ 255) (i : Nat) (hi : i < xs.length) : bt (strOfNums xs) i = xs[i] := by
  have e := bt_at (strOfNums xs) i (by rw [strOfNums_size]; simpa using hi)
  rw [← e]
  have hx := h xs[i] (List.getElem_mem hi)
  simp only [strOfNums, ByteArray.getElem_eq_getElem_data]
  simp
  omega
theorem sWB (k : Nat) (a0 : Int) : spec_WordBytes.f (k + 9) a0 = some (wb a0) := by
  unfold spec_WordBytes.f
  simp (config := {maxSteps := 1000000}) [spec_WordBytes.l0, wrap64, u64, List.replicate, shr, IntKind.bits, wb, wbx]
/-- two bytes -/
def sb (n : Int) : ByteArray := if 0 ≤ n ∧ n ≤ 65535 then strOfNums [n / 256 % 256, n % 256] else (⟨#[]⟩ : ByteArray)
theorem cut6 (a b c d e f g h : Int) : (strOfNums [a, b, c, d, e, f, g, h]).extract 6 (strOfNums [a, b, c, d, e, f, g, h]).size = strOfNums [g, h] := by
  apply ByteArray.ext
  simp [strOfNums, ByteArray.size]
theorem or8 (a b : Int) (ha : 0 ≤ a) (ha1 : a ≤ 255) (hb : 0 ≤ b) (hb1 : b ≤ 255) : Go.bits .or .i64 (a * 256) b = a * 256 + b :=
  bits_join .i64 63 (by decide) (fun n h0 h1 => by rw [IntKind.wrap_i64]; omega) 8 _ _ (by omega) (by omega) (by omega) hb (by omega) (by omega)
theorem sSB (k : Nat) (n : Int) : spec_ShortBytes.f (k + 9) n = some (sb n) := by
  unfold spec_ShortBytes.f
  rw [sIn, sWB]; simp only [Option.bind_some, sb]
  by_cases h : 0 ≤ n ∧ n ≤ 65535
  · rw [if_pos (by simpa using h), if_pos h, if_pos (by rw [wb_size]; omega)]
    have e : n % 18446744073709551616 = n := by omega
    unfold wb; rw [e]; unfold wbx; rw [cut6]
  · rw [if_neg (by simpa using h), if_neg h]
theorem sSB_ev (n : Int) : Ev (fun k => spec_ShortBytes.f k n) (sb n) := ⟨9, fun k hk => by
  obtain ⟨m, rfl⟩ : ∃ m, k = m + 9 := ⟨k - 9, by omega⟩
  exact sSB m n⟩
def maskP (s : ByteArray) : Nat → Nat → Int → Int
  | 0, _, m => m
  | n + 1, i, m => maskP s n (i + 1) (if bt s (i : Int) = 114 then Go.bits .or .i64 m (shl .i64 1 (i : Int)) else m)
def typP (s : ByteArray) (m : Int) : ByteArray := strOfNums [((s.size : Int)) % 256, (m / 65536) % 256, (m / 256) % 256, m % 256]
def supP : List ByteArray → ByteArray → ByteArray
  | [], x => x
  | s :: r, x => supP r (x ++ typP s (maskP s s.size 0 0))
theorem typP_size (s : ByteArray) (m : Int) : (typP s m).size = 4 := by unfold typP; rw [strOfNums_size]; rfl
theorem sb_le (n : Int) : (sb n).size ≤ 2 := by
  unfold sb; split
  · rw [strOfNums_size]; exact Nat.le_refl _
  · decide
def supHead (a b c : Int) (n : Nat) : ByteArray := ((((⟨#[78, 86, 71, 49]⟩ : ByteArray) ++ sb a) ++ sb b) ++ sb c) ++ strOfNums [(n : Int) % 256]
theorem one_size (m : Int) : (strOfNums [m]).size = 1 := by rw [strOfNums_size]; rfl
theorem supHead_size (a b c : Int) (n : Nat) : (supHead a b c n).size ≤ 11 := by
  unfold supHead
  have h1 := sb_le a
  have h2 := sb_le b
  have h3 := sb_le c
  simp only [ByteArray.size_append, one_size]
  show 4 + _ + _ + _ + 1 ≤ 11
  omega
def superP (a b c : Int) (l : List ByteArray) : ByteArray := if cfgP a b c l = true then sealedP (supP l (supHead a b c l.length)) else (⟨#[]⟩ : ByteArray)
theorem supP_size : ∀ (l : List ByteArray) (x : ByteArray), (supP l x).size = x.size + 4 * l.length
  | [], x => rfl
  | s :: r, x => by rw [supP, supP_size r, ByteArray.size_append, typP_size, List.length_cons]; omega
theorem sSup_l1 (x : ByteArray) (l : List ByteArray) (a b c : Int) (i : Nat) (hi : i < l.length) (hx : x.size ≤ 1099511627776) (hs : (l[i]).size ≤ 9223372036854775807) (r : ByteArray) : ∀ (n j : Nat) (m : Int), j + n = (l[i]).size →
    Ev (fun k => spec_l3Super.l0 k (x ++ typP l[i] (maskP l[i] n j m)) (wrap64 ((i : Int) + 1)) a b c l) r → Ev (fun k => spec_l3Super.l1 k x (i : Int) m (j : Int) a b c l) r := by
  intro n
  induction n with
  | zero =>
    intro j m hj h
    refine Ev.step (f := fun k => spec_l3Super.l0 k (x ++ typP l[i] m) (wrap64 ((i : Int) + 1)) a b c l) (fun k => ?_) h
    simp only [spec_l3Super.l1]
    rw [rdS l i hi, if_pos (by omega), if_pos (by omega), if_neg (by omega), Option.bind_some, if_pos (by show _ + (typP l[i] m).size ≤ _; rw [typP_size]; omega)]
    rfl
  | succ n ih =>
    intro j m hj h
    have ih := ih (j + 1) (if bt l[i] (j : Int) = 114 then Go.bits .or .i64 m (shl .i64 1 (j : Int)) else m) (by omega) h
    refine Ev.step (f := fun k => spec_l3Super.l1 k x (i : Int) (if bt l[i] (j : Int) = 114 then Go.bits .or .i64 m (shl .i64 1 (j : Int)) else m) ((j + 1 : Nat) : Int) a b c l) (fun k => ?_) ih
    simp only [spec_l3Super.l1]
    have hu : IntKind.u64.wrap (j : Int) = (j : Int) := by rw [u64]; omega
    rw [rdS l i hi, if_pos (by omega), if_pos (by omega), if_pos (by omega), if_pos (by omega), w64 (n := (j : Int) + 1) (by omega) (by omega), hu, if_pos (show (0 : Int) ≤ (j : Int) by omega)]
    by_cases c : bt l[i] (j : Int) = 114
    · rw [if_pos c, if_pos c]; rfl
    · rw [if_neg c, if_neg c]; rfl
theorem sSup_l0 (l : List ByteArray) (a b c : Int) (hl : l.length ≤ 1048576) (hs : ∀ s ∈ l, s.size ≤ 9223372036854775807) : ∀ (n i : Nat) (x : ByteArray), i + n = l.length → x.size + 4 * n ≤ 1099511627776 → Ev (fun k => spec_l3Super.l0 k x (i : Int) a b c l) (sealedP (supP (l.drop i) x)) := by
  intro n
  induction n with
  | zero =>
    intro i x hi hx
    rw [List.drop_eq_nil_iff.2 (by omega)]
    refine Ev.step (f := fun k => (spec_Sealed.f k x).bind fun t => some t) (fun k => by simp only [spec_l3Super.l0]; rw [if_neg (by omega)]) ?_
    exact evThen (sSealed x (by omega)) (fun k => rfl) (evIs fun k => rfl)
  | succ n ih =>
    intro i x hi hx
    have hil : i < l.length := by omega
    rw [List.drop_eq_getElem_cons hil, supP]
    refine Ev.step (f := fun k => spec_l3Super.l1 k x (i : Int) 0 ((0 : Nat) : Int) a b c l) (fun k => by simp only [spec_l3Super.l0]; rw [if_pos (by omega)]; rfl) ?_
    refine sSup_l1 x l a b c i hil (by omega) (hs _ (List.getElem_mem hil)) _ (l[i]).size 0 0 (by omega) ?_
    have := ih (i + 1) (x ++ typP l[i] (maskP l[i] (l[i]).size 0 0)) (by omega) (by rw [ByteArray.size_append, typP_size]; omega)
    rw [w64 (by omega) (by omega)]
    exact this
theorem sSup (a b c : Int) (l : List ByteArray) (hl : l.length ≤ 1048576) (hs : ∀ s ∈ l, s.size ≤ 9223372036854775807) : Ev (fun k => spec_l3Super.f k a b c l) (sealedP (supP l (supHead a b c l.length))) := by
  have h1 := sb_le a
  have h2 := sb_le b
  have h3 := sb_le c
  refine evThen (sSB_ev a) (fun k => rfl) (Ev.congr (fun k => by rw [if_pos (by omega)]) (evThen (sSB_ev b) (fun k => rfl) (Ev.congr (fun k => by rw [if_pos (by rw [ByteArray.size_append]; show 4 + _ + _ ≤ _; omega)]) (evThen (sSB_ev c) (fun k => rfl) (Ev.congr (fun k => by rw [if_pos (by rw [ByteArray.size_append, ByteArray.size_append]; show 4 + _ + _ + _ ≤ _; omega), Option.bind_some, if_pos (by rw [one_size, ByteArray.size_append, ByteArray.size_append, ByteArray.size_append]; show 4 + _ + _ + _ + 1 ≤ _; omega)]) ?_)))))
  have hh := supHead_size a b c l.length
  have := sSup_l0 l a b c hl hs l.length 0 (supHead a b c l.length) (by omega) (by omega)
  exact this
theorem sSL (a b c : Int) (l : List ByteArray) (hl : l.length ≤ 1048576) (hs : ∀ s ∈ l, s.size ≤ 9223372036854775807) : Ev (fun k => spec_SuperLine.f k a b c l) (superP a b c l) := by
  refine evThen (sCfg a b c l (by omega) hs) (fun k => rfl) ?_
  unfold superP
  by_cases h : cfgP a b c l = true
  · simp only [if_pos h]; exact evThen (sSup a b c l hl hs) (fun k => rfl) (evIs fun k => rfl)
  · simp only [if_neg h]; exact evIs fun k => rfl
theorem iSB (n : Int) : impl_ShortBytes.f n = some (sb n) := by
  unfold impl_ShortBytes.f
  rw [iIn]; simp only [Option.bind_some, sb]
  by_cases h : 0 ≤ n ∧ n ≤ 65535
  · rw [if_pos (by simpa using h), if_pos h]
  · rw [if_neg (by simpa using h), if_neg h]
theorem iZeros (n : Nat) (h : n ≤ 140737488355328) : impl_zeros.f (n : Int) = some (zs n) := by
  unfold impl_zeros.f; rw [if_pos (by omega), if_pos (by omega)]; rfl
theorem iBB4 (k : Nat) (x : Int) : impl_bigBytes.f (k + 5) x 4 = some (strOfNums (four x)) := by
  unfold impl_bigBytes.f
  simp (config := {maxSteps := 1000000}) [impl_bigBytes.l0, wrap64, List.replicate, four, Int.ediv_ediv]
theorem iCrc_in (s : ByteArray) (x10 x11 : Int) (r : ByteArray) : ∀ (d j c : Nat), j + d = 8 → c < 4294967296 → Ev (fun k => impl_Crc.l0 k s (crcBits d c : Nat) x10 (wrap64 (x11 + 1))) r → Ev (fun k => impl_Crc.l1 k s (c : Nat) x10 x11 j) r := by
  intro d
  induction d with
  | zero =>
    intro j c hj hc h
    refine Ev.step (f := fun k => impl_Crc.l0 k s (c : Nat) x10 (wrap64 (x11 + 1))) (fun k => ?_) h
    simp only [impl_Crc.l1]; rw [if_neg (by omega)]
  | succ d ih =>
    intro j c hj hc h
    refine Ev.step (f := fun k => impl_Crc.l1 k s (crcBit c : Nat) x10 x11 ((j + 1 : Nat) : Int)) (fun k => ?_) (ih (j + 1) (crcBit c) (by omega) (crcBit_lt hc) h)
    simp only [impl_Crc.l1]; rw [if_pos (by omega), w64 (n := (j : Int) + 1) (by omega) (by omega), and1 c hc]
    have e2 : ((c : Int) / 2) = ((c / 2 : Nat) : Int) := by omega
    rw [e2]
    unfold crcBit
    by_cases h1 : c % 2 = 1
    · rw [if_pos (by omega), if_pos h1, show (3988292384 : Int) = ((3988292384 : Nat) : Int) from rfl, xorN _ _ (by omega) (by omega)]; rfl
    · rw [if_neg (by omega), if_neg h1]; rfl
theorem iCrc_out (s : ByteArray) (hs : s.size ≤ 4611686018427387904) : ∀ (d i : Nat), i + d = s.size → Ev (fun k => impl_Crc.l0 k s (crcAt s i : Nat) s.size i) (crcStr s) := by
  intro d
  induction d with
  | zero =>
    intro i hi
    obtain rfl : i = s.size := by omega
    refine Ev.step (f := fun k => (impl_bigBytes.f k (crcNum s : Nat) 4).bind fun t => some t) (fun k => ?_) ?_
    · simp only [impl_Crc.l0]; rw [if_neg (by omega), show (4294967295 : Int) = ((4294967295 : Nat) : Int) from rfl, xorN _ _ (by omega) (crcAt_lt s _), u64]
      have := crcNum_lt s
      rw [show ((4294967295 ^^^ crcAt s s.size : Nat) : Int) % 18446744073709551616 = (crcNum s : Nat) by unfold crcNum at *; omega]
    · refine ⟨5, fun k hk => ?_⟩
      obtain ⟨m, rfl⟩ : ∃ m, k = m + 5 := ⟨k - 5, by omega⟩
      show (impl_bigBytes.f (m + 5) (crcNum s : Nat) 4).bind _ = _
      rw [iBB4]; rfl
  | succ d ih =>
    intro i hi
    have hb := btN_le s i
    refine Ev.step (f := fun k => impl_Crc.l1 k s ((crcAt s i ^^^ btN s i : Nat) : Int) s.size i ((0 : Nat) : Int)) (fun k => ?_) ?_
    · simp only [impl_Crc.l0]; rw [if_pos (by omega), if_pos (by omega), if_pos (by omega), ← btN_cast, show ((btN s i : Nat) : Int) % 4294967296 = (btN s i : Nat) by omega, xorN _ _ (crcAt_lt s i) (by omega)]; rfl
    · refine iCrc_in s s.size i _ 8 0 _ rfl (xor_lt _ _ (crcAt_lt s i) (by omega)) ?_
      have := ih (i + 1) (by omega)
      rw [w64 (n := (i : Int) + 1) (by omega) (by omega)]
      exact this
theorem iCrc (s : ByteArray) (hs : s.size ≤ 20000) : Ev (fun k => impl_Crc.f k s) (crcStr s) := by
  refine Ev.congr (fun k => ?_) (iCrc_out s (by omega) s.size 0 (by omega))
  unfold impl_Crc.f; rw [if_neg (by omega)]; rfl
theorem iSealed (s : ByteArray) (hs : s.size ≤ 4611686018427387904) : Ev (fun k => impl_Sealed.f k s) (sealedP s) := by
  by_cases h : (s.size : Int) > 60
  · refine evIs fun k => ?_
    unfold impl_Sealed.f sealedP; rw [if_pos h, if_pos (by omega)]
  · have hz := pad_size s (by omega)
    have e : ∀ k, impl_Sealed.f k s = (impl_Crc.f k (pad s)).bind fun t => (if (pad s).size + t.size ≤ 9223372036854775807 then some (pad s ++ t) else none) := by
      intro k
      unfold impl_Sealed.f
      rw [if_neg h, w64 (by omega) (by omega), show (60 : Int) - (s.size : Int) = ((60 - s.size : Nat) : Int) by omega, iZeros _ (by omega)]
      simp only [Option.bind_some]
      rw [if_pos (by rw [zs_size]; omega)]; rfl
    refine evThen (iCrc (pad s) (by omega)) e (evIs fun k => ?_)
    rw [if_pos (by rw [hz, crcStr_size]; omega)]
    unfold sealedP; rw [if_neg (by omega)]
theorem iSup_l1 (x s : ByteArray) (l : List ByteArray) (n1 i : Int) (hx : x.size ≤ 1099511627776) (hs : s.size ≤ 9223372036854775807) (r : ByteArray) : ∀ (n j : Nat) (m : Int), j + n = s.size →
    Ev (fun k => impl_SuperLine.l0 k (x ++ typP s (maskP s n j m)) l n1 (wrap64 (i + 1))) r → Ev (fun k => impl_SuperLine.l1 k x s m l n1 i (s.size : Int) (j : Int)) r := by
  intro n
  induction n with
  | zero =>
    intro j m hj h
    refine Ev.step (f := fun k => impl_SuperLine.l0 k (x ++ typP s m) l n1 (wrap64 (i + 1))) (fun k => ?_) h
    simp only [impl_SuperLine.l1]
    rw [if_neg (by omega), Option.bind_some, if_pos (by show _ + (typP s m).size ≤ _; rw [typP_size]; omega)]
    rfl
  | succ n ih =>
    intro j m hj h
    have ih := ih (j + 1) (if bt s (j : Int) = 114 then Go.bits .or .i64 m (shl .i64 1 (j : Int)) else m) (by omega) h
    refine Ev.step (f := fun k => impl_SuperLine.l1 k x s (if bt s (j : Int) = 114 then Go.bits .or .i64 m (shl .i64 1 (j : Int)) else m) l n1 i (s.size : Int) ((j + 1 : Nat) : Int)) (fun k => ?_) ih
    simp only [impl_SuperLine.l1]
    rw [if_pos (by omega), if_pos (by omega), if_pos (by omega), w64 (n := (j : Int) + 1) (by omega) (by omega)]
    by_cases c : bt s (j : Int) = 114
    · rw [if_pos c, if_pos c]; rfl
    · rw [if_neg c, if_neg c]; rfl
theorem iSup_l0 (l : List ByteArray) (hl : l.length ≤ 1048576) (hs : ∀ s ∈ l, s.size ≤ 9223372036854775807) : ∀ (n i : Nat) (x : ByteArray), i + n = l.length → x.size + 4 * n ≤ 1099511627776 → Ev (fun k => impl_SuperLine.l0 k x l (l.length : Int) (i : Int)) (sealedP (supP (l.drop i) x)) := by
  intro n
  induction n with
  | zero =>
    intro i x hi hx
    rw [List.drop_eq_nil_iff.2 (by omega)]
    refine Ev.step (f := fun k => (impl_Sealed.f k x).bind fun t => some t) (fun k => by simp only [impl_SuperLine.l0]; rw [if_neg (by omega)]) ?_
    exact evThen (iSealed x (by omega)) (fun k => rfl) (evIs fun k => rfl)
  | succ n ih =>
    intro i x hi hx
    have hil : i < l.length := by omega
    rw [List.drop_eq_getElem_cons hil, supP]
    refine Ev.step (f := fun k => impl_SuperLine.l1 k x l[i] 0 l (l.length : Int) (i : Int) ((l[i]).size : Int) ((0 : Nat) : Int)) (fun k => by simp only [impl_SuperLine.l0]; rw [if_pos (by omega), if_pos (by omega), if_pos (by omega), rdS l i hil]; rfl) ?_
    refine iSup_l1 x l[i] l _ _ (by omega) (hs _ (List.getElem_mem hil)) _ (l[i]).size 0 0 (by omega) ?_
    have := ih (i + 1) (x ++ typP l[i] (maskP l[i] (l[i]).size 0 0)) (by omega) (by rw [ByteArray.size_append, typP_size]; omega)
    rw [w64 (by omega) (by omega)]
    exact this
theorem iSL (a b c : Int) (l : List ByteArray) (hl : l.length ≤ 1048576) (hs : ∀ s ∈ l, s.size ≤ 9223372036854775807) : Ev (fun k => impl_SuperLine.f k a b c l) (superP a b c l) := by
  have h1 := sb_le a
  have h2 := sb_le b
  have h3 := sb_le c
  refine Ev.congr (fun k => by unfold impl_SuperLine.f; rw [iCfg, Option.bind_some]) ?_
  unfold superP
  by_cases h : cfgP a b c l = true
  · simp only [if_pos h, iSB, Option.bind_some]
    refine Ev.congr (fun k => by rw [if_pos (by omega), if_pos (by rw [ByteArray.size_append]; show 4 + _ + _ ≤ _; omega), if_pos (by rw [ByteArray.size_append, ByteArray.size_append]; show 4 + _ + _ + _ ≤ _; omega), if_pos (by rw [one_size, ByteArray.size_append, ByteArray.size_append, ByteArray.size_append]; show 4 + _ + _ + _ + 1 ≤ _; omega)]) ?_
    have hh := supHead_size a b c l.length
    have := iSup_l0 l hl hs l.length 0 (supHead a b c l.length) (by omega) (by omega)
    exact this
  · simp only [if_neg h]; exact evIs fun k => rfl
theorem sRS2 (s : ByteArray) (h : s.size = 2) : spec_ReadShort.f s = some (bt s 0 * 256 + bt s 1, true) := by
  unfold spec_ReadShort.f
  have h0 := bt_range s 0
  have h1 := bt_range s 1
  rw [if_pos (by omega), if_pos (by omega), if_pos (by omega), w64 (n := bt s 0) (by omega) (by omega), w64 (n := bt s 1) (by omega) (by omega), w64 (n := bt s 0 * 256) (by omega) (by omega), w64 (by omega) (by omega)]
theorem ofInt_toNat64 (z : Int) : (BitVec.ofInt 64 z).toNat = (z % 18446744073709551616).toNat := by
  rw [BitVec.toNat_ofInt]; rfl
/-- the number that n bytes tell, the highest one first -/
def hn (s : ByteArray) (i : Int) : Nat → Int
  | 0 => 0
  | n + 1 => hn s i n * 256 + bt s (i + n)
theorem ext_bt {s t : ByteArray} (h : s.size = t.size) (hb : ∀ i : Nat, i < s.size → bt s i = bt t i) : s = t := by
  apply ByteArray.ext
  apply Array.ext h
  intro i h1 h2
  have e := hb i h1
  rw [← bt_at s i (by simpa using h1), ← bt_at t i (by simpa using h2)] at e
  have e2 : (s[i]'h1).toNat = (t[i]'h2).toNat := by
    have : ((s[(i : Int).toNat]'(by simpa using h1)).toNat : Int) = ((t[(i : Int).toNat]'(by simpa using h2)).toNat : Int) := e
    simp only [Int.toNat_natCast] at this
    omega
  exact UInt8.toNat_inj.mp e2
theorem rs_sb (n : Int) (h : 0 ≤ n ∧ n ≤ 65535) : (sb n).size = 2 ∧ bt (sb n) 0 * 256 + bt (sb n) 1 = n := by
  have hr : ∀ x ∈ ([n / 256 % 256, n % 256] : List Int), 0 ≤ x ∧ x ≤ 255 := by intro x hx; simp at hx; omega
  have e0 := bt_strOfNums _ hr 0 (by simp)
  have e1 := bt_strOfNums _ hr 1 (by simp)
  unfold sb; rw [if_pos h]
  refine ⟨by rw [strOfNums_size]; rfl, ?_⟩
  have e0' : bt (strOfNums [n / 256 % 256, n % 256]) 0 = n / 256 % 256 := e0
  have e1' : bt (strOfNums [n / 256 % 256, n % 256]) 1 = n % 256 := e1
  rw [e0', e1']; omega
theorem toList_inj {s t : ByteArray} : s.toList = t.toList ↔ s = t := by
  rw [ByteArray.toList_eq, ByteArray.toList_eq]
  exact ⟨fun h => ByteArray.ext (Array.toList_inj.mp h), fun h => by rw [h]⟩
theorem bt_extract (s : ByteArray) (a b : Nat) (i : Int) (h0 : 0 ≤ i) (hi : a + i < b) (hb : b ≤ s.size) : bt (s.extract a b) i = bt s (a + i) := by
  have h1 : i.toNat < (s.extract a b).size := by rw [ByteArray.size_extract]; omega
  have h2 : ((a : Int) + i).toNat < s.size := by omega
  rw [← bt_at _ i h1, ← bt_at s (a + i) h2]
  have e : ((a : Int) + i).toNat = a + i.toNat := by omega
  simp only [ByteArray.getElem_eq_getElem_data, ByteArray.data_extract, Array.getElem_extract, e]
theorem bt_append_l (s t : ByteArray) (i : Int) (h0 : 0 ≤ i) (hi : i < s.size) : bt (s ++ t) i = bt s i := by
  have h1 : i.toNat < (s ++ t).size := by rw [ByteArray.size_append]; omega
  have h2 : i.toNat < s.size := by omega
  rw [← bt_at _ i h1, ← bt_at s i h2]
  simp only [ByteArray.getElem_eq_getElem_data, ByteArray.data_append]
  rw [Array.getElem_append_left]
theorem bt_append_r (s t : ByteArray) (i : Int) (h0 : s.size ≤ i) (hi : i < s.size + t.size) : bt (s ++ t) i = bt t (i - s.size) := by
  have h1 : i.toNat < (s ++ t).size := by rw [ByteArray.size_append]; omega
  have h2 : (i - s.size).toNat < t.size := by omega
  rw [← bt_at _ i h1, ← bt_at t _ h2]
  have e : (i - (s.size : Int)).toNat = i.toNat - s.data.size := by show _ = i.toNat - s.size; omega
  simp only [ByteArray.getElem_eq_getElem_data, ByteArray.data_append, e]
  rw [Array.getElem_append_right (by show s.size ≤ _; omega)]
theorem extract_append_l (s t : ByteArray) (b : Nat) (h : b ≤ s.size) : (s ++ t).extract 0 b = s.extract 0 b := by
  refine ext_bt (by rw [ByteArray.size_extract, ByteArray.size_extract, ByteArray.size_append]; omega) (fun i hi => ?_)
  rw [ByteArray.size_extract, ByteArray.size_append] at hi
  rw [bt_extract _ _ _ _ (by omega) (by omega) (by rw [ByteArray.size_append]; omega), bt_extract _ _ _ _ (by omega) (by omega) h, bt_append_l _ _ _ (by omega) (by omega)]
theorem extract_all (s : ByteArray) (b : Nat) (h : s.size ≤ b) : s.extract 0 b = s := by
  refine ext_bt (by rw [ByteArray.size_extract]; omega) (fun i hi => ?_)
  rw [ByteArray.size_extract] at hi
  apply congrFun (congrArg bt ?_)
  apply ByteArray.ext
  simp only [ByteArray.data_extract]
  exact Array.extract_eq_self_of_le (by show s.size ≤ b; exact h)
theorem extract_append_r (s t : ByteArray) (b : Nat) (h : s.size + t.size ≤ b) : (s ++ t).extract s.size b = t := by
  refine ext_bt (by rw [ByteArray.size_extract, ByteArray.size_append]; omega) (fun i hi => ?_)
  rw [ByteArray.size_extract, ByteArray.size_append] at hi
  have e : (s ++ t).extract s.size b = (s ++ t).extract s.size (s.size + t.size) := by
    apply ByteArray.ext
    simp only [ByteArray.data_extract]
    rw [Array.extract_eq_extract_right]
    have z : (s.data ++ t.data).size = s.size + t.size := by rw [Array.size_append]; rfl
    rw [← ByteArray.data_append] at z
    rw [z]; omega
  rw [e, bt_extract _ _ _ _ (by omega) (by omega) (by rw [ByteArray.size_append]; omega), bt_append_r _ _ _ (by omega) (by omega)]
  congr 1; omega
/-- what is sealed, opened again -/
def unsP (s : ByteArray) : ByteArray × Bool := if s.size = 64 ∧ crcStr (s.extract 0 60) = s.extract 60 s.size then (s.extract 0 60, true) else ((⟨#[]⟩ : ByteArray), false)
theorem sealed_head (t : ByteArray) (h : t.size ≤ 60) : (sealedP t).extract 0 60 = pad t := by
  unfold sealedP; rw [if_neg (by omega), extract_append_l _ _ _ (by rw [pad_size t h]; omega), extract_all _ _ (by rw [pad_size t h]; omega)]
theorem sealed_tail (t : ByteArray) (h : t.size ≤ 60) : (sealedP t).extract 60 (sealedP t).size = crcStr (pad t) := by
  rw [sealedP_size t h]
  unfold sealedP; rw [if_neg (by omega)]
  have e := extract_append_r (pad t) (crcStr (pad t)) 64 (by rw [pad_size t h, crcStr_size]; omega)
  rw [pad_size t h] at e; exact e
theorem uns_sealed (t : ByteArray) (h : t.size ≤ 60) : unsP (sealedP t) = (pad t, true) := by
  unfold unsP; rw [sealed_head t h, sealed_tail t h, if_pos ⟨sealedP_size t h, rfl⟩]
def kndP (m : Int) : Nat → Nat → ByteArray → ByteArray
  | 0, _, x => x
  | n + 1, k, x => kndP m n (k + 1) (x ++ (if Go.bits .and .i64 (shr .i64 m (k : Int)) 1 = 1 then (⟨#[114]⟩ : ByteArray) else (⟨#[105]⟩ : ByteArray)))
theorem lit1z (b : UInt8) : (⟨#[b]⟩ : ByteArray).size = 1 := rfl
theorem kndP_size (m : Int) : ∀ (n k : Nat) (x : ByteArray), (kndP m n k x).size = x.size + n
  | 0, _, _ => rfl
  | n + 1, k, x => by
    rw [kndP, kndP_size m n, ByteArray.size_append]
    split <;> rw [lit1z] <;> omega
def cntP (s : ByteArray) (i : Nat) : Int := bt s (11 + 4 * (i : Int))
def mskP (s : ByteArray) (i : Nat) : Int := Go.bits .or .i64 (Go.bits .or .i64 (bt s (12 + 4 * (i : Int)) * 65536) (bt s (13 + 4 * (i : Int)) * 256)) (bt s (14 + 4 * (i : Int)))
def oneP (cap : Nat) (s : ByteArray) (i : Nat) : ByteArray := kndP (mskP s i) (min (cntP s i).toNat cap) 0 (⟨#[]⟩ : ByteArray)
theorem oneP_size (cap : Nat) (s : ByteArray) (i : Nat) : (oneP cap s i).size = min (cntP s i).toNat cap := by
  unfold oneP; rw [kndP_size]; show 0 + _ = _; omega
def typsP (cap : Nat) (s : ByteArray) : Nat → Nat → List ByteArray → List ByteArray
  | 0, _, l => l
  | n + 1, i, l => typsP cap s n (i + 1) (l ++ [oneP cap s i])
theorem typsP_map (cap : Nat) (s : ByteArray) : ∀ (n i : Nat) (l : List ByteArray), typsP cap s n i l = l ++ (List.range' i n).map (oneP cap s)
  | 0, _, l => by simp [typsP]
  | n + 1, i, l => by rw [typsP, typsP_map cap s n, List.range'_succ, List.map_cons, List.append_assoc]; rfl
def shP (s : ByteArray) (a : Nat) : Int := bt s (a : Int) * 256 + bt s ((a : Int) + 1)
def supT (cap : Nat) (s : ByteArray) : List ByteArray := typsP cap s (min (bt s 10).toNat 12) 0 []
def finS (s : ByteArray) (a b c : Int) (l : List ByteArray) : Int × Int × Int × List ByteArray × Bool := if superP a b c l = s then (a, b, c, l, true) else (0, 0, 0, [], false)
def rsP (s : ByteArray) : Int × Int × Int × List ByteArray × Bool := if s.size = 64 then finS s (shP s 4) (shP s 6) (shP s 8) (supT 24 s) else (0, 0, 0, [], false)
theorem superP_cfg {a b c : Int} {l : List ByteArray} {s : ByteArray} (hs : s.size = 64) (h : superP a b c l = s) : cfgP a b c l = true := by
  by_cases c1 : cfgP a b c l = true
  · exact c1
  · unfold superP at h; rw [if_neg c1] at h; rw [← h] at hs; exact absurd hs (by decide)
theorem superP_t {a b c : Int} {l : List ByteArray} (h : cfgP a b c l = true) : superP a b c l = sealedP (supP l (supHead a b c l.length)) ∧ (supP l (supHead a b c l.length)).size ≤ 60 := by
  obtain ⟨_, h2⟩ := cfgP_of h
  obtain ⟨_, h4, _⟩ := tys_of h2
  have hh := supHead_size a b c l.length
  exact ⟨by unfold superP; rw [if_pos h], by rw [supP_size]; omega⟩
theorem supP_bt : ∀ (l : List ByteArray) (x : ByteArray) (i : Int), 0 ≤ i → i < x.size → bt (supP l x) i = bt x i
  | [], _, _, _, _ => rfl
  | s :: r, x, i, h0, h1 => by rw [supP, supP_bt r _ i h0 (by rw [ByteArray.size_append]; omega), bt_append_l _ _ _ h0 h1]
theorem sealed_bt (t : ByteArray) (h : t.size ≤ 60) (i : Int) (h0 : 0 ≤ i) (h1 : i < t.size) : bt (sealedP t) i = bt t i := by
  have hp : (pad t).size = 60 := by unfold pad; rw [ByteArray.size_append, zs_size]; omega
  unfold sealedP; rw [if_neg (by omega), bt_append_l _ _ _ h0 (by omega)]
  unfold pad; rw [bt_append_l _ _ _ h0 h1]
theorem sb_two {n : Int} (h : 0 ≤ n ∧ n ≤ 65535) : (sb n).size = 2 := (rs_sb n h).1
theorem head_ten {a b c : Int} {l : List ByteArray} (h : cfgP a b c l = true) : bt (supHead a b c l.length) 10 = (l.length : Int) ∧ (supHead a b c l.length).size = 11 := by
  obtain ⟨h1, h2⟩ := cfgP_of h
  obtain ⟨_, h4, _⟩ := tys_of h2
  have ea := sb_two (n := a) (by omega)
  have eb := sb_two (n := b) (by omega)
  have ec := sb_two (n := c) (by omega)
  have hz : (((((⟨#[78, 86, 71, 49]⟩ : ByteArray) ++ sb a) ++ sb b) ++ sb c)).size = 10 := by
    simp only [ByteArray.size_append, ea, eb, ec]; rfl
  refine ⟨?_, by unfold supHead; rw [ByteArray.size_append, hz, one_size]⟩
  unfold supHead
  rw [bt_append_r _ _ _ (by omega) (by rw [hz, one_size]; omega), hz]
  have := bt_strOfNums [(l.length : Int) % 256] (fun x hx => by rw [List.mem_singleton] at hx; omega) 0 (by simp)
  rw [show (10 : Int) - ((10 : Nat) : Int) = ((0 : Nat) : Int) by omega, this]
  show (l.length : Int) % 256 = _; omega
theorem superP_ten {a b c : Int} {l : List ByteArray} (h : cfgP a b c l = true) : bt (superP a b c l) 10 = (l.length : Int) := by
  obtain ⟨e1, e2⟩ := superP_t h
  obtain ⟨t1, t2⟩ := head_ten h
  rw [e1, sealed_bt _ e2 10 (by omega) (by rw [supP_size, t2]; omega), supP_bt _ _ 10 (by omega) (by omega), t1]
theorem supT_small {cap : Nat} {s : ByteArray} (hcap : 24 ≤ cap) (h : ∀ t ∈ supT cap s, t.size ≤ 23) (cap' : Nat) (hcap' : 24 ≤ cap') : supT cap' s = supT cap s := by
  unfold supT at h ⊢
  rw [typsP_map] at h
  rw [typsP_map, typsP_map, List.nil_append, List.nil_append]
  refine List.map_congr_left fun i hi => ?_
  have := h (oneP cap s i) (by rw [List.nil_append]; exact List.mem_map.2 ⟨i, hi, rfl⟩)
  rw [oneP_size] at this
  unfold oneP
  congr 1
  omega
theorem cfg_sizes {a b c : Int} {l : List ByteArray} (h : cfgP a b c l = true) : ∀ t ∈ l, t.size ≤ 23 := fun t ht => (isType_ok t ((tys_of (cfgP_of h).2).2.2 t ht)).2.1
/-- what the program's way of reading tells -/
def finI (s : ByteArray) (a b c : Int) (l : List ByteArray) : Int × Int × Int × List ByteArray × Bool := if cfgP a b c l = true ∧ superP a b c l = s then (a, b, c, l, true) else (0, 0, 0, [], false)
def riP (s : ByteArray) : Int × Int × Int × List ByteArray × Bool := if (unsP s).2 = true ∧ ¬ bt s 10 > 12 then finI s (shP s 4) (shP s 6) (shP s 8) (supT 256 s) else (0, 0, 0, [], false)
theorem riP_eq (s : ByteArray) : riP s = rsP s := by
  unfold riP rsP
  by_cases hs : s.size = 64
  · rw [if_pos hs]
    unfold finS
    by_cases c1 : superP (shP s 4) (shP s 6) (shP s 8) (supT 24 s) = s
    · have hc := superP_cfg hs c1
      obtain ⟨e1, e2⟩ := superP_t hc
      have hu : (unsP s).2 = true := by rw [← c1, e1, uns_sealed _ e2]
      have h10 := superP_ten hc
      rw [c1] at h10
      obtain ⟨_, h4, _⟩ := tys_of (cfgP_of hc).2
      have hT := supT_small (Nat.le_refl 24) (cfg_sizes hc) 256 (by omega)
      rw [if_pos c1, if_pos ⟨hu, by omega⟩, hT]
      unfold finI; rw [if_pos ⟨hc, c1⟩]
    · rw [if_neg c1]
      split
      · unfold finI
        by_cases c2 : cfgP (shP s 4) (shP s 6) (shP s 8) (supT 256 s) = true ∧ superP (shP s 4) (shP s 6) (shP s 8) (supT 256 s) = s
        · have hT := supT_small (cap := 256) (by omega) (cfg_sizes c2.1) 24 (by omega)
          rw [← hT] at c2
          exact absurd c2.2 c1
        · rw [if_neg c2]
      · rfl
  · rw [if_neg hs, if_neg]
    intro h
    have := h.1
    unfold unsP at this
    rw [if_neg (fun q => hs q.1)] at this
    cases this
theorem supT_len (cap : Nat) (s : ByteArray) : (supT cap s).length ≤ 12 := by
  unfold supT; rw [typsP_map, List.nil_append, List.length_map, List.length_range']; omega
theorem rsP_len (s : ByteArray) : (rsP s).2.2.2.1.length ≤ 12 := by
  unfold rsP finS
  split
  · split
    · exact supT_len 24 s
    · simp
  · simp
theorem cnt_in (s : ByteArray) (i : Nat) : 0 ≤ cntP s i ∧ cntP s i ≤ 255 := bt_range s _
theorem sRS_l1 (s : ByteArray) (i : Nat) (a b c : Int) (l : List ByteArray) (hs : s.size = 64) (hi : i < 12) (hl : l.length ≤ 12) (m : Int) (r : Int × Int × Int × List ByteArray × Bool) : ∀ (n k : Nat) (x : ByteArray), k + n = min (cntP s i).toNat 24 → x.size = k →
    Ev (fun f => spec_ReadSuper.l0 f s ((i + 1 : Nat) : Int) a b c (l ++ [kndP m n k x])) r → Ev (fun f => spec_ReadSuper.l1 f s (i : Int) (11 + 4 * (i : Int)) m x (k : Int) a b c l) r := by
  intro n
  have hc := cnt_in s i
  have hcd : bt s (11 + 4 * (i : Int)) = cntP s i := rfl
  induction n with
  | zero =>
    intro k x hk hx h
    refine Ev.step (f := fun f => spec_ReadSuper.j3 f s (i : Int) (11 + 4 * (i : Int)) m x (k : Int) false a b c l) (fun f => ?_) (Ev.step (f := fun f => spec_ReadSuper.l0 f s ((i + 1 : Nat) : Int) a b c (l ++ [x])) (fun f => ?_) h)
    · simp only [spec_ReadSuper.l1]
      rw [if_pos (by omega), if_pos (by omega), hcd, w64 (n := cntP s i) (by omega) (by omega)]
      by_cases d : (k : Int) < cntP s i
      · rw [if_pos d, decide_eq_false (by omega)]
      · rw [if_neg d]
    · simp only [spec_ReadSuper.j3]
      rw [if_neg (by decide), if_pos (by omega), w64 (by omega) (by omega)]; rfl
  | succ n ih =>
    intro k x hk hx h
    have hu : IntKind.u64.wrap (k : Int) = (k : Int) := by rw [u64]; omega
    refine Ev.step (f := fun f => spec_ReadSuper.j3 f s (i : Int) (11 + 4 * (i : Int)) m x (k : Int) true a b c l) (fun f => ?_) ?_
    · simp only [spec_ReadSuper.l1]
      rw [if_pos (by omega), if_pos (by omega), hcd, w64 (n := cntP s i) (by omega) (by omega), if_pos (by omega), decide_eq_true (by omega)]
    · rw [kndP] at h
      have ih := ih (k + 1) _ (by omega) (by rw [ByteArray.size_append]; split <;> rw [lit1z] <;> omega) h
      refine Ev.step (f := fun f => spec_ReadSuper.l1 f s (i : Int) (11 + 4 * (i : Int)) m (x ++ (if Go.bits .and .i64 (shr .i64 m (k : Int)) 1 = 1 then (⟨#[114]⟩ : ByteArray) else (⟨#[105]⟩ : ByteArray))) ((k + 1 : Nat) : Int) a b c l) (fun f => ?_) ih
      simp only [spec_ReadSuper.j3]
      rw [if_pos trivial, hu, if_pos (by omega), w64 (n := (k : Int) + 1) (by omega) (by omega)]
      by_cases d : Go.bits .and .i64 (shr .i64 m (k : Int)) 1 = 1
      · rw [if_pos d, if_pos d, if_pos (by omega)]; rfl
      · rw [if_neg d, if_neg d, if_pos (by omega)]; rfl
theorem sRS_l0 (s : ByteArray) (a b c : Int) (hs : s.size = 64) : ∀ (n i : Nat) (l : List ByteArray), i + n = min (bt s 10).toNat 12 → l.length = i → (∀ t ∈ l, t.size ≤ 255) → Ev (fun k => spec_ReadSuper.l0 k s (i : Int) a b c l) (finS s a b c (typsP 24 s n i l)) := by
  intro n
  have h10 := bt_range s 10
  induction n with
  | zero =>
    intro i l hi hl ht
    refine Ev.step (f := fun f => spec_ReadSuper.j1 f s (i : Int) false a b c l) (fun f => ?_) (Ev.step (f := fun f => (spec_SuperLine.f f a b c l).bind fun z => (if z.toList = s.toList then (some (a, b, c, l, true)) else (some (0, 0, 0, ([] : List ByteArray), false)))) (fun f => ?_) ?_)
    · simp only [spec_ReadSuper.l0]
      rw [if_pos (by omega), w64 (n := bt s 10) (by omega) (by omega)]
      by_cases d : (i : Int) < bt s 10
      · rw [if_pos d, decide_eq_false (by omega)]
      · rw [if_neg d]
    · simp only [spec_ReadSuper.j1]; rw [if_neg (by decide)]
    · refine evThen (sSL a b c l (by omega) (fun t h => by have := ht t h; omega)) (fun k => rfl) (evIs fun k => ?_)
      unfold finS typsP
      by_cases d : superP a b c l = s
      · rw [if_pos (by rw [d]), if_pos d]
      · rw [if_neg (fun e => d (toList_inj.1 e)), if_neg d]
  | succ n ih =>
    intro i l hi hl ht
    have b1 := bt_range s (12 + 4 * (i : Int))
    have b2 := bt_range s (13 + 4 * (i : Int))
    have b3 := bt_range s (14 + 4 * (i : Int))
    have e0 : wrap64 (11 + wrap64 (4 * (i : Int))) = 11 + 4 * (i : Int) := by rw [w64 (n := 4 * (i : Int)) (by omega) (by omega), w64 (by omega) (by omega)]
    have e1 : wrap64 (11 + 4 * (i : Int) + 1) = 12 + 4 * (i : Int) := by rw [w64 (by omega) (by omega)]; omega
    have e2 : wrap64 (11 + 4 * (i : Int) + 2) = 13 + 4 * (i : Int) := by rw [w64 (by omega) (by omega)]; omega
    have e3 : wrap64 (11 + 4 * (i : Int) + 3) = 14 + 4 * (i : Int) := by rw [w64 (by omega) (by omega)]; omega
    have ih := ih (i + 1) (l ++ [oneP 24 s i]) (by omega) (by rw [List.length_append, List.length_singleton]; omega) (fun t h => by
      rcases List.mem_append.1 h with h | h
      · exact ht t h
      · rw [List.mem_singleton] at h; subst h; rw [oneP_size]; omega)
    refine Ev.step (f := fun f => spec_ReadSuper.j1 f s (i : Int) true a b c l) (fun f => ?_) (Ev.step (f := fun f => spec_ReadSuper.l1 f s (i : Int) (11 + 4 * (i : Int)) (mskP s i) (⟨#[]⟩ : ByteArray) ((0 : Nat) : Int) a b c l) (fun f => ?_) ?_)
    · simp only [spec_ReadSuper.l0]
      rw [if_pos (by omega), w64 (n := bt s 10) (by omega) (by omega), if_pos (by omega), decide_eq_true (by omega)]
    · simp only [spec_ReadSuper.j1]
      rw [if_pos trivial, e0, e1, e2, e3, if_pos (by omega), if_pos (by omega), if_pos (by omega), if_pos (by omega), if_pos (by omega), if_pos (by omega)]
      unfold mskP
      rw [w64 (n := bt s (12 + 4 * (i : Int))) (by omega) (by omega), w64 (n := bt s (13 + 4 * (i : Int))) (by omega) (by omega), w64 (n := bt s (14 + 4 * (i : Int))) (by omega) (by omega), w64 (n := bt s (12 + 4 * (i : Int)) * 65536) (by omega) (by omega), w64 (n := bt s (13 + 4 * (i : Int)) * 256) (by omega) (by omega)]
      rfl
    · exact sRS_l1 s i a b c l hs (by omega) (by omega) (mskP s i) _ _ 0 _ (by omega) rfl ih
theorem sh_ext (s : ByteArray) (a : Nat) (h : a + 2 ≤ s.size) : bt (s.extract a (a + 2)) 0 * 256 + bt (s.extract a (a + 2)) 1 = shP s a := by
  unfold shP
  rw [bt_extract s a (a + 2) 0 (by omega) (by omega) h, bt_extract s a (a + 2) 1 (by omega) (by omega) h, Int.add_zero]
theorem sRS (s : ByteArray) : Ev (fun k => spec_ReadSuper.f k s) (rsP s) := by
  unfold rsP
  by_cases hs : s.size = 64
  · rw [if_pos hs]
    refine Ev.congr (fun k => ?_) (sRS_l0 s (shP s 4) (shP s 6) (shP s 8) hs (min (bt s 10).toNat 12) 0 [] (by omega) rfl (fun t h => by cases h))
    unfold spec_ReadSuper.f
    rw [if_pos (by omega), if_pos (by omega), if_pos (by omega), sRS2 _ (by rw [ByteArray.size_extract]; omega), Option.bind_some, if_pos (by omega), if_pos (by omega), sRS2 _ (by rw [ByteArray.size_extract]; omega), Option.bind_some, if_pos (by omega), if_pos (by omega), sRS2 _ (by rw [ByteArray.size_extract]; omega), Option.bind_some, sh_ext s 4 (by omega), sh_ext s 6 (by omega), sh_ext s 8 (by omega)]
    rfl
  · rw [if_neg hs]; exact evIs fun k => by unfold spec_ReadSuper.f; rw [if_neg (by omega)]
theorem iUns (s : ByteArray) : Ev (fun k => impl_Unsealed.f k s) (unsP s) := by
  by_cases h : s.size = 64
  · have hx : (s.extract 0 60).size = 60 := by rw [ByteArray.size_extract]; omega
    refine evThen (iCrc (s.extract 0 60) (by omega)) (f := fun _ t110 => if t110.toList = (s.extract 60 s.size).toList then (some (s.extract 0 60, true)) else (some ((⟨#[]⟩ : ByteArray), false))) (fun k => ?_) (evIs fun k => ?_)
    · unfold impl_Unsealed.f; rw [if_pos (by omega), if_pos (by omega), if_pos (by omega)]
    · unfold unsP
      by_cases c : crcStr (s.extract 0 60) = s.extract 60 s.size
      · rw [if_pos (toList_inj.mpr c), if_pos ⟨h, c⟩]
      · rw [if_neg (fun z => c (toList_inj.mp z)), if_neg (fun z => c z.2)]
  · refine evIs fun k => ?_
    unfold impl_Unsealed.f unsP; rw [if_neg (by omega), if_neg (fun z => h z.1)]
def rs (s : ByteArray) : Int × Bool := if s.size = 2 then (bt s 0 * 256 + bt s 1, true) else (0, false)
theorem iRS (s : ByteArray) : impl_ReadShort.f s = some (rs s) := by
  unfold impl_ReadShort.f rs
  have h0 := bt_range s 0
  have h1 := bt_range s 1
  by_cases h : s.size = 2
  · rw [if_pos (by omega), if_pos (by omega), if_pos (by omega), if_pos h, w64 (n := bt s 0) (by omega) (by omega), w64 (n := bt s 1) (by omega) (by omega), w64 (by omega) (by omega), or8 _ _ h0.1 h0.2 h1.1 h1.2]
  · rw [if_neg (by omega), if_neg h]
theorem son_snoc (xs : List Int) (n : Int) : strOfNums (xs ++ [n]) = strOfNums xs ++ strOfNums [n] := by
  apply ByteArray.ext; simp [strOfNums]
theorem son_r : strOfNums [114] = (⟨#[114]⟩ : ByteArray) := rfl
theorem son_i : strOfNums [105] = (⟨#[105]⟩ : ByteArray) := rfl
theorem iRS_l1 (s body : ByteArray) (N : Int) (i : Nat) (a b c : Int) (l : List ByteArray) (hi : i < 12) (hl : l.length ≤ 12) (m : Int) (r : Int × Int × Int × List ByteArray × Bool) : ∀ (n k : Nat) (xs : List Int), k + n = (cntP s i).toNat → xs.length = k →
    Ev (fun f => impl_ReadSuper.l0 f s body N ((i + 1 : Nat) : Int) a b c (l ++ [kndP m n k (strOfNums xs)])) r → Ev (fun f => impl_ReadSuper.l1 f s body m xs N (i : Int) (cntP s i) (k : Int) a b c l) r := by
  intro n
  have hc := cnt_in s i
  induction n with
  | zero =>
    intro k xs hk hx h
    refine Ev.step (f := fun f => impl_ReadSuper.l0 f s body N ((i + 1 : Nat) : Int) a b c (l ++ [strOfNums xs])) (fun f => ?_) h
    simp only [impl_ReadSuper.l1]
    rw [if_neg (by omega), if_pos (by omega), w64 (by omega) (by omega)]; rfl
  | succ n ih =>
    intro k xs hk hx h
    rw [kndP] at h
    by_cases d : Go.bits .and .i64 (shr .i64 m (k : Int)) 1 = 1
    · rw [if_pos d, ← son_r, ← son_snoc] at h
      have ih := ih (k + 1) (xs ++ [114]) (by omega) (by rw [List.length_append, List.length_singleton]; omega) h
      refine Ev.step (f := fun f => impl_ReadSuper.l1 f s body m (xs ++ [114]) N (i : Int) (cntP s i) ((k + 1 : Nat) : Int) a b c l) (fun f => ?_) ih
      simp only [impl_ReadSuper.l1]
      rw [if_pos (by omega), if_pos (by omega), if_pos d, if_pos (by omega), w64 (n := (k : Int) + 1) (by omega) (by omega)]; rfl
    · rw [if_neg d, ← son_i, ← son_snoc] at h
      have ih := ih (k + 1) (xs ++ [105]) (by omega) (by rw [List.length_append, List.length_singleton]; omega) h
      refine Ev.step (f := fun f => impl_ReadSuper.l1 f s body m (xs ++ [105]) N (i : Int) (cntP s i) ((k + 1 : Nat) : Int) a b c l) (fun f => ?_) ih
      simp only [impl_ReadSuper.l1]
      rw [if_pos (by omega), if_pos (by omega), if_neg d, if_pos (by omega), w64 (n := (k : Int) + 1) (by omega) (by omega)]; rfl
theorem bt_body (s : ByteArray) (hs : s.size = 64) (j : Int) (h0 : 0 ≤ j) (h1 : j < 60) : bt (s.extract 0 60) j = bt s j := by
  rw [bt_extract s 0 60 j h0 (by omega) (by omega)]; congr 1; omega
theorem bt_cut (s : ByteArray) (hs : s.size = 64) (i : Nat) (hi : i < 12) (j : Nat) (hj : j < 4) : bt ((s.extract 0 60).extract (11 + 4 * i) (15 + 4 * i)) (j : Int) = bt s (11 + 4 * (i : Int) + j) := by
  have hz : (s.extract 0 60).size = 60 := by rw [ByteArray.size_extract]; omega
  rw [bt_extract _ _ _ _ (by omega) (by omega) (by omega), bt_body s hs _ (by omega) (by omega)]
  congr 1 <;> omega
theorem iRS_l0 (s : ByteArray) (a b c : Int) (hs : s.size = 64) (h12 : ¬ bt s 10 > 12) : ∀ (n i : Nat) (l : List ByteArray), i + n = (bt s 10).toNat → l.length = i → (∀ t ∈ l, t.size ≤ 255) → Ev (fun k => impl_ReadSuper.l0 k s (s.extract 0 60) (bt s 10) (i : Int) a b c l) (finI s a b c (typsP 256 s n i l)) := by
  intro n
  have h10 := bt_range s 10
  have hz : (s.extract 0 60).size = 60 := by rw [ByteArray.size_extract]; omega
  induction n with
  | zero =>
    intro i l hi hl ht
    refine Ev.step (f := fun f => (if cfgP a b c l = true then ((impl_SuperLine.f f a b c l).bind fun z => (if z.toList = s.toList then (some (a, b, c, l, true)) else (some (0, 0, 0, ([] : List ByteArray), false)))) else (some (0, 0, 0, ([] : List ByteArray), false)))) (fun f => ?_) ?_
    · simp only [impl_ReadSuper.l0]
      rw [if_neg (by omega), iCfg, Option.bind_some]
    · unfold finI typsP
      by_cases e : cfgP a b c l = true
      · simp only [if_pos e]
        refine evThen (iSL a b c l (by omega) (fun t h => by have := ht t h; omega)) (fun k => rfl) (evIs fun k => ?_)
        by_cases d : superP a b c l = s
        · rw [if_pos (by rw [d]), if_pos ⟨e, d⟩]
        · rw [if_neg (fun e => d (toList_inj.1 e)), if_neg (fun q => d q.2)]
      · simp only [if_neg e]
        rw [if_neg (fun q => e q.1)]; exact evIs fun k => rfl
  | succ n ih =>
    intro i l hi hl ht
    have b1 := bt_range s (12 + 4 * (i : Int))
    have b2 := bt_range s (13 + 4 * (i : Int))
    have b3 := bt_range s (14 + 4 * (i : Int))
    have hc := cnt_in s i
    have e0 : wrap64 (11 + wrap64 (4 * (i : Int))) = 11 + 4 * (i : Int) := by rw [w64 (n := 4 * (i : Int)) (by omega) (by omega), w64 (by omega) (by omega)]
    have e4 : wrap64 (15 + wrap64 (4 * (i : Int))) = 15 + 4 * (i : Int) := by rw [w64 (n := 4 * (i : Int)) (by omega) (by omega), w64 (by omega) (by omega)]
    have c0 := bt_cut s hs i (by omega) 0 (by omega)
    have c1 := bt_cut s hs i (by omega) 1 (by omega)
    have c2 := bt_cut s hs i (by omega) 2 (by omega)
    have c3 := bt_cut s hs i (by omega) 3 (by omega)
    rw [show (11 + 4 * (i : Int) + ((0 : Nat) : Int)) = 11 + 4 * (i : Int) by omega] at c0
    rw [show (11 + 4 * (i : Int) + ((1 : Nat) : Int)) = 12 + 4 * (i : Int) by omega] at c1
    rw [show (11 + 4 * (i : Int) + ((2 : Nat) : Int)) = 13 + 4 * (i : Int) by omega] at c2
    rw [show (11 + 4 * (i : Int) + ((3 : Nat) : Int)) = 14 + 4 * (i : Int) by omega] at c3
    have zx : ((s.extract 0 60).extract (11 + 4 * i) (15 + 4 * i)).size = 4 := by rw [ByteArray.size_extract]; omega
    have hcd : bt s (11 + 4 * (i : Int)) = cntP s i := rfl
    have ih := ih (i + 1) (l ++ [oneP 256 s i]) (by omega) (by rw [List.length_append, List.length_singleton]; omega) (fun t h => by
      rcases List.mem_append.1 h with h | h
      · exact ht t h
      · rw [List.mem_singleton] at h; subst h; rw [oneP_size]; omega)
    refine Ev.step (f := fun f => impl_ReadSuper.l1 f s (s.extract 0 60) (mskP s i) [] (bt s 10) (i : Int) (cntP s i) ((0 : Nat) : Int) a b c l) (fun f => ?_) ?_
    · simp only [impl_ReadSuper.l0]
      rw [if_pos (by omega), e0, e4, if_pos (by omega), if_pos (by omega), if_pos (by omega), show (11 + 4 * (i : Int)).toNat = 11 + 4 * i by omega, show (15 + 4 * (i : Int)).toNat = 15 + 4 * i by omega, zx, if_pos (by omega), if_pos (by omega), if_pos (by omega), if_pos (by omega)]
      rw [show (0 : Int) = ((0 : Nat) : Int) from rfl, show (1 : Int) = ((1 : Nat) : Int) from rfl, show (2 : Int) = ((2 : Nat) : Int) from rfl, show (3 : Int) = ((3 : Nat) : Int) from rfl, c0, c1, c2, c3, hcd]
      unfold mskP
      rw [w64 (n := bt s (12 + 4 * (i : Int))) (by omega) (by omega), w64 (n := bt s (13 + 4 * (i : Int))) (by omega) (by omega), w64 (n := bt s (14 + 4 * (i : Int))) (by omega) (by omega), w64 (n := bt s (12 + 4 * (i : Int)) * 65536) (by omega) (by omega), w64 (n := bt s (13 + 4 * (i : Int)) * 256) (by omega) (by omega), w64 (n := cntP s i) (by omega) (by omega)]
    · refine iRS_l1 s _ _ i a b c l (by omega) (by omega) (mskP s i) _ (cntP s i).toNat 0 [] (by omega) rfl ?_
      have eo : oneP 256 s i = kndP (mskP s i) (cntP s i).toNat 0 (strOfNums []) := by
        unfold oneP; rw [show min (cntP s i).toNat 256 = (cntP s i).toNat by omega]; rfl
      rw [← eo]; exact ih
theorem rs_sh (s : ByteArray) (hs : s.size = 64) (a : Nat) (h : a + 2 ≤ 60) : rs ((s.extract 0 60).extract a (a + 2)) = (shP s a, true) := by
  have hz : (s.extract 0 60).size = 60 := by rw [ByteArray.size_extract]; omega
  unfold rs
  rw [if_pos (by rw [ByteArray.size_extract]; omega), sh_ext _ a (by omega)]
  unfold shP
  rw [bt_body s hs _ (by omega) (by omega), bt_body s hs _ (by omega) (by omega)]
theorem iRSup (s : ByteArray) : Ev (fun k => impl_ReadSuper.f k s) (rsP s) := by
  rw [← riP_eq]
  refine evThen (iUns s) (fun k => rfl) ?_
  unfold riP
  by_cases hu : (unsP s).2 = true
  · have hs : s.size = 64 := by
      by_cases q : s.size = 64
      · exact q
      · unfold unsP at hu; rw [if_neg (fun z => q z.1)] at hu; cases hu
    have hb : (unsP s).1 = s.extract 0 60 := by
      unfold unsP at hu ⊢
      split
      · rfl
      · rename_i q; rw [if_neg q] at hu; cases hu
    have hz : (s.extract 0 60).size = 60 := by rw [ByteArray.size_extract]; omega
    have h10 := bt_range s 10
    simp only [if_pos hu, hb]
    refine Ev.congr (fun k => by rw [if_pos (by omega), bt_body s hs 10 (by omega) (by omega)]) ?_
    by_cases h12 : bt s 10 > 12
    · rw [decide_eq_true h12, if_neg (fun q => q.2 h12)]
      exact evIs1 fun k => by simp only [impl_ReadSuper.j0]; rw [if_pos trivial]
    · rw [decide_eq_false h12, if_pos ⟨hu, h12⟩]
      refine Ev.step (f := fun k => impl_ReadSuper.l0 k s (s.extract 0 60) (bt s 10) 0 (shP s 4) (shP s 6) (shP s 8) []) (fun k => ?_) ?_
      · simp only [impl_ReadSuper.j0]
        rw [if_neg (by decide), if_pos (by omega), if_pos (by omega), iRS, Option.bind_some, if_pos (by omega), if_pos (by omega), iRS, Option.bind_some, if_pos (by omega), if_pos (by omega), iRS, Option.bind_some, if_pos (by omega), rs_sh s hs 4 (by omega), rs_sh s hs 6 (by omega), rs_sh s hs 8 (by omega), bt_body s hs 10 (by omega) (by omega), w64 (n := bt s 10) (by omega) (by omega)]
      · have := iRS_l0 s (shP s 4) (shP s 6) (shP s 8) hs h12 (bt s 10).toNat 0 [] (by omega) rfl (fun t h => by cases h)
        unfold supT
        rw [show min (bt s 10).toNat 12 = (bt s 10).toNat by omega]
        exact this
  · simp only [if_neg hu]
    rw [if_neg (fun q => hu q.1)]
    exact evIs1 fun k => by simp only [impl_ReadSuper.j0]; rw [if_pos trivial]
theorem sameTys_l (l : List ByteArray) (hl : l.length ≤ 9223372036854775807) : ∀ (n i : Nat), i + n = l.length → Ev (fun k => laws_sameTypes.l0 k l l (i : Int)) true := by
  intro n
  induction n with
  | zero =>
    intro i hi
    exact evIs1 (fun k => by simp only [laws_sameTypes.l0]; rw [if_neg (by omega)])
  | succ n ih =>
    intro i hi
    refine Ev.step (f := fun k => laws_sameTypes.l0 k l l ((i + 1 : Nat) : Int)) (fun k => ?_) (ih (i + 1) (by omega))
    simp only [laws_sameTypes.l0]
    rw [if_pos (by omega), if_pos (by omega), if_pos (by omega), if_pos trivial, w64 (by omega) (by omega)]
    rfl
theorem sameCfg_refl (a b c : Int) (l : List ByteArray) (hl : l.length ≤ 9223372036854775807) : Ev (fun k => laws_sameConfig.f k a b c l a b c l) true := by
  have h := sameTys_l l hl l.length 0 (by omega)
  have h' : Ev (fun k => laws_sameTypes.f k l l) true := Ev.congr (fun k => by unfold laws_sameTypes.f; rw [if_pos rfl]; rfl) h
  exact evThen h' (fun k => by unfold laws_sameConfig.f; rw [if_pos rfl, if_pos rfl, if_pos rfl]) (evIs fun k => rfl)
/-- a reader of drawn bytes that is in order -/
def RdOk (l : List Int) (p : Int) : Prop := 0 ≤ p ∧ p ≤ (l.length : Int) ∧ (l.length : Int) ≤ 140737488351232 ∧ ∀ x ∈ l, 0 ≤ x ∧ x ≤ 255
theorem RdOk.start {l : List Int} (h1 : l.length * 1 ≤ 140737488351232) (h2 : ∀ x ∈ l, (Lit.int .u8 x).wf = true) : RdOk l 0 :=
  ⟨by omega, by omega, by omega, fun x hx => by
    have := h2 x hx
    simp [Lit.wf, IntKind.min, IntKind.max, IntKind.bits, IntKind.signed] at this
    omega⟩
theorem rd_mem {l : List Int} {i : Int} (h0 : 0 ≤ i) (h1 : i < (l.length : Int)) : rd l i ∈ l := by
  unfold rd
  rw [List.getD_eq_getElem?_getD, List.getElem?_eq_getElem (by omega : i.toNat < l.length)]
  exact List.getElem_mem _
theorem bits_u64 (op : BinOp) (x y : Int) : 0 ≤ Go.bits op .u64 x y ∧ Go.bits op .u64 x y < 18446744073709551616 := by
  unfold Go.bits; rw [u64]; omega
theorem wrap64_in (x : Int) : -9223372036854775808 ≤ wrap64 x ∧ wrap64 x ≤ 9223372036854775807 := by unfold wrap64; omega
theorem one4 (a b c d : UInt8) (i : Int) (h0 : 0 ≤ i) (h1 : i < 4) : (rdOf ByteArray.empty ([(⟨#[a]⟩ : ByteArray), (⟨#[b]⟩ : ByteArray), (⟨#[c]⟩ : ByteArray), (⟨#[d]⟩ : ByteArray)] : List ByteArray) i).size = 1 := by
  have : i = 0 ∨ i = 1 ∨ i = 2 ∨ i = 3 := by omega
  rcases this with rfl | rfl | rfl | rfl <;> rfl
theorem next_ok {l : List Int} {p : Int} (h : RdOk l p) : ∃ v p', spec_l1Rd_next.f l p = some (v, p') ∧ 0 ≤ v ∧ v ≤ 255 ∧ RdOk l p' := by
  obtain ⟨h0, h1, h2, h3⟩ := h
  unfold spec_l1Rd_next.f
  by_cases c : p ≥ (l.length : Int)
  · exact ⟨0, p, by rw [if_pos c], by omega, by omega, h0, h1, h2, h3⟩
  · have hm := h3 _ (rd_mem h0 (by omega : p < (l.length : Int)))
    refine ⟨rd l p, p + 1, ?_, hm.1, hm.2, by omega, by omega, h2, h3⟩
    rw [if_neg c, w64 (n := p + 1) (by omega) (by omega), w64 (n := p + 1 - 1) (by omega) (by omega), if_pos (by omega), if_pos (by omega), show p + 1 - 1 = p by omega, w64 (by omega) (by omega)]
theorem below_ok {l : List Int} {p : Int} (h : RdOk l p) (n : Int) : ∃ v p', spec_l1Rd_below.f l p n = some (v, p') ∧ 0 ≤ v ∧ (n ≤ 1 → v = 0) ∧ (1 < n → v < n) ∧ RdOk l p' := by
  unfold spec_l1Rd_below.f
  by_cases c : n ≤ 1
  · exact ⟨0, p, by rw [if_pos c], by omega, fun _ => rfl, fun _ => by omega, h⟩
  · rw [if_neg c]
    by_cases c2 : n ≤ 256
    · obtain ⟨v, p1, e, v0, v1, h'⟩ := next_ok h
      refine ⟨Int.tmod v n, p1, by rw [if_pos c2, e]; simp only [Option.bind_some]; rw [if_neg (by omega)], ?_, by omega, fun _ => ?_, h'⟩
      · rw [Int.tmod_eq_emod_of_nonneg v0]; exact Int.emod_nonneg _ (by omega)
      · rw [Int.tmod_eq_emod_of_nonneg v0]; exact Int.emod_lt_of_pos _ (by omega)
    · obtain ⟨v, p1, e, v0, v1, h'⟩ := next_ok h
      obtain ⟨u, p2, e2, u0, u1, h2⟩ := next_ok h'
      have e3 : wrap64 (wrap64 (v * 256) + u) = v * 256 + u := by rw [w64 (n := v * 256) (by omega) (by omega), w64 (by omega) (by omega)]
      refine ⟨Int.tmod (v * 256 + u) n, p2, by rw [if_neg c2, e]; simp only [Option.bind_some]; rw [e2]; simp only [Option.bind_some]; rw [if_neg (by omega), e3], ?_, by omega, fun _ => ?_, h2⟩
      · rw [Int.tmod_eq_emod_of_nonneg (by omega)]; exact Int.emod_nonneg _ (by omega)
      · rw [Int.tmod_eq_emod_of_nonneg (by omega)]; exact Int.emod_lt_of_pos _ (by omega)
theorem once_ok {l : List Int} {p : Int} (h : RdOk l p) (n : Int) : ∃ b p', spec_l1Rd_once.f l p n = some (b, p') ∧ RdOk l p' := by
  obtain ⟨v, p1, e, _, _, _, h'⟩ := below_ok h n
  exact ⟨_, p1, by unfold spec_l1Rd_once.f; rw [e]; rfl, h'⟩
theorem kinds_l {l : List Int} : ∀ (n : Nat) (x : ByteArray) (p : Int), RdOk l p → x.size + n ≤ 1048576 → ∃ s p', Ev (fun k => spec_l1Rd_kinds.l0 k x (n : Int) l p) (s, p') ∧ s.size = x.size + n ∧ RdOk l p' := by
  intro n
  induction n with
  | zero =>
    intro x p h hx
    exact ⟨x, p, evIs1 fun k => by simp only [spec_l1Rd_kinds.l0]; rw [if_neg (by omega)], by omega, h⟩
  | succ n ih =>
    intro x p h hx
    obtain ⟨q, p3, e3, q0, qa, qb, h3⟩ := below_ok h 2
    have hq := qb (by omega)
    have hz : (rdOf ByteArray.empty ([(⟨#[105]⟩ : ByteArray), (⟨#[114]⟩ : ByteArray)] : List ByteArray) q).size = 1 := by
      have : q = 0 ∨ q = 1 := by omega
      rcases this with rfl | rfl <;> rfl
    obtain ⟨s, p', e', hs, h'⟩ := ih (x ++ rdOf ByteArray.empty ([(⟨#[105]⟩ : ByteArray), (⟨#[114]⟩ : ByteArray)] : List ByteArray) q) p3 h3 (by rw [ByteArray.size_append, hz]; omega)
    refine ⟨s, p', Ev.step (f := fun k => spec_l1Rd_kinds.l0 k (x ++ rdOf ByteArray.empty ([(⟨#[105]⟩ : ByteArray), (⟨#[114]⟩ : ByteArray)] : List ByteArray) q) (n : Int) l p3) (fun k => ?_) e', by rw [hs, ByteArray.size_append, hz]; omega, h'⟩
    simp only [spec_l1Rd_kinds.l0]
    rw [if_pos (by omega), Option.bind_some, e3]
    simp only [Option.bind_some]
    rw [if_pos q0, if_pos (by simpa using hq), if_pos (by rw [hz]; omega), w64 (n := ((n + 1 : Nat) : Int) - 1) (by omega) (by omega), show ((n + 1 : Nat) : Int) - 1 = (n : Int) by omega]
theorem kinds_any {l : List Int} {p : Int} (h : RdOk l p) (m : Int) (hm : m ≤ 100) : ∃ s p', Ev (fun k => spec_l1Rd_kinds.f k l p m) (s, p') ∧ s.size ≤ 101 ∧ RdOk l p' := by
  obtain ⟨v, p1, e, v0, va, v1, h1⟩ := below_ok h m
  have hv : v ≤ 100 := by
    by_cases c : 1 < m
    · have := v1 c; omega
    · have := va (by omega); omega
  obtain ⟨n, rfl⟩ := Int.eq_ofNat_of_zero_le v0
  obtain ⟨s, p', e', hs, h'⟩ := kinds_l (1 + n) (⟨#[]⟩ : ByteArray) p1 h1 (by show 0 + (1 + n) ≤ _; omega)
  refine ⟨s, p', Ev.congr (fun k => ?_) e', by rw [hs]; show 0 + (1 + n) ≤ _; omega, h'⟩
  unfold spec_l1Rd_kinds.f
  rw [e]; simp only [Option.bind_some]
  rw [w64 (by omega) (by omega)]; rfl
def TyOk (n : Nat) (l : List ByteArray) : Prop := l.length ≤ n ∧ ∀ t ∈ l, t.size ≤ 1000
theorem TyOk.snoc {n : Nat} {l : List ByteArray} (h : TyOk n l) (s : ByteArray) (hs : s.size ≤ 1000) : TyOk (n + 1) (l ++ [s]) := by
  refine ⟨by rw [List.length_append, List.length_singleton]; have := h.1; omega, fun t ht => ?_⟩
  rcases List.mem_append.1 ht with ht | ht
  · exact h.2 t ht
  · rw [List.mem_singleton] at ht; subst ht; exact hs
theorem TyOk.set {n : Nat} {l : List ByteArray} (h : TyOk n l) (i : Nat) (s : ByteArray) (hs : s.size ≤ 1000) : TyOk n (l.set i s) := by
  refine ⟨by rw [List.length_set]; exact h.1, fun t ht => ?_⟩
  rcases List.mem_or_eq_of_mem_set ht with ht | rfl
  · exact h.2 t ht
  · exact hs
theorem TyOk.mono {n m : Nat} {l : List ByteArray} (h : TyOk n l) (hm : n ≤ m) : TyOk m l := ⟨by have := h.1; omega, h.2⟩
theorem types_l {l : List Int} : ∀ (n m : Nat) (x : List ByteArray) (p : Int), RdOk l p → TyOk m x → 0 < x.length → m + n ≤ 1000 → ∃ r p', Ev (fun k => spec_l1Rd_types.l0 k x (n : Int) l p) (r, p') ∧ TyOk (m + n) r ∧ 0 < r.length ∧ RdOk l p' := by
  intro n
  induction n with
  | zero =>
    intro m x p h hx h0 hm
    exact ⟨x, p, evIs1 fun k => by simp only [spec_l1Rd_types.l0]; rw [if_neg (by omega)], hx, h0, h⟩
  | succ n ih =>
    intro m x p h hx h0 hm
    obtain ⟨b, p1, e1, h1⟩ := once_ok h 4
    have go : ∀ q : Int, q ≤ 100 → (∀ k, spec_l1Rd_types.l0 (k + 1) x ((n + 1 : Nat) : Int) l p = (spec_l1Rd_kinds.f k l p1 q).bind fun z => (if x.length < 8796093022208 then (spec_l1Rd_types.l0 k (x ++ [z.1]) (n : Int) l z.2) else none)) → ∃ r p', Ev (fun k => spec_l1Rd_types.l0 k x ((n + 1 : Nat) : Int) l p) (r, p') ∧ TyOk (m + (n + 1)) r ∧ 0 < r.length ∧ RdOk l p' := by
      intro q hq he
      obtain ⟨s, p2, e2, hs, h2⟩ := kinds_any h1 q hq
      obtain ⟨r, p', e', hr, hr0, h'⟩ := ih (m + 1) (x ++ [s]) p2 h2 (hx.snoc s (by omega)) (by simp) (by omega)
      exact ⟨r, p', Ev.step he (evThen e2 (fun k => rfl) (Ev.congr (fun k => by rw [if_pos (by have := hx.1; omega)]) e')), by rw [show m + (n + 1) = m + 1 + n by omega]; exact hr, hr0, h'⟩
    have w : wrap64 (((n + 1 : Nat) : Int) - 1) = (n : Int) := by rw [w64 (by omega) (by omega)]; omega
    cases b with
    | true => exact go 23 (by omega) (fun k => by simp only [spec_l1Rd_types.l0]; rw [if_pos (by omega), e1, Option.bind_some, if_pos rfl, w])
    | false => exact go 5 (by omega) (fun k => by simp only [spec_l1Rd_types.l0]; rw [if_pos (by omega), e1, Option.bind_some, if_neg (by simp), w])
theorem types_ok {l : List Int} {p : Int} (h : RdOk l p) : ∃ r p', Ev (fun k => spec_l1Rd_types.f k l p) (r, p') ∧ TyOk 5 r ∧ 0 < r.length ∧ RdOk l p' := by
  obtain ⟨v, p1, e, v0, _, v1, h1⟩ := below_ok h 4
  have hv := v1 (by omega)
  obtain ⟨u, p2, e2, u0, _, u1, h2⟩ := below_ok h1 3
  have hu := u1 (by omega)
  obtain ⟨n, rfl⟩ := Int.eq_ofNat_of_zero_le u0
  have hz : (rdOf ByteArray.empty ([(⟨#[105, 114]⟩ : ByteArray), (⟨#[114, 114, 105]⟩ : ByteArray), (⟨#[114, 105]⟩ : ByteArray), (⟨#[105, 114, 114]⟩ : ByteArray)] : List ByteArray) v).size ≤ 1000 := by
    have : v = 0 ∨ v = 1 ∨ v = 2 ∨ v = 3 := by omega
    rcases this with rfl | rfl | rfl | rfl <;> decide
  obtain ⟨r, p', e', hr, hr0, h'⟩ := types_l n 1 [rdOf ByteArray.empty ([(⟨#[105, 114]⟩ : ByteArray), (⟨#[114, 114, 105]⟩ : ByteArray), (⟨#[114, 105]⟩ : ByteArray), (⟨#[105, 114, 114]⟩ : ByteArray)] : List ByteArray) v] p2 h2 ⟨Nat.le_refl _, fun t ht => by rw [List.mem_singleton] at ht; subst ht; exact hz⟩ (by simp) (by omega)
  refine ⟨r, p', Ev.congr (fun k => ?_) e', hr.mono (by omega), hr0, h'⟩
  unfold spec_l1Rd_types.f
  rw [Option.bind_some, e]
  simp only [Option.bind_some]
  rw [if_pos v0, if_pos (by simpa using hv), e2]
  rfl
theorem config_ok {l : List Int} {p : Int} (h : RdOk l p) : ∃ a b c T p', Ev (fun k => spec_l1Rd_config.f k l p) (a, b, c, T, p') ∧ TyOk 5 T ∧ 0 < T.length ∧ RdOk l p' := by
  obtain ⟨v1, p1, e1, _, _, _, h1⟩ := below_ok h 10
  obtain ⟨v2, p2, e2, _, _, _, h2⟩ := below_ok h1 40
  obtain ⟨T, p3, e3, hT, hT0, h3⟩ := types_ok h2
  obtain ⟨v4, p4, e4, _, _, _, h4⟩ := below_ok h3 14
  obtain ⟨b, p5, e5, h5⟩ := once_ok h4 3
  obtain ⟨v6, p6, e6, _, _, _, h6⟩ := below_ok h5 200
  cases b with
  | true =>
    refine ⟨mn (wrap64 ((wrap64 ((wrap64 (4 + (wrap64 (1 + v1)))) + (wrap64 (4 + v4)))) + 40)) 128, 10, wrap64 (4 + v6), T, p6, evThen e3 (fun k => by unfold spec_l1Rd_config.f; rw [e1, Option.bind_some, e2, Option.bind_some]) (evIs fun k => ?_), hT, hT0, h6⟩
    simp only [e4, Option.bind_some, e5, if_true, e6]
  | false =>
    refine ⟨wrap64 ((wrap64 (4 + (wrap64 (1 + v1)))) + (wrap64 (4 + v4))), wrap64 (1 + v1), wrap64 (4 + v2), T, p5, evThen e3 (fun k => by unfold spec_l1Rd_config.f; rw [e1, Option.bind_some, e2, Option.bind_some]) (evIs fun k => ?_), hT, hT0, h5⟩
    simp only [e4, Option.bind_some, e5, Bool.false_eq_true, if_false]
theorem word_in {l : List Int} : ∀ (d j : Nat) (x p : Int), j + d = 8 → 0 ≤ x → x < 18446744073709551616 → RdOk l p → ∃ v p', Ev (fun k => spec_l1Rd_word.l0 k x j l p) (v, p') ∧ 0 ≤ v ∧ v < 18446744073709551616 ∧ RdOk l p' := by
  intro d
  induction d with
  | zero =>
    intro j x p hj h0 h1 h
    exact ⟨x, p, Ev.step (f := fun _ => some (x, p)) (fun k => by simp only [spec_l1Rd_word.l0]; rw [if_neg (by omega)]) (Ev.now _), h0, h1, h⟩
  | succ d ih =>
    intro j x p hj h0 h1 h
    obtain ⟨u, p1, e, u0, u1, h'⟩ := next_ok h
    have hb := bits_u64 .or (IntKind.u64.wrap (x * 256)) (IntKind.u64.wrap u)
    obtain ⟨v, p2, e2, v0, v1, h2⟩ := ih (j + 1) _ p1 (by omega) hb.1 hb.2 h'
    refine ⟨v, p2, Ev.step (fun k => ?_) e2, v0, v1, h2⟩
    simp only [spec_l1Rd_word.l0]; rw [if_pos (by omega), e]; simp only [Option.bind_some]; rw [w64 (n := (j : Int) + 1) (by omega) (by omega)]; rfl
theorem word_ok {l : List Int} {p : Int} (h : RdOk l p) : ∃ v p', Ev (fun k => spec_l1Rd_word.f k l p) (v, p') ∧ 0 ≤ v ∧ v < 18446744073709551616 ∧ RdOk l p' := by
  obtain ⟨v, p', e, h⟩ := word_in 8 0 0 p (by omega) (by omega) (by omega) h
  exact ⟨v, p', Ev.congr (fun k => rfl) e, h⟩
theorem near_ok {l : List Int} {p : Int} (h : RdOk l p) (lo hi : Int) (hl : -9223372036854775808 ≤ lo ∧ lo ≤ 9223372036854775807) (hh : -9223372036854775808 ≤ hi ∧ hi ≤ 9223372036854775807) (hd : hi - lo < 18446744073709551615) : ∃ v p', Ev (fun k => spec_l1Rd_near.f k l p lo hi) (v, p') ∧ -9223372036854775808 ≤ v ∧ v ≤ 9223372036854775807 ∧ RdOk l p' := by
  unfold spec_l1Rd_near.f
  obtain ⟨v, p1, e, v0, _, v1, h1⟩ := below_ok h 8
  rw [e]; simp only [Option.bind_some]
  by_cases c0 : v = 0
  · simp only [if_pos c0]; exact ⟨_, p1, Ev.now _, hl.1, hl.2, h1⟩
  · simp only [if_neg c0]
    by_cases c1 : v = 1
    · simp only [if_pos c1]; exact ⟨_, p1, Ev.now _, hh.1, hh.2, h1⟩
    · simp only [if_neg c1]
      by_cases c2 : hi < lo
      · simp only [if_pos c2]; exact ⟨_, p1, Ev.now _, hl.1, hl.2, h1⟩
      · simp only [if_neg c2]
        obtain ⟨u, p2, e2, u0, u1, h2⟩ := word_ok h1
        have hz : ¬ (IntKind.u64.wrap (wrap64 (wrap64 (hi - lo) + 1)) = 0) := by rw [u64]; unfold wrap64; omega
        have hw := wrap64_in (lo + wrap64 (Int.tmod (u / 2) (IntKind.u64.wrap (wrap64 (wrap64 (hi - lo) + 1)))))
        refine ⟨_, p2, ?_, hw.1, hw.2, h2⟩
        simp only [if_neg hz]
        exact Ev.bind (f := fun _ (b : Int × Int) => some (wrap64 (lo + wrap64 (Int.tmod (b.1 / 2) (IntKind.u64.wrap (wrap64 (wrap64 (hi - lo) + 1))))), b.2)) e2 (Ev.now _)
theorem off_ok {l : List Int} {p : Int} (h : RdOk l p) (lo hi : Int) (hl : -9223372036854775808 ≤ lo ∧ lo ≤ 9223372036854775807) (hh : -9223372036854775808 ≤ hi ∧ hi ≤ 9223372036854775807) (hd : hi - lo < 18446744073709551615) : ∃ v p', Ev (fun k => spec_l1Rd_off.f k l p lo hi) (v, p') ∧ -9223372036854775808 ≤ v ∧ v ≤ 9223372036854775807 ∧ RdOk l p' := by
  unfold spec_l1Rd_off.f
  obtain ⟨b, p1, e, h1⟩ := once_ok h 24
  rw [e]; simp only [Option.bind_some]
  cases b with
  | true =>
    simp only [if_true]
    obtain ⟨u, p2, e2, u0, _, u1, h2⟩ := below_ok h1 4
    have hu := u1 (by omega)
    simp only [e2, Option.bind_some]
    rw [if_pos u0, if_pos (by simpa using hu)]
    have hw := wrap64_in (lo - 1)
    have hw2 := wrap64_in (hi + 1)
    refine ⟨_, p2, Ev.now _, ?_, ?_, h2⟩
    all_goals
      have : u = 0 ∨ u = 1 ∨ u = 2 ∨ u = 3 := by omega
      rcases this with rfl | rfl | rfl | rfl <;> simp [rd] <;> omega
  | false =>
    simp only [Bool.false_eq_true, if_false]
    obtain ⟨u, p2, e2, u0, u1, h2⟩ := near_ok h1 lo hi hl hh hd
    exact ⟨u, p2, Ev.bind (f := fun _ (b : Int × Int) => some (b.1, b.2)) e2 (Ev.now _), u0, u1, h2⟩
theorem hurtTy_l {l : List Int} : ∀ (n i m : Nat) (x : List ByteArray) (p : Int), RdOk l p → TyOk m x → i + n = 13 → m + n ≤ 1000 → ∃ r p', Ev (fun k => spec_l1Rd_hurtTypes.l0 k x (i : Int) l p) (r, p') ∧ TyOk (m + n) r ∧ RdOk l p' := by
  intro n
  induction n with
  | zero =>
    intro i m x p h hx hi hm
    exact ⟨x, p, evIs1 fun k => by simp only [spec_l1Rd_hurtTypes.l0]; rw [if_neg (by omega)], hx, h⟩
  | succ n ih =>
    intro i m x p h hx hi hm
    obtain ⟨v, p1, e, v0, _, v1, h1⟩ := below_ok h 3
    have hv := v1 (by omega)
    by_cases c : (x.length : Int) < wrap64 (11 + v)
    · obtain ⟨r, p', e', hr, h'⟩ := ih (i + 1) (m + 1) (x ++ [(⟨#[114]⟩ : ByteArray)]) p1 h1 (hx.snoc _ (by decide)) (by omega) (by omega)
      refine ⟨r, p', Ev.step (f := fun k => spec_l1Rd_hurtTypes.l0 k (x ++ [(⟨#[114]⟩ : ByteArray)]) ((i + 1 : Nat) : Int) l p1) (fun k => ?_) e', by rw [show m + (n + 1) = m + 1 + n by omega]; exact hr, h'⟩
      simp only [spec_l1Rd_hurtTypes.l0]
      rw [if_pos (by omega), e, Option.bind_some, if_pos c, if_pos (by have := hx.1; omega), w64 (by omega) (by omega)]
      rfl
    · exact ⟨x, p1, evIs1 fun k => by simp only [spec_l1Rd_hurtTypes.l0]; rw [if_pos (by omega), e, Option.bind_some, if_neg c], hx.mono (by omega), h1⟩
def TyR (l : List ByteArray) : Prop := l.length ≤ 1000 ∧ ∀ t ∈ l, t.size ≤ 2000
theorem TyOk.r {n : Nat} {l : List ByteArray} (h : TyOk n l) (hn : n ≤ 1000) : TyR l := ⟨Nat.le_trans h.1 hn, fun t ht => by have := h.2 t ht; omega⟩
theorem hurtTy_ok {l : List Int} {p : Int} (h : RdOk l p) (x : List ByteArray) (hx : TyOk 5 x) (hx0 : 0 < x.length) : ∃ r p', Ev (fun k => spec_l1Rd_hurtTypes.f k l p x) (r, p') ∧ TyR r ∧ RdOk l p' := by
  obtain ⟨v, p1, e, _, _, _, h1⟩ := below_ok h 30
  have st : ∀ {r : List ByteArray × Int}, Ev (fun k => (if v = 0 then (some (([] : List ByteArray), p1)) else (if v = 1 then (if 0 < (x.length : Int) then (some ((x.set (0 : Int).toNat (⟨#[]⟩ : ByteArray)), p1)) else (none)) else (if v = 2 then (if 0 < (x.length : Int) then (if (rdOf ByteArray.empty x 0).size + 1 ≤ 9223372036854775807 then (some ((x.set (0 : Int).toNat ((rdOf ByteArray.empty x 0) ++ (⟨#[120]⟩ : ByteArray))), p1)) else (none)) else (none)) else (if v = 3 then ((spec_l1Rd_kinds.f k l p1 3).bind fun bt265 => (if 22 + bt265.1.size ≤ 9223372036854775807 then (if 0 < (x.length : Int) then (some ((x.set (0 : Int).toNat ((⟨#[105, 105, 105, 105, 105, 105, 105, 105, 105, 105, 105, 105, 105, 105, 105, 105, 105, 105, 105, 105, 105, 105]⟩ : ByteArray) ++ bt265.1)), bt265.2)) else (none)) else (none))) else (if v = 4 then (spec_l1Rd_hurtTypes.l0 k x 0 l p1) else (some (x, p1)))))))) r → Ev (fun k => spec_l1Rd_hurtTypes.f k l p x) r := fun q => Ev.congr (fun k => by unfold spec_l1Rd_hurtTypes.f; rw [e]; rfl) q
  have hxi : (0 : Int) < (x.length : Int) := by omega
  have h0 : (rdOf ByteArray.empty x 0).size ≤ 1000 := by
    have := hx.2 x[0] (List.getElem_mem hx0)
    unfold rdOf; rw [List.getD_eq_getElem?_getD, List.getElem?_eq_getElem (by simpa using hx0)]; exact this
  have one : ∀ b : UInt8, (⟨#[b]⟩ : ByteArray).size = 1 := fun _ => rfl
  by_cases c0 : v = 0
  · exact ⟨[], p1, st (evIs fun k => by rw [if_pos c0]), ⟨by simp, fun t ht => by cases ht⟩, h1⟩
  · by_cases c1 : v = 1
    · exact ⟨_, p1, st (evIs fun k => by rw [if_neg c0, if_pos c1, if_pos hxi]), (hx.set _ _ (by decide)).r (by omega), h1⟩
    · by_cases c2 : v = 2
      · refine ⟨_, p1, st (evIs fun k => by rw [if_neg c0, if_neg c1, if_pos c2, if_pos hxi, if_pos (by omega)]), ⟨by rw [List.length_set]; exact Nat.le_trans hx.1 (by decide), fun t ht => ?_⟩, h1⟩
        rcases List.mem_or_eq_of_mem_set ht with ht | rfl
        · have := hx.2 t ht; omega
        · rw [ByteArray.size_append, one]; omega
      · by_cases c3 : v = 3
        · obtain ⟨s, p2, e2, hs, h2⟩ := kinds_any h1 3 (by omega)
          refine ⟨_, p2, st (Ev.congr (fun k => by rw [if_neg c0, if_neg c1, if_neg c2, if_pos c3]) (evThen e2 (fun k => rfl) (evIs fun k => by rw [if_pos (show 22 + s.size ≤ 9223372036854775807 by omega), if_pos hxi]))), (hx.set _ _ (by rw [ByteArray.size_append]; show 22 + s.size ≤ _; omega)).r (by omega), h2⟩
        · by_cases c4 : v = 4
          · obtain ⟨r, p', e', hr, h'⟩ := hurtTy_l 13 0 5 x p1 h1 hx (by omega) (by omega)
            exact ⟨r, p', st (Ev.congr (fun k => by rw [if_neg c0, if_neg c1, if_neg c2, if_neg c3, if_pos c4]; rfl) e'), hr.r (by omega), h'⟩
          · exact ⟨x, p1, st (evIs fun k => by rw [if_neg c0, if_neg c1, if_neg c2, if_neg c3, if_neg c4]), hx.r (by omega), h1⟩
theorem hurtCfg_ok {l : List Int} {p : Int} (h : RdOk l p) (a b c : Int) (T : List ByteArray) (hT : TyOk 5 T) (hT0 : 0 < T.length) : ∃ r, Ev (fun k => spec_l1Rd_hurtConfig.f k l p a b c T) r ∧ TyR r.2.2.2.1 := by
  obtain ⟨v, p1, e, _, _, _, h1⟩ := below_ok h 16
  obtain ⟨o1, q1, f1, _, _, _⟩ := off_ok h1 8 128 (by omega) (by omega) (by omega)
  obtain ⟨o2, q2, f2, _, _, _⟩ := off_ok h1 1 32 (by omega) (by omega) (by omega)
  obtain ⟨o3, q3, f3, _, _, _⟩ := off_ok h1 2 400 (by omega) (by omega) (by omega)
  obtain ⟨R, q4, f4, hR, _⟩ := hurtTy_ok h1 T hT hT0
  obtain ⟨w, q5, f5, _, _, _, _⟩ := below_ok h1 2
  have hr := hT.r (by omega)
  by_cases c0 : v = 0
  · exact ⟨(o1, b, c, T, q1), Ev.congr (fun k => by unfold spec_l1Rd_hurtConfig.f; rw [e, Option.bind_some, if_pos c0]) (evThen f1 (fun k => rfl) (evIs fun k => rfl)), hr⟩
  · by_cases c1 : v = 1
    · exact ⟨(a, o2, c, T, q2), Ev.congr (fun k => by unfold spec_l1Rd_hurtConfig.f; rw [e, Option.bind_some, if_neg c0, if_pos c1]) (evThen f2 (fun k => rfl) (evIs fun k => rfl)), hr⟩
    · by_cases c2 : v = 2
      · exact ⟨(a, b, o3, T, q3), Ev.congr (fun k => by unfold spec_l1Rd_hurtConfig.f; rw [e, Option.bind_some, if_neg c0, if_neg c1, if_pos c2]) (evThen f3 (fun k => rfl) (evIs fun k => rfl)), hr⟩
      · by_cases c3 : v = 3
        · exact ⟨(a, b, c, R, q4), Ev.congr (fun k => by unfold spec_l1Rd_hurtConfig.f; rw [e, Option.bind_some, if_neg c0, if_neg c1, if_neg c2, if_pos c3]) (evThen f4 (fun k => rfl) (evIs fun k => rfl)), hR⟩
        · by_cases c4 : v = 4
          · exact ⟨(a, wrap64 ((wrap64 (a - 5)) + w), c, T, q5), evIs fun k => by unfold spec_l1Rd_hurtConfig.f; rw [e, Option.bind_some, if_neg c0, if_neg c1, if_neg c2, if_neg c3, if_pos c4, f5, Option.bind_some], hr⟩
          · exact ⟨(a, b, c, T, p1), evIs fun k => by unfold spec_l1Rd_hurtConfig.f; rw [e, Option.bind_some, if_neg c0, if_neg c1, if_neg c2, if_neg c3, if_neg c4], hr⟩
theorem drawCfg {l : List Int} (h : RdOk l 0) : ∃ r : Int × Int × Int × List ByteArray, Ev (fun k => spec_DrawConfigOk.f k l) r ∧ TyR r.2.2.2 := by
  obtain ⟨a, b, c, T, p, e, hT, hT0, h1⟩ := config_ok h
  obtain ⟨r, er, hr⟩ := hurtCfg_ok h1 a b c T hT hT0
  exact ⟨(r.1, r.2.1, r.2.2.1, r.2.2.2.1), evThen e (fun k => rfl) (evThen er (fun k => rfl) (evIs fun k => rfl)), hr⟩
theorem hurt_ok {l : List Int} {p : Int} (h : RdOk l p) (s : ByteArray) (hs : s.size ≤ 4611686018427387904) : ∃ t p', spec_l1Rd_hurt.f l p s = some (t, p') ∧ t.size ≤ s.size + 1 ∧ RdOk l p' := by
  unfold spec_l1Rd_hurt.f
  obtain ⟨v, p1, e, v0, _, v1, h1⟩ := below_ok h 6
  rw [e]; simp only [Option.bind_some]
  by_cases c1 : v = 1
  · rw [if_pos c1, w64 (n := (s.size : Int) + 1) (by omega) (by omega)]
    obtain ⟨u, p2, e2, u0, ua, ub, h2⟩ := below_ok h1 ((s.size : Int) + 1)
    have hu : u ≤ s.size := by
      by_cases c : 1 < (s.size : Int) + 1
      · have := ub c; omega
      · have := ua (by omega); omega
    rw [e2]; simp only [Option.bind_some]
    rw [if_pos u0, if_pos hu]
    exact ⟨_, p2, rfl, by rw [ByteArray.size_extract]; omega, h2⟩
  · rw [if_neg c1]
    by_cases c2 : v = 2
    · rw [if_pos c2]
      by_cases c3 : (s.size : Int) > 0
      · rw [if_pos c3]
        obtain ⟨u, p2, e2, u0, ua, ub, h2⟩ := below_ok h1 (s.size : Int)
        have hu : u < s.size := by
          by_cases c : 1 < (s.size : Int)
          · exact ub c
          · have := ua (by omega); omega
        rw [e2]; simp only [Option.bind_some]
        rw [if_pos u0, if_pos (by omega)]
        obtain ⟨q, p3, e3, q0, qa, qb, h3⟩ := below_ok h2 4
        have hq := qb (by omega)
        have hz := one4 0 55 255 32 q q0 hq
        rw [e3]; simp only [Option.bind_some]
        rw [if_pos q0, if_pos (by simpa using hq), if_pos (by rw [hz, ByteArray.size_extract]; omega), w64 (n := u + 1) (by omega) (by omega), if_pos (by omega), if_pos (by omega), if_pos (by rw [ByteArray.size_append, hz, ByteArray.size_extract, ByteArray.size_extract]; omega)]
        exact ⟨_, p3, rfl, by rw [ByteArray.size_append, ByteArray.size_append, hz, ByteArray.size_extract, ByteArray.size_extract]; omega, h3⟩
      · rw [if_neg c3]; exact ⟨_, p1, rfl, by omega, h1⟩
    · rw [if_neg c2]
      by_cases c3 : v = 3
      · rw [if_pos c3]
        obtain ⟨q, p3, e3, q0, qa, qb, h3⟩ := below_ok h1 4
        have hq := qb (by omega)
        have hz := one4 0 49 10 32 q q0 hq
        rw [e3]; simp only [Option.bind_some]
        rw [if_pos q0, if_pos (by simpa using hq), if_pos (by rw [hz]; omega)]
        exact ⟨_, p3, rfl, by rw [ByteArray.size_append, hz]; omega, h3⟩
      · rw [if_neg c3]; exact ⟨_, p1, rfl, by omega, h1⟩
/-- a text with some bytes replaced from a place on -/
def withP (s : ByteArray) (a : Nat) (d : ByteArray) : ByteArray := (s.extract 0 a ++ d) ++ s.extract (a + d.size) s.size
theorem withP_size (s : ByteArray) (a : Nat) (d : ByteArray) (h : a + d.size ≤ s.size) : (withP s a d).size = s.size := by
  unfold withP; rw [ByteArray.size_append, ByteArray.size_append, ByteArray.size_extract, ByteArray.size_extract]; omega
theorem sWith (s : ByteArray) (a : Nat) (d : ByteArray) (h : a + d.size ≤ s.size) (hs : s.size ≤ 4611686018427387904) : spec_l2With.f s a d = some (withP s a d) := by
  unfold spec_l2With.f withP
  have e1 : wrap64 ((a : Int) + (d.size : Int)) = ((a + d.size : Nat) : Int) := by rw [w64 (by omega) (by omega)]; omega
  rw [if_pos (by omega), if_pos (by omega), if_pos (by rw [ByteArray.size_extract]; omega), e1, if_pos (by omega), if_pos (by omega), if_pos (by rw [ByteArray.size_append, ByteArray.size_extract, ByteArray.size_extract]; omega)]
  simp only [Int.toNat_natCast]
theorem orN (x y : Nat) (hx : x < 2 ^ 63) (hy : y < 2 ^ 63) : Go.bits .or .i64 (x : Int) (y : Int) = ((x ||| y : Nat) : Int) := by
  have h := Nat.or_lt_two_pow hx hy
  unfold Go.bits
  rw [show IntKind.i64.bits = 64 from rfl]
  simp only [BitVec.toNat_or, ofInt_toNat64]
  rw [show ((x : Int) % 18446744073709551616).toNat = x by omega, show ((y : Int) % 18446744073709551616).toNat = y by omega, IntKind.wrap_i64]
  omega
theorem andN (x : Nat) (hx : x < 2 ^ 63) : Go.bits .and .i64 (x : Int) 1 = ((x % 2 : Nat) : Int) := by
  unfold Go.bits
  rw [show IntKind.i64.bits = 64 from rfl]
  simp only [BitVec.toNat_and, ofInt_toNat64]
  rw [show ((x : Int) % 18446744073709551616).toNat = x by omega, show ((1 : Int) % 18446744073709551616).toNat = 1 by omega, Nat.and_one_is_mod, IntKind.wrap_i64]
  omega
theorem shlN (i : Nat) (hi : i < 60) : shl .i64 1 (i : Int) = ((2 ^ i : Nat) : Int) := by
  have h : 2 ^ i ≤ 2 ^ 60 := Nat.pow_le_pow_right (by decide) (by omega)
  unfold shl
  rw [show min ((i : Int)).toNat IntKind.i64.bits = i by show min _ 64 = _; omega, Int.one_mul, show ((2 : Int) ^ i) = ((2 ^ i : Nat) : Int) by rw [Int.natCast_pow]; rfl, IntKind.wrap_i64]
  generalize 2 ^ i = p at h ⊢
  omega
theorem shrN (r i : Nat) (hi : i < 60) : shr .i64 (r : Int) (i : Int) = ((r >>> i : Nat) : Int) := by
  unfold shr
  rw [show min ((i : Int)).toNat IntKind.i64.bits = i by show min _ 64 = _; omega, Nat.shiftRight_eq_div_pow, show ((2 : Int) ^ i) = ((2 ^ i : Nat) : Int) by rw [Int.natCast_pow]; rfl]
  rfl
theorem bitN (r i : Nat) (hr : r < 2 ^ 60) (hi : i < 60) : (Go.bits .and .i64 (shr .i64 (r : Int) (i : Int)) 1 = 1) ↔ r.testBit i = true := by
  have h : r >>> i < 2 ^ 63 := by rw [Nat.shiftRight_eq_div_pow]; exact Nat.lt_of_le_of_lt (Nat.div_le_self _ _) (Nat.lt_of_lt_of_le hr (Nat.pow_le_pow_right (by decide) (by decide)))
  rw [shrN r i hi, andN _ h, Nat.testBit_eq_decide_div_mod_eq, Nat.shiftRight_eq_div_pow, decide_eq_true_eq]
  omega
theorem maskN (s : ByteArray) : ∀ (n i m : Nat), i + n ≤ 24 → m < 2 ^ i → ∃ r : Nat, maskP s n i (m : Int) = (r : Int) ∧ r < 2 ^ (i + n) ∧ (∀ k, k < i → r.testBit k = m.testBit k) ∧ (∀ k, i ≤ k → k < i + n → r.testBit k = decide (bt s (k : Int) = 114)) := by
  intro n
  induction n with
  | zero => intro i m _ hm; exact ⟨m, rfl, hm, fun _ _ => rfl, fun k h1 h2 => by omega⟩
  | succ n ih =>
    intro i m hi hm
    have h2 : 2 ^ i < 2 ^ (i + 1) := Nat.pow_lt_pow_right (by decide) (by omega)
    have hb : 2 ^ i ≤ 2 ^ 60 := Nat.pow_le_pow_right (by decide) (by omega)
    rw [maskP]
    by_cases c : bt s (i : Int) = 114
    · rw [if_pos c, shlN i (by omega), orN m (2 ^ i) (by omega) (by omega)]
      obtain ⟨r, e, hr, ha, hbb⟩ := ih (i + 1) (m ||| 2 ^ i) (by omega) (Nat.or_lt_two_pow (by omega) h2)
      refine ⟨r, e, by rw [show i + (n + 1) = i + 1 + n by omega]; exact hr, fun k hk => ?_, fun k h1 h3 => ?_⟩
      · rw [ha k (by omega), Nat.testBit_or, Nat.testBit_two_pow]; simp; omega
      · by_cases q : k = i
        · subst q
          rw [ha k (by omega), Nat.testBit_or, Nat.testBit_two_pow, decide_eq_true c]; simp
        · exact hbb k (by omega) (by omega)
    · rw [if_neg c]
      obtain ⟨r, e, hr, ha, hbb⟩ := ih (i + 1) m (by omega) (by omega)
      refine ⟨r, e, by rw [show i + (n + 1) = i + 1 + n by omega]; exact hr, fun k hk => ha k (by omega), fun k h1 h3 => ?_⟩
      by_cases q : k = i
      · subst q
        rw [ha k (by omega), decide_eq_false c]
        exact Nat.testBit_lt_two_pow hm
      · exact hbb k (by omega) (by omega)
theorem join3 (r : Nat) (h : r < 2 ^ 24) : Go.bits .or .i64 (Go.bits .or .i64 (((r : Int) / 65536 % 256) * 65536) (((r : Int) / 256 % 256) * 256)) ((r : Int) % 256) = (r : Int) := by
  have e1 : ((r : Int) / 65536 % 256) * 65536 = ((r / 65536 * 65536 : Nat) : Int) := by omega
  have e2 : ((r : Int) / 256 % 256) * 256 = ((r / 256 % 256 * 256 : Nat) : Int) := by omega
  have e3 : (r : Int) % 256 = ((r % 256 : Nat) : Int) := by omega
  rw [e1, e2, e3, orN _ _ (by omega) (by omega)]
  have o1 := Nat.two_pow_add_eq_or_of_lt (i := 16) (b := r / 256 % 256 * 256) (by omega) (r / 65536)
  rw [show 2 ^ 16 * (r / 65536) = r / 65536 * 65536 by omega] at o1
  rw [← o1, orN _ _ (by omega) (by omega)]
  have o2 := Nat.two_pow_add_eq_or_of_lt (i := 8) (b := r % 256) (by omega) (r / 256)
  rw [show r / 65536 * 65536 + r / 256 % 256 * 256 = 2 ^ 8 * (r / 256) by omega, ← o2]
  omega
theorem snoc_byte (s : ByteArray) (k : Nat) (hk : k < s.size) (b : UInt8) (hb : bt s (k : Int) = (b.toNat : Int)) : s.extract 0 k ++ (⟨#[b]⟩ : ByteArray) = s.extract 0 (k + 1) := by
  have z1 : (s.extract 0 k).size = k := by rw [ByteArray.size_extract]; omega
  refine ext_bt (by rw [ByteArray.size_append, z1, lit1z, ByteArray.size_extract]; omega) (fun i hi => ?_)
  rw [ByteArray.size_append, z1, lit1z] at hi
  rw [bt_extract s 0 (k + 1) i (by omega) (by omega) (by omega)]
  by_cases q : i < k
  · rw [bt_append_l _ _ _ (by omega) (by omega), bt_extract s 0 k i (by omega) (by omega) (by omega)]
  · obtain rfl : i = k := by omega
    rw [bt_append_r _ _ _ (by omega) (by rw [z1, lit1z]; omega), z1, show ((i : Int) - (i : Int)) = 0 by omega, show ((0 : Nat) : Int) + (i : Int) = (i : Int) by omega, hb]
    rfl
theorem kndN (s : ByteArray) (r : Nat) (hr : r < 2 ^ 60) (hz : s.size ≤ 24) (hs : ∀ i : Nat, i < s.size → (bt s (i : Int) = 105 ∨ bt s (i : Int) = 114)) (hb : ∀ k, k < s.size → r.testBit k = decide (bt s (k : Int) = 114)) : ∀ (n k : Nat), k + n = s.size → kndP (r : Int) n k (s.extract 0 k) = s := by
  intro n
  induction n with
  | zero => intro k hk; rw [kndP]; exact extract_all s k (by omega)
  | succ n ih =>
    intro k hk
    rw [kndP]
    have h1 := hb k (by omega)
    have h2 := bitN r k hr (by omega)
    by_cases c : bt s (k : Int) = 114
    · rw [decide_eq_true c] at h1
      rw [if_pos (h2.2 h1), snoc_byte s k (by omega) 114 (by rw [c]; rfl)]
      exact ih (k + 1) (by omega)
    · rw [decide_eq_false c] at h1
      rw [if_neg (fun q => by rw [h2.1 q] at h1; cases h1), snoc_byte s k (by omega) 105 (((hs k (by omega)).resolve_right c).trans rfl)]
      exact ih (k + 1) (by omega)
theorem supP_at : ∀ (l : List ByteArray) (x : ByteArray) (i : Nat) (h : i < l.length) (j : Nat), j < 4 → bt (supP l x) ((x.size : Int) + 4 * (i : Int) + (j : Int)) = bt (typP l[i] (maskP l[i] (l[i]).size 0 0)) (j : Int)
  | [], _, i, h, _, _ => by simp at h
  | s :: r, x, 0, _, j, hj => by
    have z := typP_size s (maskP s s.size 0 0)
    rw [supP, supP_bt r _ _ (by omega) (by rw [ByteArray.size_append, z]; omega), bt_append_r _ _ _ (by omega) (by rw [z]; omega)]
    simp only [List.getElem_cons_zero]
    congr 1; omega
  | s :: r, x, i + 1, h, j, hj => by
    have z := typP_size s (maskP s s.size 0 0)
    have ih := supP_at r (x ++ typP s (maskP s s.size 0 0)) i (by simpa using h) j hj
    rw [supP]
    simp only [List.getElem_cons_succ]
    rw [← ih, ByteArray.size_append, z]
    congr 1; omega
theorem typP_bt (s : ByteArray) (m : Int) : bt (typP s m) 0 = (s.size : Int) % 256 ∧ bt (typP s m) 1 = m / 65536 % 256 ∧ bt (typP s m) 2 = m / 256 % 256 ∧ bt (typP s m) 3 = m % 256 := by
  have g : ∀ x ∈ [((s.size : Int)) % 256, (m / 65536) % 256, (m / 256) % 256, m % 256], 0 ≤ x ∧ x ≤ 255 := by
    intro x hx
    simp only [List.mem_cons, List.not_mem_nil, or_false] at hx
    omega
  unfold typP
  exact ⟨bt_strOfNums _ g 0 (by simp), bt_strOfNums _ g 1 (by simp), bt_strOfNums _ g 2 (by simp), bt_strOfNums _ g 3 (by simp)⟩
theorem head_sh {a b c : Int} {l : List ByteArray} (h : cfgP a b c l = true) : shP (supHead a b c l.length) 4 = a ∧ shP (supHead a b c l.length) 6 = b ∧ shP (supHead a b c l.length) 8 = c := by
  obtain ⟨h1, _⟩ := cfgP_of h
  have ra := rs_sb a (by omega)
  have rb := rs_sb b (by omega)
  have rc := rs_sb c (by omega)
  have m4 : (⟨#[78, 86, 71, 49]⟩ : ByteArray).size = 4 := rfl
  have z1 : ((⟨#[78, 86, 71, 49]⟩ : ByteArray) ++ sb a).size = 6 := by rw [ByteArray.size_append, ra.1, m4]
  have z2 : (((⟨#[78, 86, 71, 49]⟩ : ByteArray) ++ sb a) ++ sb b).size = 8 := by rw [ByteArray.size_append, z1, rb.1]
  have z3 : ((((⟨#[78, 86, 71, 49]⟩ : ByteArray) ++ sb a) ++ sb b) ++ sb c).size = 10 := by rw [ByteArray.size_append, z2, rc.1]
  unfold shP supHead
  refine ⟨?_, ?_, ?_⟩
  · rw [bt_append_l _ _ _ (by omega) (by omega), bt_append_l _ _ _ (by omega) (by omega), bt_append_l _ _ _ (by omega) (by omega), bt_append_r _ _ _ (by omega) (by omega),
      bt_append_l _ _ _ (by omega) (by omega), bt_append_l _ _ _ (by omega) (by omega), bt_append_l _ _ _ (by omega) (by omega), bt_append_r _ _ _ (by omega) (by omega), m4]
    exact ra.2
  · rw [bt_append_l _ _ _ (by omega) (by omega), bt_append_l _ _ _ (by omega) (by omega), bt_append_r _ _ _ (by omega) (by omega),
      bt_append_l _ _ _ (by omega) (by omega), bt_append_l _ _ _ (by omega) (by omega), bt_append_r _ _ _ (by omega) (by omega), z1]
    exact rb.2
  · rw [bt_append_l _ _ _ (by omega) (by omega), bt_append_r _ _ _ (by omega) (by omega),
      bt_append_l _ _ _ (by omega) (by omega), bt_append_r _ _ _ (by omega) (by omega), z2]
    exact rc.2
/-- a right config comes back from its line -/
theorem super_trip {a b c : Int} {l : List ByteArray} (h : cfgP a b c l = true) : rsP (superP a b c l) = (a, b, c, l, true) := by
  obtain ⟨e1, e2⟩ := superP_t h
  obtain ⟨t1, t2⟩ := head_ten h
  obtain ⟨s1, s2, s3⟩ := head_sh h
  have hz : (supP l (supHead a b c l.length)).size = 11 + 4 * l.length := by rw [supP_size, t2]
  have hS : (superP a b c l).size = 64 := by rw [e1]; exact sealedP_size _ e2
  have hb : ∀ i : Int, 0 ≤ i → i < 11 + 4 * (l.length : Int) → bt (superP a b c l) i = bt (supP l (supHead a b c l.length)) i := fun i h0 h1 => by
    rw [e1]; exact sealed_bt _ e2 i h0 (by omega)
  have hh : ∀ i : Int, 0 ≤ i → i < 11 → bt (superP a b c l) i = bt (supHead a b c l.length) i := fun i h0 h1 => by
    rw [hb i h0 (by omega)]; exact supP_bt _ _ i h0 (by omega)
  have q1 : shP (superP a b c l) 4 = a := (show shP (superP a b c l) 4 = shP (supHead a b c l.length) 4 by unfold shP; rw [hh _ (by omega) (by omega), hh _ (by omega) (by omega)]).trans s1
  have q2 : shP (superP a b c l) 6 = b := (show shP (superP a b c l) 6 = shP (supHead a b c l.length) 6 by unfold shP; rw [hh _ (by omega) (by omega), hh _ (by omega) (by omega)]).trans s2
  have q3 : shP (superP a b c l) 8 = c := (show shP (superP a b c l) 8 = shP (supHead a b c l.length) 8 by unfold shP; rw [hh _ (by omega) (by omega), hh _ (by omega) (by omega)]).trans s3
  have h10 := superP_ten h
  obtain ⟨_, h4, hg⟩ := tys_of (cfgP_of h).2
  have hT : supT 24 (superP a b c l) = l := by
    unfold supT
    rw [h10, show min ((l.length : Int)).toNat 12 = l.length by omega, typsP_map, List.nil_append]
    refine List.ext_getElem (by simp) (fun i hi hi' => ?_)
    simp only [List.getElem_map, List.getElem_range', Nat.zero_add, Nat.one_mul]
    have hgi := isType_ok l[i] (hg _ (List.getElem_mem hi'))
    have at_ : ∀ j : Nat, j < 4 → bt (superP a b c l) (11 + 4 * (i : Int) + (j : Int)) = bt (typP l[i] (maskP l[i] (l[i]).size 0 0)) (j : Int) := fun j hj => by
      rw [hb _ (by omega) (by omega)]
      have := supP_at l (supHead a b c l.length) i hi' j hj
      rw [t2] at this; exact this
    obtain ⟨k0, k1, k2, k3⟩ := typP_bt l[i] (maskP l[i] (l[i]).size 0 0)
    have a0 := at_ 0 (by omega)
    have a1 := at_ 1 (by omega)
    have a2 := at_ 2 (by omega)
    have a3 := at_ 3 (by omega)
    obtain ⟨r, er, hr, _, hbits⟩ := maskN l[i] (l[i]).size 0 0 (by omega) (by decide)
    have er' : maskP l[i] (l[i]).size 0 0 = (r : Int) := er
    rw [Nat.zero_add] at hr hbits
    have hr24 : r < 2 ^ 24 := Nat.lt_of_lt_of_le hr (Nat.pow_le_pow_right (by decide) (by omega))
    rw [er'] at a0 a1 a2 a3 k0 k1 k2 k3
    have hc : cntP (superP a b c l) i = ((l[i]).size : Int) := by
      unfold cntP
      rw [show 11 + 4 * (i : Int) = 11 + 4 * (i : Int) + ((0 : Nat) : Int) by omega, a0, show ((0 : Nat) : Int) = 0 from rfl, k0]; omega
    have hm : mskP (superP a b c l) i = (r : Int) := by
      unfold mskP
      rw [show 12 + 4 * (i : Int) = 11 + 4 * (i : Int) + ((1 : Nat) : Int) by omega, a1, show 13 + 4 * (i : Int) = 11 + 4 * (i : Int) + ((2 : Nat) : Int) by omega, a2, show 14 + 4 * (i : Int) = 11 + 4 * (i : Int) + ((3 : Nat) : Int) by omega, a3,
        show ((1 : Nat) : Int) = 1 from rfl, show ((2 : Nat) : Int) = 2 from rfl, show ((3 : Nat) : Int) = 3 from rfl, k1, k2, k3]
      exact join3 r hr24
    unfold oneP
    rw [hc, hm, show min (((l[i]).size : Int)).toNat 24 = (l[i]).size by omega]
    have := kndN l[i] r (Nat.lt_of_lt_of_le hr24 (Nat.pow_le_pow_right (by decide) (by decide))) (by omega) hgi.2.2 (fun k hk => hbits k (by omega) hk) (l[i]).size 0 (by omega)
    rw [show (l[i]).extract 0 0 = (⟨#[]⟩ : ByteArray) from ByteArray.ext (by simp [ByteArray.data_extract])] at this
    exact this
  unfold rsP finS
  rw [if_pos hS, q1, q2, q3, hT, if_pos rfl]
def okB (s : ByteArray) : Prop := s.data.toList.all impl_isType.ok = true
theorem okB_app {s t : ByteArray} (hs : okB s) (ht : okB t) : okB (s ++ t) := by
  unfold okB at *
  rw [ByteArray.data_append, Array.toList_append, List.all_append, hs, ht]; rfl
theorem okB_g {s : ByteArray} (h : okB s) (h1 : 1 ≤ s.size) (h2 : s.size ≤ 23) : impl_isType.g s = true := by
  unfold impl_isType.g; unfold okB at h; rw [h, decide_eq_true (by omega)]; rfl
theorem kinds_lg {l : List Int} : ∀ (n : Nat) (x : ByteArray) (p : Int), RdOk l p → x.size + n ≤ 1048576 → okB x → ∃ s p', Ev (fun k => spec_l1Rd_kinds.l0 k x (n : Int) l p) (s, p') ∧ s.size = x.size + n ∧ okB s ∧ RdOk l p' := by
  intro n
  induction n with
  | zero =>
    intro x p h hx ho
    exact ⟨x, p, evIs1 fun k => by simp only [spec_l1Rd_kinds.l0]; rw [if_neg (by omega)], by omega, ho, h⟩
  | succ n ih =>
    intro x p h hx ho
    obtain ⟨q, p3, e3, q0, qa, qb, h3⟩ := below_ok h 2
    have hq := qb (by omega)
    have hz : (rdOf ByteArray.empty ([(⟨#[105]⟩ : ByteArray), (⟨#[114]⟩ : ByteArray)] : List ByteArray) q).size = 1 := by
      have : q = 0 ∨ q = 1 := by omega
      rcases this with rfl | rfl <;> rfl
    have ho2 : okB (rdOf ByteArray.empty ([(⟨#[105]⟩ : ByteArray), (⟨#[114]⟩ : ByteArray)] : List ByteArray) q) := by
      have : q = 0 ∨ q = 1 := by omega
      rcases this with rfl | rfl <;> (show List.all _ _ = true; decide)
    obtain ⟨s, p', e', hs, hk, h'⟩ := ih (x ++ rdOf ByteArray.empty ([(⟨#[105]⟩ : ByteArray), (⟨#[114]⟩ : ByteArray)] : List ByteArray) q) p3 h3 (by rw [ByteArray.size_append, hz]; omega) (okB_app ho ho2)
    refine ⟨s, p', Ev.step (f := fun k => spec_l1Rd_kinds.l0 k (x ++ rdOf ByteArray.empty ([(⟨#[105]⟩ : ByteArray), (⟨#[114]⟩ : ByteArray)] : List ByteArray) q) (n : Int) l p3) (fun k => ?_) e', by rw [hs, ByteArray.size_append, hz]; omega, hk, h'⟩
    simp only [spec_l1Rd_kinds.l0]
    rw [if_pos (by omega), Option.bind_some, e3]
    simp only [Option.bind_some]
    rw [if_pos q0, if_pos (by simpa using hq), if_pos (by rw [hz]; omega), w64 (n := ((n + 1 : Nat) : Int) - 1) (by omega) (by omega), show ((n + 1 : Nat) : Int) - 1 = (n : Int) by omega]
theorem kinds_g {l : List Int} {p : Int} (h : RdOk l p) (m : Int) (h0 : 1 ≤ m) (hm : m ≤ 23) : ∃ s p', Ev (fun k => spec_l1Rd_kinds.f k l p m) (s, p') ∧ impl_isType.g s = true ∧ RdOk l p' := by
  obtain ⟨v, p1, e, v0, va, v1, h1⟩ := below_ok h m
  have hv : v ≤ 22 := by
    by_cases c : 1 < m
    · have := v1 c; omega
    · have := va (by omega); omega
  obtain ⟨n, rfl⟩ := Int.eq_ofNat_of_zero_le v0
  obtain ⟨s, p', e', hs, hk, h'⟩ := kinds_lg (1 + n) (⟨#[]⟩ : ByteArray) p1 h1 (by show 0 + (1 + n) ≤ _; omega) rfl
  have hs' : s.size = 1 + n := by rw [hs]; show 0 + _ = _; omega
  refine ⟨s, p', Ev.congr (fun k => ?_) e', okB_g hk (by omega) (by omega), h'⟩
  unfold spec_l1Rd_kinds.f
  rw [e]; simp only [Option.bind_some]
  rw [w64 (by omega) (by omega)]; rfl
theorem types_lg {l : List Int} : ∀ (n m : Nat) (x : List ByteArray) (p : Int), RdOk l p → x.length = m → (∀ s ∈ x, impl_isType.g s = true) → m + n ≤ 1000 → ∃ r p', Ev (fun k => spec_l1Rd_types.l0 k x (n : Int) l p) (r, p') ∧ r.length = m + n ∧ (∀ s ∈ r, impl_isType.g s = true) ∧ RdOk l p' := by
  intro n
  induction n with
  | zero =>
    intro m x p h hx hg hm
    exact ⟨x, p, evIs1 fun k => by simp only [spec_l1Rd_types.l0]; rw [if_neg (by omega)], hx, hg, h⟩
  | succ n ih =>
    intro m x p h hx hg hm
    obtain ⟨b, p1, e1, h1⟩ := once_ok h 4
    have go : ∀ q : Int, 1 ≤ q → q ≤ 23 → (∀ k, spec_l1Rd_types.l0 (k + 1) x ((n + 1 : Nat) : Int) l p = (spec_l1Rd_kinds.f k l p1 q).bind fun z => (if x.length < 8796093022208 then (spec_l1Rd_types.l0 k (x ++ [z.1]) (n : Int) l z.2) else none)) → ∃ r p', Ev (fun k => spec_l1Rd_types.l0 k x ((n + 1 : Nat) : Int) l p) (r, p') ∧ r.length = m + (n + 1) ∧ (∀ s ∈ r, impl_isType.g s = true) ∧ RdOk l p' := by
      intro q hq0 hq he
      obtain ⟨s, p2, e2, hs, h2⟩ := kinds_g h1 q hq0 hq
      obtain ⟨r, p', e', hr, hr0, h'⟩ := ih (m + 1) (x ++ [s]) p2 h2 (by rw [List.length_append, hx]; rfl) (fun t ht => by
        rcases List.mem_append.1 ht with ht | ht
        · exact hg t ht
        · rw [List.mem_singleton] at ht; subst ht; exact hs) (by omega)
      exact ⟨r, p', Ev.step he (evThen e2 (fun k => rfl) (Ev.congr (fun k => by rw [if_pos (by omega)]) e')), by rw [hr]; omega, hr0, h'⟩
    have w : wrap64 (((n + 1 : Nat) : Int) - 1) = (n : Int) := by rw [w64 (by omega) (by omega)]; omega
    cases b with
    | true => exact go 23 (by omega) (by omega) (fun k => by simp only [spec_l1Rd_types.l0]; rw [if_pos (by omega), e1, Option.bind_some, if_pos rfl, w])
    | false => exact go 5 (by omega) (by omega) (fun k => by simp only [spec_l1Rd_types.l0]; rw [if_pos (by omega), e1, Option.bind_some, if_neg (by simp), w])
theorem types_g {l : List Int} {p : Int} (h : RdOk l p) : ∃ r p', Ev (fun k => spec_l1Rd_types.f k l p) (r, p') ∧ impl_TypesOk.g r = true ∧ RdOk l p' := by
  obtain ⟨v, p1, e, v0, _, v1, h1⟩ := below_ok h 4
  have hv := v1 (by omega)
  obtain ⟨u, p2, e2, u0, _, u1, h2⟩ := below_ok h1 3
  have hu := u1 (by omega)
  obtain ⟨n, rfl⟩ := Int.eq_ofNat_of_zero_le u0
  have hz : impl_isType.g (rdOf ByteArray.empty ([(⟨#[105, 114]⟩ : ByteArray), (⟨#[114, 114, 105]⟩ : ByteArray), (⟨#[114, 105]⟩ : ByteArray), (⟨#[105, 114, 114]⟩ : ByteArray)] : List ByteArray) v) = true := by
    have : v = 0 ∨ v = 1 ∨ v = 2 ∨ v = 3 := by omega
    rcases this with rfl | rfl | rfl | rfl <;> decide
  obtain ⟨r, p', e', hr, hg, h'⟩ := types_lg n 1 [rdOf ByteArray.empty ([(⟨#[105, 114]⟩ : ByteArray), (⟨#[114, 114, 105]⟩ : ByteArray), (⟨#[114, 105]⟩ : ByteArray), (⟨#[105, 114, 114]⟩ : ByteArray)] : List ByteArray) v] p2 h2 rfl (fun t ht => by rw [List.mem_singleton] at ht; subst ht; exact hz) (by omega)
  refine ⟨r, p', Ev.congr (fun k => ?_) e', ?_, h'⟩
  · unfold spec_l1Rd_types.f
    rw [Option.bind_some, e]
    simp only [Option.bind_some]
    rw [if_pos v0, if_pos (by simpa using hv), e2]
    rfl
  · unfold impl_TypesOk.g
    rw [List.all_eq_true.2 hg, decide_eq_true (by omega)]; rfl
theorem config_g {l : List Int} {p : Int} (h : RdOk l p) : ∃ a b c T p', Ev (fun k => spec_l1Rd_config.f k l p) (a, b, c, T, p') ∧ cfgP a b c T = true ∧ RdOk l p' := by
  obtain ⟨v1, p1, e1, a1, _, b1, h1⟩ := below_ok h 10
  obtain ⟨v2, p2, e2, a2, _, b2, h2⟩ := below_ok h1 40
  obtain ⟨T, p3, e3, hT, h3⟩ := types_g h2
  obtain ⟨v4, p4, e4, a4, _, b4, h4⟩ := below_ok h3 14
  obtain ⟨b, p5, e5, h5⟩ := once_ok h4 3
  obtain ⟨v6, p6, e6, a6, _, b6, h6⟩ := below_ok h5 200
  have c1 := b1 (by omega)
  have c2 := b2 (by omega)
  have c4 := b4 (by omega)
  have c6 := b6 (by omega)
  have w1 : wrap64 (1 + v1) = 1 + v1 := w64 (by omega) (by omega)
  have w2 : wrap64 (4 + (1 + v1)) = 5 + v1 := by rw [w64 (by omega) (by omega)]; omega
  have w3 : wrap64 (4 + v4) = 4 + v4 := w64 (by omega) (by omega)
  have w4 : wrap64 ((5 + v1) + (4 + v4)) = 9 + v1 + v4 := by rw [w64 (by omega) (by omega)]; omega
  have w5 : wrap64 ((9 + v1 + v4) + 40) = 49 + v1 + v4 := by rw [w64 (by omega) (by omega)]; omega
  have w6 : wrap64 (4 + v6) = 4 + v6 := w64 (by omega) (by omega)
  have w7 : wrap64 (4 + v2) = 4 + v2 := w64 (by omega) (by omega)
  cases b with
  | true =>
    refine ⟨mn (wrap64 ((wrap64 ((wrap64 (4 + (wrap64 (1 + v1)))) + (wrap64 (4 + v4)))) + 40)) 128, 10, wrap64 (4 + v6), T, p6, evThen e3 (fun k => by unfold spec_l1Rd_config.f; rw [e1, Option.bind_some, e2, Option.bind_some]) (evIs fun k => ?_), ?_, h6⟩
    · simp only [e4, Option.bind_some, e5, if_true, e6]
    · rw [w1, w2, w3, w4, w5, w6]
      unfold cfgP cfgB; rw [hT, decide_eq_true]; · rfl
      unfold mn; omega
  | false =>
    refine ⟨wrap64 ((wrap64 (4 + (wrap64 (1 + v1)))) + (wrap64 (4 + v4))), wrap64 (1 + v1), wrap64 (4 + v2), T, p5, evThen e3 (fun k => by unfold spec_l1Rd_config.f; rw [e1, Option.bind_some, e2, Option.bind_some]) (evIs fun k => ?_), ?_, h5⟩
    · simp only [e4, Option.bind_some, e5, Bool.false_eq_true, if_false]
    · rw [w1, w2, w3, w4, w7]
      unfold cfgP cfgB; rw [hT, decide_eq_true]; · rfl
      omega
theorem superP_size {a b c : Int} {l : List ByteArray} (h : cfgP a b c l = true) : (superP a b c l).size = 64 := by
  obtain ⟨_, h2⟩ := cfgP_of h
  obtain ⟨_, h4, _⟩ := tys_of h2
  unfold superP; rw [if_pos h]
  have hh := supHead_size a b c l.length
  exact sealedP_size _ (by rw [supP_size]; omega)
theorem drawReadSuper {l : List Int} (h : RdOk l 0) : ∃ s : ByteArray, Ev (fun k => spec_DrawReadSuper.f k l) s := by
  obtain ⟨a, b, c, T, p, e, hc, h1⟩ := config_g h
  obtain ⟨v, p1, e1, v0, _, v1, h2⟩ := below_ok h1 5
  have hT := tys_of (cfgP_of hc).2
  have z := superP_size hc
  have sL := sSL a b c T (by omega) (fun s hs => by have := cfg_sizes hc s hs; omega)
  by_cases c0 : v = 0
  · obtain ⟨t, p2, e2, _, _⟩ := hurt_ok h2 (superP a b c T) (by omega)
    refine ⟨t, evThen e (fun k => rfl) (evThen sL (fun k => rfl) (evIs fun k => ?_))⟩
    simp only [e1, Option.bind_some]
    rw [if_pos c0, e2]; rfl
  · by_cases c1 : v = 1
    · obtain ⟨u, p2, e2, u0, _, u1, h3⟩ := below_ok h2 60
      have hu := u1 (by omega)
      obtain ⟨q, p3, e3, q0, _, q1, h4⟩ := below_ok h3 256
      have hx : ((superP a b c T).extract 0 60).size = 60 := by rw [ByteArray.size_extract]; omega
      have hz : (strOfNums ([q % 256] : List Int)).size = 1 := one_size _
      have hwz := withP_size ((superP a b c T).extract 0 60) u.toNat (strOfNums ([q % 256] : List Int)) (by omega)
      have hw := sWith ((superP a b c T).extract 0 60) u.toNat (strOfNums ([q % 256] : List Int)) (by omega) (by omega)
      rw [show ((u.toNat : Nat) : Int) = u by omega] at hw
      refine ⟨sealedP (withP ((superP a b c T).extract 0 60) u.toNat (strOfNums ([q % 256] : List Int))), evThen e (fun k => rfl) (evThen sL (fun k => rfl) (Ev.congr (fun k => ?_) (evThen (h := fun k => (spec_Sealed.f k (withP ((superP a b c T).extract 0 60) u.toNat (strOfNums ([q % 256] : List Int)))).bind fun t => some t) (sSealed (withP ((superP a b c T).extract 0 60) u.toNat (strOfNums ([q % 256] : List Int))) (by omega)) (fun k => rfl) (Ev.now _))))⟩
      simp only [e1, Option.bind_some]
      rw [if_neg c0, if_pos c1, e2]
      simp only [Option.bind_some]
      rw [if_pos (by omega), if_pos (by omega), e3]
      simp only [Option.bind_some]
      rw [hw]; rfl
    · exact ⟨_, evThen e (fun k => rfl) (evThen sL (fun k => rfl) (evIs fun k => by simp only [e1, Option.bind_some]; rw [if_neg c0, if_neg c1]))⟩
theorem rs_ok {t : ByteArray} (h : (rsP t).2.2.2.2 = true) : t.size = 64 ∧ superP (rsP t).1 (rsP t).2.1 (rsP t).2.2.1 (rsP t).2.2.2.1 = t := by
  unfold rsP at h ⊢
  by_cases c1 : t.size = 64
  · rw [if_pos c1] at h ⊢
    unfold finS at h ⊢
    by_cases c2 : superP (shP t 4) (shP t 6) (shP t 8) (supT 24 t) = t
    · rw [if_pos c2]; exact ⟨c1, c2⟩
    · rw [if_neg c2] at h; cases h
  · rw [if_neg c1] at h; cases h
theorem supers_end (a b c : Int) (T : List ByteArray) (hT : TyR T) : Ev (fun k => laws_FnSupers.j0 k (superP a b c T) false a b c T) true := by
  have hT1 : T.length ≤ 1000 := hT.1
  have hT2 : ∀ s ∈ T, s.size ≤ 9223372036854775807 := fun s hs => by have := hT.2 s hs; omega
  refine Ev.step (f := fun k => _) (fun k => by simp (implicitDefEqProofs := false) only [laws_FnSupers.j0, Bool.false_eq_true, if_false]; rfl) ?_
  refine evThen (iRSup (superP a b c T)) (fun k => rfl) (evThen (sCfg a b c T (by omega) hT2) (fun k => rfl) ?_)
  by_cases h : cfgP a b c T = true
  · rw [super_trip h, h]
    simp only [beq_self_eq_true, if_true]
    refine evThen (evIs (fun k => iCfg a b c T)) (fun k => rfl) ?_
    rw [h]
    simp only [beq_self_eq_true, if_true]
    refine evThen (sameCfg_refl a b c T (by omega)) (fun k => rfl) (evIs fun k => ?_)
    rw [if_pos rfl, superP_size h]; rfl
  · have e : superP a b c T = (⟨#[]⟩ : ByteArray) := by unfold superP; rw [if_neg h]
    have e2 : rsP (⟨#[]⟩ : ByteArray) = (0, 0, 0, [], false) := by unfold rsP; rw [if_neg (by decide)]
    rw [e, e2, Bool.eq_false_iff.2 h]
    simp only [beq_self_eq_true, if_true]
    refine evThen (evIs (fun k => iCfg a b c T)) (fun k => rfl) ?_
    rw [Bool.eq_false_iff.2 h]
    simp only [beq_self_eq_true, if_true, Bool.false_eq_true, if_false]
    exact Ev.now _
theorem FnSupers : laws_FnSupers.Pure := by
  intro l hl _ hw
  by_cases hb : (l.length : Int) > 1048576
  · exact ⟨0, by unfold laws_FnSupers.f laws_big.f; rw [decide_eq_true hb, Option.bind_some, if_pos rfl]⟩
  · have h0 : RdOk l 0 := RdOk.start (by omega) hw
    obtain ⟨⟨a, b, c, T⟩, es, hT⟩ := drawCfg (l := l) h0
    obtain ⟨t, et⟩ := drawReadSuper h0
    have hT1 : T.length ≤ 1000 := hT.1
    have hT2 : ∀ s ∈ T, s.size ≤ 9223372036854775807 := fun s hs => by have := hT.2 s hs; omega
    have fin := supers_end a b c T hT
    refine Ev.rounds (evThen (g := fun k => spec_DrawSuperLine.f k l) (a := (a, b, c, T)) (evThen es (fun k => rfl) (evIs fun k => rfl)) (fun k => by unfold laws_FnSupers.f laws_big.f; rw [decide_eq_false hb, Option.bind_some, if_neg (by decide)]) ?_)
    refine evThen (iSL a b c T (by omega) hT2) (fun k => rfl) (evThen et (fun k => rfl) (evThen (iRSup t) (fun k => rfl) (evThen (sRS t) (fun k => rfl) (evThen (sSL a b c T (by omega) hT2) (fun k => rfl) ?_))))
    simp only [if_true, bne_self_eq_false, Bool.false_eq_true, if_false]
    refine evThen (sameCfg_refl _ _ _ _ (by have := rsP_len t; omega)) (fun k => rfl) ?_
    simp only [if_true]
    by_cases hr : (rsP t).2.2.2.2 = true
    · obtain ⟨hz, hs⟩ := rs_ok hr
      have hc := superP_cfg hz hs
      have hlen := rsP_len t
      simp only [hr, if_true]
      refine evThen (iSL _ _ _ _ (by omega) (fun s hs => by have := cfg_sizes hc s hs; omega)) (fun k => rfl) ?_
      rw [hs]
      simp only [if_true]
      refine evThen (evIs (fun k => iCfg _ _ _ _)) (fun k => rfl) ?_
      rw [hc]
      exact fin
    · simp only [hr, Bool.false_eq_true, if_false]
      exact fin
end Go.Proofs.YtknllhfhcgahiaaDoor.Pure
