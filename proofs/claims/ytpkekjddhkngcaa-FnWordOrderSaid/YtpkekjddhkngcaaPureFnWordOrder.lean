/- Proved: for every two lists of drawn bytes the greater one of the two drawn numbers has the greater bytes, with no condition on the input. -/
import Derived.Test.YtpkekjddhkngcaaPFnWordOrderx2
namespace Go.Proofs.Ytpkekjddhkngcaa.Pure
open Go.RowKit Go.Proofs.Ytpkekjddhkngcaa.PFnWordOrder Go.Proofs.YtpkekjddhkngcaaW.PrintWords Go.Proofs.YtpkekjddhkngcaaW.PrintLast
theorem w64 {n : Int} (h0 : -9223372036854775808 ≤ n) (h1 : n ≤ 9223372036854775807) : wrap64 n = n := by unfold wrap64; omega
theorem u64 (n : Int) : IntKind.u64.wrap n = n % 18446744073709551616 := by simp [IntKind.wrap, IntKind.bits, IntKind.signed]
theorem wf64 {n : Int} (h : (Lit.int .i64 n).wf = true) : -9223372036854775808 ≤ n ∧ n ≤ 9223372036854775807 := by
  simp [Lit.wf, IntKind.min, IntKind.max, IntKind.bits, IntKind.signed] at h
  omega
/-- a reader of drawn bytes that is in order -/
def RdOk (l : List Int) (p : Int) : Prop := 0 ≤ p ∧ p ≤ (l.length : Int) ∧ (l.length : Int) ≤ 140737488351232 ∧ ∀ x ∈ l, 0 ≤ x ∧ x ≤ 255
theorem RdOk.start {l : List Int} (h1 : l.length * 1 ≤ 140737488351232) (h2 : ∀ x ∈ l, (Lit.int .u8 x).wf = true) : RdOk l 0 :=
  ⟨by omega, by omega, by omega, fun x hx => by
    have := h2 x hx
    simp [Lit.wf, IntKind.min, IntKind.max, IntKind.bits, IntKind.signed] at this
    omega⟩
theorem rd_mem {l : List Int} {i : Int} (h0 : 0 ≤ i) (h1 : i < (l.length : Int)) : rd l i ∈ l := by
  unfold rd
  rw [List.getD_eq_getElem?_getD, List.getElem?_eq_getElem (by omega : i.toNat < l.length)]
  exact List.getElem_mem _
theorem bits_u64 (op : BinOp) (x y : Int) : 0 ≤ Go.bits op .u64 x y ∧ Go.bits op .u64 x y < 18446744073709551616 := by
  unfold Go.bits; rw [u64]; omega
theorem wrap64_in (x : Int) : -9223372036854775808 ≤ wrap64 x ∧ wrap64 x ≤ 9223372036854775807 := by unfold wrap64; omega
theorem one4 (a b c d : UInt8) (i : Int) (h0 : 0 ≤ i) (h1 : i < 4) : (rdOf ByteArray.empty ([(⟨#[a]⟩ : ByteArray), (⟨#[b]⟩ : ByteArray), (⟨#[c]⟩ : ByteArray), (⟨#[d]⟩ : ByteArray)] : List ByteArray) i).size = 1 := by
  have : i = 0 ∨ i = 1 ∨ i = 2 ∨ i = 3 := by omega
  rcases this with rfl | rfl | rfl | rfl <;> rfl
theorem next_ok {l : List Int} {p : Int} (h : RdOk l p) : ∃ v p', spec_l1Rd_next.f l p = some (v, p') ∧ 0 ≤ v ∧ v ≤ 255 ∧ RdOk l p' := by
  obtain ⟨h0, h1, h2, h3⟩ := h
  unfold spec_l1Rd_next.f
  by_cases c : p ≥ (l.length : Int)
  · exact ⟨0, p, by rw [if_pos c], by omega, by omega, h0, h1, h2, h3⟩
  · have hm := h3 _ (rd_mem h0 (by omega : p < (l.length : Int)))
    refine ⟨rd l p, p + 1, ?_, hm.1, hm.2, by omega, by omega, h2, h3⟩
    rw [if_neg c, w64 (n := p + 1) (by omega) (by omega), w64 (n := p + 1 - 1) (by omega) (by omega), if_pos (by omega), if_pos (by omega), show p + 1 - 1 = p by omega, w64 (by omega) (by omega)]
theorem below_ok {l : List Int} {p : Int} (h : RdOk l p) (n : Int) : ∃ v p', spec_l1Rd_below.f l p n = some (v, p') ∧ 0 ≤ v ∧ (n ≤ 1 → v = 0) ∧ (1 < n → v < n) ∧ RdOk l p' := by
  unfold spec_l1Rd_below.f
  by_cases c : n ≤ 1
  · exact ⟨0, p, by rw [if_pos c], by omega, fun _ => rfl, fun _ => by omega, h⟩
  · rw [if_neg c]
    by_cases c2 : n ≤ 256
    · obtain ⟨v, p1, e, v0, v1, h'⟩ := next_ok h
      refine ⟨Int.tmod v n, p1, by rw [if_pos c2, e]; simp only [Option.bind_some]; rw [if_neg (by omega)], ?_, by omega, fun _ => ?_, h'⟩
      · rw [Int.tmod_eq_emod_of_nonneg v0]; exact Int.emod_nonneg _ (by omega)
      · rw [Int.tmod_eq_emod_of_nonneg v0]; exact Int.emod_lt_of_pos _ (by omega)
    · obtain ⟨v, p1, e, v0, v1, h'⟩ := next_ok h
      obtain ⟨u, p2, e2, u0, u1, h2⟩ := next_ok h'
      have e3 : wrap64 (wrap64 (v * 256) + u) = v * 256 + u := by rw [w64 (n := v * 256) (by omega) (by omega), w64 (by omega) (by omega)]
      refine ⟨Int.tmod (v * 256 + u) n, p2, by rw [if_neg c2, e]; simp only [Option.bind_some]; rw [e2]; simp only [Option.bind_some]; rw [if_neg (by omega), e3], ?_, by omega, fun _ => ?_, h2⟩
      · rw [Int.tmod_eq_emod_of_nonneg (by omega)]; exact Int.emod_nonneg _ (by omega)
      · rw [Int.tmod_eq_emod_of_nonneg (by omega)]; exact Int.emod_lt_of_pos _ (by omega)
theorem word_in {l : List Int} : ∀ (d j : Nat) (x p : Int), j + d = 8 → 0 ≤ x → x < 18446744073709551616 → RdOk l p → ∃ v p', Ev (fun k => spec_l1Rd_word.l0 k x j l p) (v, p') ∧ 0 ≤ v ∧ v < 18446744073709551616 ∧ RdOk l p' := by
  intro d
  induction d with
  | zero =>
    intro j x p hj h0 h1 h
    exact ⟨x, p, Ev.step (f := fun _ => some (x, p)) (fun k => by simp only [spec_l1Rd_word.l0]; rw [if_neg (by omega)]) (Ev.now _), h0, h1, h⟩
  | succ d ih =>
    intro j x p hj h0 h1 h
    obtain ⟨u, p1, e, u0, u1, h'⟩ := next_ok h
    have hb := bits_u64 .or (IntKind.u64.wrap (x * 256)) (IntKind.u64.wrap u)
    obtain ⟨v, p2, e2, v0, v1, h2⟩ := ih (j + 1) _ p1 (by omega) hb.1 hb.2 h'
    refine ⟨v, p2, Ev.step (fun k => ?_) e2, v0, v1, h2⟩
    simp only [spec_l1Rd_word.l0]; rw [if_pos (by omega), e]; simp only [Option.bind_some]; rw [w64 (n := (j : Int) + 1) (by omega) (by omega)]; rfl
theorem word_ok {l : List Int} {p : Int} (h : RdOk l p) : ∃ v p', Ev (fun k => spec_l1Rd_word.f k l p) (v, p') ∧ 0 ≤ v ∧ v < 18446744073709551616 ∧ RdOk l p' := by
  obtain ⟨v, p', e, h⟩ := word_in 8 0 0 p (by omega) (by omega) (by omega) h
  exact ⟨v, p', Ev.congr (fun k => rfl) e, h⟩
theorem odd_ok {l : List Int} {p : Int} (h : RdOk l p) : ∃ v p', Ev (fun k => spec_l1Rd_odd.f k l p) (v, p') ∧ -9223372036854775808 ≤ v ∧ v ≤ 9223372036854775807 ∧ RdOk l p' := by
  unfold spec_l1Rd_odd.f
  obtain ⟨v, p1, e, v0, _, v1, h1⟩ := below_ok h 5
  rw [e]; simp only [Option.bind_some]
  by_cases c0 : v = 0
  · obtain ⟨u, p2, e2, u0, u1, h2⟩ := word_ok h1
    have hw := wrap64_in u
    refine ⟨wrap64 u, p2, ?_, hw.1, hw.2, h2⟩
    simp only [if_pos c0]
    exact Ev.bind (f := fun _ (b : Int × Int) => some (wrap64 b.1, b.2)) e2 (Ev.now _)
  · simp only [if_neg c0]
    by_cases c1 : v = 1
    · obtain ⟨u, p2, e2, u0, _, u1, h2⟩ := below_ok h1 7
      have hu := u1 (by omega)
      simp only [if_pos c1, e2, Option.bind_some]
      rw [if_pos u0, if_pos (by simpa using hu)]
      refine ⟨_, p2, Ev.now _, ?_, ?_, h2⟩
      all_goals
        have : u = 0 ∨ u = 1 ∨ u = 2 ∨ u = 3 ∨ u = 4 ∨ u = 5 ∨ u = 6 := by omega
        rcases this with rfl | rfl | rfl | rfl | rfl | rfl | rfl <;> simp [rd]
    · obtain ⟨u, p2, e2, u0, _, u1, h2⟩ := below_ok h1 400
      have hu := u1 (by omega)
      simp only [if_neg c1, e2, Option.bind_some]
      have hw := wrap64_in (u - 100)
      exact ⟨_, p2, Ev.now _, hw.1, hw.2, h2⟩
theorem evThen {α β : Type} {g : Nat → Option α} {h : Nat → Option β} {f : Nat → α → Option β} {a : α} {r : β} (e : Ev g a) (he : ∀ k, h k = (g k).bind (f k)) (k : Ev (fun n => f n a) r) : Ev h r := Ev.congr he (Ev.bind e k)
theorem evIs {α : Type} {g : Nat → Option α} {r : α} (h : ∀ k, g k = some r) : Ev g r := ⟨0, fun k _ => h k⟩
theorem drawWordBytes {l : List Int} (h : RdOk l 0) : ∃ v, Ev (fun k => spec_DrawWordBytes.f k l) v ∧ -9223372036854775808 ≤ v ∧ v ≤ 9223372036854775807 := by
  obtain ⟨v, p, e, h0, h1, _⟩ := odd_ok h
  exact ⟨v, evThen e (f := fun _ b => some b.1) (fun k => rfl) (Ev.now _), h0, h1⟩
def wbx (x : Int) : List Int := [x / 72057594037927936 % 256, x / 281474976710656 % 256, x / 1099511627776 % 256, x / 4294967296 % 256, x / 16777216 % 256, x / 65536 % 256, x / 256 % 256, x % 256]
def wb (a : Int) : ByteArray := strOfNums (wbx (a % 18446744073709551616))
theorem wb_size (a : Int) : (wb a).size = 8 := by rw [wb, strOfNums_size]; rfl
theorem strOfNums_toList (xs : List Int) : (strOfNums xs).toList = xs.map fun n => UInt8.ofNat n.toNat := by rw [ByteArray.toList_eq]; rfl
theorem bt_strOfNums (xs : List Int) (h : ∀ x ∈ xs, 0 ≤ x ∧ x ≤ 255) (i : Nat) (hi : i < xs.length) : bt (strOfNums xs) i = xs[i] := by
  have e := bt_at (strOfNums xs) i (by rw [strOfNums_size]; simpa using hi)
  rw [← e]
  have hx := h xs[i] (List.getElem_mem hi)
  simp only [strOfNums, ByteArray.getElem_eq_getElem_data]
  simp
  omega
theorem xorN (a b : Nat) (ha : a < 4294967296) (hb : b < 4294967296) : Go.bits .xor .u32 (a : Int) (b : Int) = ((a ^^^ b : Nat) : Int) := by
  have hx : a ^^^ b < 2 ^ 32 := Nat.xor_lt_two_pow (by omega) (by omega)
  show IntKind.u32.wrap (((BitVec.ofInt 32 (a : Int) ^^^ BitVec.ofInt 32 (b : Int)).toNat : Nat) : Int) = _
  rw [BitVec.toNat_xor, BitVec.ofInt_natCast, BitVec.ofInt_natCast, BitVec.toNat_ofNat, BitVec.toNat_ofNat, Nat.mod_eq_of_lt (by omega : a < 2 ^ 32), Nat.mod_eq_of_lt (by omega : b < 2 ^ 32), IntKind.wrap_u32]
  omega
theorem xor_lt (a b : Nat) (ha : a < 4294967296) (hb : b < 4294967296) : a ^^^ b < 4294967296 := Nat.xor_lt_two_pow (n := 32) (by omega) (by omega)
theorem and1 (c : Nat) (h : c < 4294967296) : Go.bits .and .u32 (c : Int) 1 = ((c % 2 : Nat) : Int) := by
  have e := bits_mask .u32 32 (by decide) (fun n h0 h1 => by rw [IntKind.wrap_u32]; omega) 1 (by decide) (c : Int) (by omega) (by omega)
  simpa using e
/-- one bit of the checksum -/
def crcBit (c : Nat) : Nat := if c % 2 = 1 then (c / 2) ^^^ 3988292384 else c / 2
def crcBits : Nat → Nat → Nat
  | 0, c => c
  | n + 1, c => crcBits n (crcBit c)
theorem crcBit_lt {c : Nat} (h : c < 4294967296) : crcBit c < 4294967296 := by
  unfold crcBit; split
  · exact xor_lt _ _ (by omega) (by omega)
  · omega
theorem crcBits_lt : ∀ (n : Nat) {c : Nat}, c < 4294967296 → crcBits n c < 4294967296
  | 0, _, h => h
  | n + 1, _, h => crcBits_lt n (crcBit_lt h)
/-- a byte, as a number -/
def btN (s : ByteArray) (i : Nat) : Nat := (bt s i).toNat
theorem btN_le (s : ByteArray) (i : Nat) : btN s i ≤ 255 := by have := bt_range s i; unfold btN; omega
theorem btN_cast (s : ByteArray) (i : Nat) : ((btN s i : Nat) : Int) = bt s i := by have := bt_range s i; unfold btN; omega
/-- the state behind the first n bytes -/
def crcAt (s : ByteArray) : Nat → Nat
  | 0 => 4294967295
  | n + 1 => crcBits 8 (crcAt s n ^^^ btN s n)
theorem crcAt_lt (s : ByteArray) : ∀ n, crcAt s n < 4294967296
  | 0 => by show 4294967295 < 4294967296; omega
  | n + 1 => crcBits_lt 8 (xor_lt _ _ (crcAt_lt s n) (by have := btN_le s n; omega))
def crcNum (s : ByteArray) : Nat := 4294967295 ^^^ crcAt s s.size
theorem crcNum_lt (s : ByteArray) : crcNum s < 4294967296 := xor_lt _ _ (by omega) (crcAt_lt s _)
def four (x : Int) : List Int := [x / 16777216 % 256, x / 65536 % 256, x / 256 % 256, x % 256]
def crcStr (s : ByteArray) : ByteArray := strOfNums (four (crcNum s))
theorem crcStr_size (s : ByteArray) : (crcStr s).size = 4 := by rw [crcStr, strOfNums_size]; rfl
theorem iBB4 (k : Nat) (x : Int) : impl_bigBytes.f (k + 5) x 4 = some (strOfNums (four x)) := by
  unfold impl_bigBytes.f
  simp (config := {maxSteps := 1000000}) [impl_bigBytes.l0, wrap64, List.replicate, four, Int.ediv_ediv]
theorem iBB8 (k : Nat) (x : Int) : impl_bigBytes.f (k + 9) x 8 = some (strOfNums (wbx x)) := by
  unfold impl_bigBytes.f
  simp (config := {maxSteps := 1000000}) [impl_bigBytes.l0, wrap64, List.replicate, wbx, Int.ediv_ediv]
theorem iWB (k : Nat) (a0 : Int) : impl_WordBytes.f (k + 9) a0 = some (wb a0) := by
  unfold impl_WordBytes.f
  rw [iBB8]; simp [u64, wb]
theorem iWB_ev (a0 : Int) : Ev (fun k => impl_WordBytes.f k a0) (wb a0) := ⟨9, fun k hk => by
  obtain ⟨m, rfl⟩ : ∃ m, k = m + 9 := ⟨k - 9, by omega⟩
  exact iWB m a0⟩
theorem sWB (k : Nat) (a0 : Int) : spec_WordBytes.f (k + 9) a0 = some (wb a0) := by
  unfold spec_WordBytes.f
  simp (config := {maxSteps := 1000000}) [spec_WordBytes.l0, wrap64, u64, List.replicate, shr, IntKind.bits, wb, wbx]
theorem sWB_ev (a0 : Int) : Ev (fun k => spec_WordBytes.f k a0) (wb a0) := ⟨9, fun k hk => by
  obtain ⟨m, rfl⟩ : ∃ m, k = m + 9 := ⟨k - 9, by omega⟩
  exact sWB m a0⟩
def dval : List Int → Int
  | [] => 0
  | x :: xs => x * 256 ^ xs.length + dval xs
theorem pow_pos' (n : Nat) : (0 : Int) < 256 ^ n := Int.pow_pos (by omega)
theorem dval_range : ∀ xs : List Int, (∀ x ∈ xs, 0 ≤ x ∧ x ≤ 255) → 0 ≤ dval xs ∧ dval xs < 256 ^ xs.length
  | [], _ => ⟨by simp [dval], by simp [dval]⟩
  | x :: xs, h => by
    have hx := h x (by simp)
    have ih := dval_range xs (fun y hy => h y (by simp [hy]))
    have hp := pow_pos' xs.length
    have h1 : 0 ≤ x * 256 ^ xs.length := Int.mul_nonneg hx.1 (by omega)
    have h2 : x * 256 ^ xs.length ≤ 255 * 256 ^ xs.length := Int.mul_le_mul_of_nonneg_right hx.2 (by omega)
    simp only [dval, List.length_cons, Int.pow_succ]
    omega
theorem u8_lt (x y : Int) (hx : 0 ≤ x ∧ x ≤ 255) (hy : 0 ≤ y ∧ y ≤ 255) : (UInt8.ofNat x.toNat < UInt8.ofNat y.toNat) ↔ x < y := by
  rw [UInt8.lt_iff_toNat_lt, UInt8.toNat_ofNat', UInt8.toNat_ofNat']; omega
theorem u8_eq (x y : Int) (hx : 0 ≤ x ∧ x ≤ 255) (hy : 0 ≤ y ∧ y ≤ 255) : (UInt8.ofNat x.toNat = UInt8.ofNat y.toNat) ↔ x = y := by
  rw [← UInt8.toNat_inj, UInt8.toNat_ofNat', UInt8.toNat_ofNat']; omega
theorem bytesLess_dval : ∀ xs ys : List Int, xs.length = ys.length → (∀ x ∈ xs, 0 ≤ x ∧ x ≤ 255) → (∀ y ∈ ys, 0 ≤ y ∧ y ≤ 255) → Op.bytesLess (xs.map fun n => UInt8.ofNat n.toNat) (ys.map fun n => UInt8.ofNat n.toNat) = decide (dval xs < dval ys)
  | [], [], _, _, _ => by simp [Op.bytesLess, dval]
  | [], _ :: _, h, _, _ => by simp at h
  | _ :: _, [], h, _, _ => by simp at h
  | x :: xs, y :: ys, h, hx, hy => by
    have hx0 := hx x (by simp)
    have hy0 := hy y (by simp)
    have hl : xs.length = ys.length := by simpa using h
    have ih := bytesLess_dval xs ys hl (fun z hz => hx z (by simp [hz])) (fun z hz => hy z (by simp [hz]))
    have rx := dval_range xs (fun z hz => hx z (by simp [hz]))
    have ry := dval_range ys (fun z hz => hy z (by simp [hz]))
    rw [← hl] at ry
    have hp := pow_pos' xs.length
    simp only [List.map_cons, Op.bytesLess, ih, dval, ← hl]
    rw [Bool.eq_iff_iff]
    simp only [Bool.or_eq_true, Bool.and_eq_true, decide_eq_true_eq, beq_iff_eq, u8_lt x y hx0 hy0, u8_eq x y hx0 hy0]
    rcases Int.lt_trichotomy x y with c | c | c
    · have h1 : (x + 1) * 256 ^ xs.length ≤ y * 256 ^ xs.length := Int.mul_le_mul_of_nonneg_right (by omega) (by omega)
      rw [Int.add_mul] at h1
      constructor
      · intro _; omega
      · intro _; exact .inl c
    · subst c
      constructor
      · rintro (h1 | h1)
        · omega
        · omega
      · intro h1; exact .inr ⟨rfl, by omega⟩
    · have h1 : (y + 1) * 256 ^ xs.length ≤ x * 256 ^ xs.length := Int.mul_le_mul_of_nonneg_right (by omega) (by omega)
      rw [Int.add_mul] at h1
      constructor
      · rintro (h2 | h2) <;> omega
      · intro h2; omega
theorem dval_wbx (a : Int) (h0 : 0 ≤ a) (h1 : a < 18446744073709551616) : dval (wbx a) = a := by
  simp [wbx, dval]; omega
theorem wbx_range' (x : Int) : ∀ y ∈ wbx x, 0 ≤ y ∧ y ≤ 255 := by
  intro y hy
  simp [wbx] at hy
  omega
theorem wb_less (a b : Int) (ha : 0 ≤ a ∧ a ≤ 9223372036854775807) (hb : 0 ≤ b ∧ b ≤ 9223372036854775807) : Op.bytesLess (wb a).toList (wb b).toList = decide (a < b) := by
  unfold wb
  rw [strOfNums_toList, strOfNums_toList, bytesLess_dval (wbx (a % 18446744073709551616)) (wbx (b % 18446744073709551616)) rfl (wbx_range' _) (wbx_range' _), dval_wbx _ (by omega) (by omega), dval_wbx _ (by omega) (by omega)]
  congr 1
  rw [Int.emod_eq_of_lt ha.1 (by omega), Int.emod_eq_of_lt hb.1 (by omega)]
theorem wo_j1 (k : Nat) (a b : Int) (c : Bool) (ha : -9223372036854775808 ≤ a ∧ a ≤ 9223372036854775807) (hb : -9223372036854775808 ≤ b ∧ b ≤ 9223372036854775807) (hc : c = false → 0 ≤ a ∧ 0 ≤ b) : laws_FnWordOrder.j1 (k + 10) a b c = some true := by
  cases c with
  | true => simp (implicitDefEqProofs := false) only [laws_FnWordOrder.j1, if_true, iWB, sWB, Option.bind_some, beq_self_eq_true]
  | false =>
    have h := hc rfl
    simp (implicitDefEqProofs := false) only [laws_FnWordOrder.j1, Bool.false_eq_true, if_false, iWB, Option.bind_some]
    rw [wb_less a b ⟨h.1, ha.2⟩ ⟨h.2, hb.2⟩, wb_size]; simp
theorem wo_core (k : Nat) (l m : List Int) (a b : Int) (E1 : spec_DrawWordBytes.f (k + 11) l = some a) (E2 : spec_DrawWordBytes.f (k + 11) m = some b) (ha : -9223372036854775808 ≤ a ∧ a ≤ 9223372036854775807) (hb : -9223372036854775808 ≤ b ∧ b ≤ 9223372036854775807) (c : Bool) : laws_FnWordOrder.j0 (k + 12) l m c = some true := by
  cases c with
  | true => simp only [laws_FnWordOrder.j0, if_true]
  | false =>
    simp (implicitDefEqProofs := false) only [laws_FnWordOrder.j0, Bool.false_eq_true, if_false, E1, E2, Option.bind_some]
    by_cases h : a < 0
    · rw [if_pos h]; exact wo_j1 (k + 1) a b true ha hb (fun e => by cases e)
    · rw [if_neg h]; exact wo_j1 (k + 1) a b _ ha hb (fun e => by simp at e; omega)
theorem FnWordOrder : laws_FnWordOrder.Pure := by
  intro l m _ h1 h2 _ h3 h4
  obtain ⟨a, ⟨K1, e1⟩, a0, a1⟩ := drawWordBytes (RdOk.start h1 h2)
  obtain ⟨b, ⟨K2, e2⟩, b0, b1⟩ := drawWordBytes (RdOk.start h3 h4)
  refine ⟨K1 + K2 + 12, ?_⟩
  have hj := fun c => wo_core (K1 + K2) l m a b (e1 _ (by omega)) (e2 _ (by omega)) ⟨a0, a1⟩ ⟨b0, b1⟩ c
  unfold laws_FnWordOrder.f laws_big.f
  simp (implicitDefEqProofs := false) only [Option.bind_some, hj]
  split <;> rfl
end Go.Proofs.Ytpkekjddhkngcaa.Pure
