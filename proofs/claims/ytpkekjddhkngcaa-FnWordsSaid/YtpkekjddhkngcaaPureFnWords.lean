/- Proved: for every list of drawn bytes the program's words and short words come back from their bytes, and any eight or two bytes from their number, with no condition on the input. -/
import Derived.Test.YtpkekjddhkngcaaPFnWordsx3
namespace Go.Proofs.Ytpkekjddhkngcaa.Pure
open Go.RowKit Go.Proofs.Ytpkekjddhkngcaa.PFnWords Go.Proofs.YtpkekjddhkngcaaW.PrintWords Go.Proofs.YtpkekjddhkngcaaW.PrintLast
theorem w64 {n : Int} (h0 : -9223372036854775808 ≤ n) (h1 : n ≤ 9223372036854775807) : wrap64 n = n := by unfold wrap64; omega
theorem u64 (n : Int) : IntKind.u64.wrap n = n % 18446744073709551616 := by simp [IntKind.wrap, IntKind.bits, IntKind.signed]
theorem wf64 {n : Int} (h : (Lit.int .i64 n).wf = true) : -9223372036854775808 ≤ n ∧ n ≤ 9223372036854775807 := by
  simp [Lit.wf, IntKind.min, IntKind.max, IntKind.bits, IntKind.signed] at h
  omega
/-- a reader of drawn bytes that is in order -/
def RdOk (l : List Int) (p : Int) : Prop := 0 ≤ p ∧ p ≤ (l.length : Int) ∧ (l.length : Int) ≤ 140737488351232 ∧ ∀ x ∈ l, 0 ≤ x ∧ x ≤ 255
theorem RdOk.start {l : List Int} (h1 : l.length * 1 ≤ 140737488351232) (h2 : ∀ x ∈ l, (Lit.int .u8 x).wf = true) : RdOk l 0 :=
  ⟨by omega, by omega, by omega, fun x hx => by
    have := h2 x hx
    simp [Lit.wf, IntKind.min, IntKind.max, IntKind.bits, IntKind.signed] at this
    omega⟩
theorem rd_mem {l : List Int} {i : Int} (h0 : 0 ≤ i) (h1 : i < (l.length : Int)) : rd l i ∈ l := by
  unfold rd
  rw [List.getD_eq_getElem?_getD, List.getElem?_eq_getElem (by omega : i.toNat < l.length)]
  exact List.getElem_mem _
theorem bits_u64 (op : BinOp) (x y : Int) : 0 ≤ Go.bits op .u64 x y ∧ Go.bits op .u64 x y < 18446744073709551616 := by
  unfold Go.bits; rw [u64]; omega
theorem wrap64_in (x : Int) : -9223372036854775808 ≤ wrap64 x ∧ wrap64 x ≤ 9223372036854775807 := by unfold wrap64; omega
theorem one4 (a b c d : UInt8) (i : Int) (h0 : 0 ≤ i) (h1 : i < 4) : (rdOf ByteArray.empty ([(⟨#[a]⟩ : ByteArray), (⟨#[b]⟩ : ByteArray), (⟨#[c]⟩ : ByteArray), (⟨#[d]⟩ : ByteArray)] : List ByteArray) i).size = 1 := by
  have : i = 0 ∨ i = 1 ∨ i = 2 ∨ i = 3 := by omega
  rcases this with rfl | rfl | rfl | rfl <;> rfl
theorem next_ok {l : List Int} {p : Int} (h : RdOk l p) : ∃ v p', spec_l1Rd_next.f l p = some (v, p') ∧ 0 ≤ v ∧ v ≤ 255 ∧ RdOk l p' := by
  obtain ⟨h0, h1, h2, h3⟩ := h
  unfold spec_l1Rd_next.f
  by_cases c : p ≥ (l.length : Int)
  · exact ⟨0, p, by rw [if_pos c], by omega, by omega, h0, h1, h2, h3⟩
  · have hm := h3 _ (rd_mem h0 (by omega : p < (l.length : Int)))
    refine ⟨rd l p, p + 1, ?_, hm.1, hm.2, by omega, by omega, h2, h3⟩
    rw [if_neg c, w64 (n := p + 1) (by omega) (by omega), w64 (n := p + 1 - 1) (by omega) (by omega), if_pos (by omega), if_pos (by omega), show p + 1 - 1 = p by omega, w64 (by omega) (by omega)]
theorem below_ok {l : List Int} {p : Int} (h : RdOk l p) (n : Int) : ∃ v p', spec_l1Rd_below.f l p n = some (v, p') ∧ 0 ≤ v ∧ (n ≤ 1 → v = 0) ∧ (1 < n → v < n) ∧ RdOk l p' := by
  unfold spec_l1Rd_below.f
  by_cases c : n ≤ 1
  · exact ⟨0, p, by rw [if_pos c], by omega, fun _ => rfl, fun _ => by omega, h⟩
  · rw [if_neg c]
    by_cases c2 : n ≤ 256
    · obtain ⟨v, p1, e, v0, v1, h'⟩ := next_ok h
      refine ⟨Int.tmod v n, p1, by rw [if_pos c2, e]; simp only [Option.bind_some]; rw [if_neg (by omega)], ?_, by omega, fun _ => ?_, h'⟩
      · rw [Int.tmod_eq_emod_of_nonneg v0]; exact Int.emod_nonneg _ (by omega)
      · rw [Int.tmod_eq_emod_of_nonneg v0]; exact Int.emod_lt_of_pos _ (by omega)
    · obtain ⟨v, p1, e, v0, v1, h'⟩ := next_ok h
      obtain ⟨u, p2, e2, u0, u1, h2⟩ := next_ok h'
      have e3 : wrap64 (wrap64 (v * 256) + u) = v * 256 + u := by rw [w64 (n := v * 256) (by omega) (by omega), w64 (by omega) (by omega)]
      refine ⟨Int.tmod (v * 256 + u) n, p2, by rw [if_neg c2, e]; simp only [Option.bind_some]; rw [e2]; simp only [Option.bind_some]; rw [if_neg (by omega), e3], ?_, by omega, fun _ => ?_, h2⟩
      · rw [Int.tmod_eq_emod_of_nonneg (by omega)]; exact Int.emod_nonneg _ (by omega)
      · rw [Int.tmod_eq_emod_of_nonneg (by omega)]; exact Int.emod_lt_of_pos _ (by omega)
theorem word_in {l : List Int} : ∀ (d j : Nat) (x p : Int), j + d = 8 → 0 ≤ x → x < 18446744073709551616 → RdOk l p → ∃ v p', Ev (fun k => spec_l1Rd_word.l0 k x j l p) (v, p') ∧ 0 ≤ v ∧ v < 18446744073709551616 ∧ RdOk l p' := by
  intro d
  induction d with
  | zero =>
    intro j x p hj h0 h1 h
    exact ⟨x, p, Ev.step (f := fun _ => some (x, p)) (fun k => by simp only [spec_l1Rd_word.l0]; rw [if_neg (by omega)]) (Ev.now _), h0, h1, h⟩
  | succ d ih =>
    intro j x p hj h0 h1 h
    obtain ⟨u, p1, e, u0, u1, h'⟩ := next_ok h
    have hb := bits_u64 .or (IntKind.u64.wrap (x * 256)) (IntKind.u64.wrap u)
    obtain ⟨v, p2, e2, v0, v1, h2⟩ := ih (j + 1) _ p1 (by omega) hb.1 hb.2 h'
    refine ⟨v, p2, Ev.step (fun k => ?_) e2, v0, v1, h2⟩
    simp only [spec_l1Rd_word.l0]; rw [if_pos (by omega), e]; simp only [Option.bind_some]; rw [w64 (n := (j : Int) + 1) (by omega) (by omega)]; rfl
theorem word_ok {l : List Int} {p : Int} (h : RdOk l p) : ∃ v p', Ev (fun k => spec_l1Rd_word.f k l p) (v, p') ∧ 0 ≤ v ∧ v < 18446744073709551616 ∧ RdOk l p' := by
  obtain ⟨v, p', e, h⟩ := word_in 8 0 0 p (by omega) (by omega) (by omega) h
  exact ⟨v, p', Ev.congr (fun k => rfl) e, h⟩
theorem odd_ok {l : List Int} {p : Int} (h : RdOk l p) : ∃ v p', Ev (fun k => spec_l1Rd_odd.f k l p) (v, p') ∧ -9223372036854775808 ≤ v ∧ v ≤ 9223372036854775807 ∧ RdOk l p' := by
  unfold spec_l1Rd_odd.f
  obtain ⟨v, p1, e, v0, _, v1, h1⟩ := below_ok h 5
  rw [e]; simp only [Option.bind_some]
  by_cases c0 : v = 0
  · obtain ⟨u, p2, e2, u0, u1, h2⟩ := word_ok h1
    have hw := wrap64_in u
    refine ⟨wrap64 u, p2, ?_, hw.1, hw.2, h2⟩
    simp only [if_pos c0]
    exact Ev.bind (f := fun _ (b : Int × Int) => some (wrap64 b.1, b.2)) e2 (Ev.now _)
  · simp only [if_neg c0]
    by_cases c1 : v = 1
    · obtain ⟨u, p2, e2, u0, _, u1, h2⟩ := below_ok h1 7
      have hu := u1 (by omega)
      simp only [if_pos c1, e2, Option.bind_some]
      rw [if_pos u0, if_pos (by simpa using hu)]
      refine ⟨_, p2, Ev.now _, ?_, ?_, h2⟩
      all_goals
        have : u = 0 ∨ u = 1 ∨ u = 2 ∨ u = 3 ∨ u = 4 ∨ u = 5 ∨ u = 6 := by omega
        rcases this with rfl | rfl | rfl | rfl | rfl | rfl | rfl <;> simp [rd]
    · obtain ⟨u, p2, e2, u0, _, u1, h2⟩ := below_ok h1 400
      have hu := u1 (by omega)
      simp only [if_neg c1, e2, Option.bind_some]
      have hw := wrap64_in (u - 100)
      exact ⟨_, p2, Ev.now _, hw.1, hw.2, h2⟩
theorem evThen {α β : Type} {g : Nat → Option α} {h : Nat → Option β} {f : Nat → α → Option β} {a : α} {r : β} (e : Ev g a) (he : ∀ k, h k = (g k).bind (f k)) (k : Ev (fun n => f n a) r) : Ev h r := Ev.congr he (Ev.bind e k)
theorem evIs {α : Type} {g : Nat → Option α} {r : α} (h : ∀ k, g k = some r) : Ev g r := ⟨0, fun k _ => h k⟩
theorem drawWordBytes {l : List Int} (h : RdOk l 0) : ∃ v, Ev (fun k => spec_DrawWordBytes.f k l) v ∧ -9223372036854775808 ≤ v ∧ v ≤ 9223372036854775807 := by
  obtain ⟨v, p, e, h0, h1, _⟩ := odd_ok h
  exact ⟨v, evThen e (f := fun _ b => some b.1) (fun k => rfl) (Ev.now _), h0, h1⟩
def wbx (x : Int) : List Int := [x / 72057594037927936 % 256, x / 281474976710656 % 256, x / 1099511627776 % 256, x / 4294967296 % 256, x / 16777216 % 256, x / 65536 % 256, x / 256 % 256, x % 256]
def wb (a : Int) : ByteArray := strOfNums (wbx (a % 18446744073709551616))
theorem wb_size (a : Int) : (wb a).size = 8 := by rw [wb, strOfNums_size]; rfl
theorem strOfNums_toList (xs : List Int) : (strOfNums xs).toList = xs.map fun n => UInt8.ofNat n.toNat := by rw [ByteArray.toList_eq]; rfl
theorem bt_strOfNums (xs : List Int) (h : ∀ x ∈ xs, 0 ≤ x ∧ x ≤ 255) (i : Nat) (hi : i < xs.length) : bt (strOfNums xs) i = xs[i] := by
  have e := bt_at (strOfNums xs) i (by rw [strOfNums_size]; simpa using hi)
  rw [← e]
  have hx := h xs[i] (List.getElem_mem hi)
  simp only [strOfNums, ByteArray.getElem_eq_getElem_data]
  simp
  omega
theorem xorN (a b : Nat) (ha : a < 4294967296) (hb : b < 4294967296) : Go.bits .xor .u32 (a : Int) (b : Int) = ((a ^^^ b : Nat) : Int) := by
  have hx : a ^^^ b < 2 ^ 32 := Nat.xor_lt_two_pow (by omega) (by omega)
  show IntKind.u32.wrap (((BitVec.ofInt 32 (a : Int) ^^^ BitVec.ofInt 32 (b : Int)).toNat : Nat) : Int) = _
  rw [BitVec.toNat_xor, BitVec.ofInt_natCast, BitVec.ofInt_natCast, BitVec.toNat_ofNat, BitVec.toNat_ofNat, Nat.mod_eq_of_lt (by omega : a < 2 ^ 32), Nat.mod_eq_of_lt (by omega : b < 2 ^ 32), IntKind.wrap_u32]
  omega
theorem xor_lt (a b : Nat) (ha : a < 4294967296) (hb : b < 4294967296) : a ^^^ b < 4294967296 := Nat.xor_lt_two_pow (n := 32) (by omega) (by omega)
theorem and1 (c : Nat) (h : c < 4294967296) : Go.bits .and .u32 (c : Int) 1 = ((c % 2 : Nat) : Int) := by
  have e := bits_mask .u32 32 (by decide) (fun n h0 h1 => by rw [IntKind.wrap_u32]; omega) 1 (by decide) (c : Int) (by omega) (by omega)
  simpa using e
/-- one bit of the checksum -/
def crcBit (c : Nat) : Nat := if c % 2 = 1 then (c / 2) ^^^ 3988292384 else c / 2
def crcBits : Nat → Nat → Nat
  | 0, c => c
  | n + 1, c => crcBits n (crcBit c)
theorem crcBit_lt {c : Nat} (h : c < 4294967296) : crcBit c < 4294967296 := by
  unfold crcBit; split
  · exact xor_lt _ _ (by omega) (by omega)
  · omega
theorem crcBits_lt : ∀ (n : Nat) {c : Nat}, c < 4294967296 → crcBits n c < 4294967296
  | 0, _, h => h
  | n + 1, _, h => crcBits_lt n (crcBit_lt h)
/-- a byte, as a number -/
def btN (s : ByteArray) (i : Nat) : Nat := (bt s i).toNat
theorem btN_le (s : ByteArray) (i : Nat) : btN s i ≤ 255 := by have := bt_range s i; unfold btN; omega
theorem btN_cast (s : ByteArray) (i : Nat) : ((btN s i : Nat) : Int) = bt s i := by have := bt_range s i; unfold btN; omega
/-- the state behind the first n bytes -/
def crcAt (s : ByteArray) : Nat → Nat
  | 0 => 4294967295
  | n + 1 => crcBits 8 (crcAt s n ^^^ btN s n)
theorem crcAt_lt (s : ByteArray) : ∀ n, crcAt s n < 4294967296
  | 0 => by show 4294967295 < 4294967296; omega
  | n + 1 => crcBits_lt 8 (xor_lt _ _ (crcAt_lt s n) (by have := btN_le s n; omega))
def crcNum (s : ByteArray) : Nat := 4294967295 ^^^ crcAt s s.size
theorem crcNum_lt (s : ByteArray) : crcNum s < 4294967296 := xor_lt _ _ (by omega) (crcAt_lt s _)
def four (x : Int) : List Int := [x / 16777216 % 256, x / 65536 % 256, x / 256 % 256, x % 256]
def crcStr (s : ByteArray) : ByteArray := strOfNums (four (crcNum s))
theorem crcStr_size (s : ByteArray) : (crcStr s).size = 4 := by rw [crcStr, strOfNums_size]; rfl
theorem iBB4 (k : Nat) (x : Int) : impl_bigBytes.f (k + 5) x 4 = some (strOfNums (four x)) := by
  unfold impl_bigBytes.f
  simp (config := {maxSteps := 1000000}) [impl_bigBytes.l0, wrap64, List.replicate, four, Int.ediv_ediv]
theorem iBB8 (k : Nat) (x : Int) : impl_bigBytes.f (k + 9) x 8 = some (strOfNums (wbx x)) := by
  unfold impl_bigBytes.f
  simp (config := {maxSteps := 1000000}) [impl_bigBytes.l0, wrap64, List.replicate, wbx, Int.ediv_ediv]
theorem iWB (k : Nat) (a0 : Int) : impl_WordBytes.f (k + 9) a0 = some (wb a0) := by
  unfold impl_WordBytes.f
  rw [iBB8]; simp [u64, wb]
theorem iWB_ev (a0 : Int) : Ev (fun k => impl_WordBytes.f k a0) (wb a0) := ⟨9, fun k hk => by
  obtain ⟨m, rfl⟩ : ∃ m, k = m + 9 := ⟨k - 9, by omega⟩
  exact iWB m a0⟩
theorem sWB (k : Nat) (a0 : Int) : spec_WordBytes.f (k + 9) a0 = some (wb a0) := by
  unfold spec_WordBytes.f
  simp (config := {maxSteps := 1000000}) [spec_WordBytes.l0, wrap64, u64, List.replicate, shr, IntKind.bits, wb, wbx]
theorem sWB_ev (a0 : Int) : Ev (fun k => spec_WordBytes.f k a0) (wb a0) := ⟨9, fun k hk => by
  obtain ⟨m, rfl⟩ : ∃ m, k = m + 9 := ⟨k - 9, by omega⟩
  exact sWB m a0⟩
theorem once_ok {l : List Int} {p : Int} (h : RdOk l p) (n : Int) : ∃ b p', spec_l1Rd_once.f l p n = some (b, p') ∧ RdOk l p' := by
  obtain ⟨v, p1, e, _, _, _, h'⟩ := below_ok h n
  exact ⟨_, p1, by unfold spec_l1Rd_once.f; rw [e]; rfl, h'⟩
theorem hurt_ok {l : List Int} {p : Int} (h : RdOk l p) (s : ByteArray) (hs : s.size ≤ 4611686018427387904) : ∃ t p', spec_l1Rd_hurt.f l p s = some (t, p') ∧ t.size ≤ s.size + 1 ∧ RdOk l p' := by
  unfold spec_l1Rd_hurt.f
  obtain ⟨v, p1, e, v0, _, v1, h1⟩ := below_ok h 6
  rw [e]; simp only [Option.bind_some]
  by_cases c1 : v = 1
  · rw [if_pos c1, w64 (n := (s.size : Int) + 1) (by omega) (by omega)]
    obtain ⟨u, p2, e2, u0, ua, ub, h2⟩ := below_ok h1 ((s.size : Int) + 1)
    have hu : u ≤ s.size := by
      by_cases c : 1 < (s.size : Int) + 1
      · have := ub c; omega
      · have := ua (by omega); omega
    rw [e2]; simp only [Option.bind_some]
    rw [if_pos u0, if_pos hu]
    exact ⟨_, p2, rfl, by rw [ByteArray.size_extract]; omega, h2⟩
  · rw [if_neg c1]
    by_cases c2 : v = 2
    · rw [if_pos c2]
      by_cases c3 : (s.size : Int) > 0
      · rw [if_pos c3]
        obtain ⟨u, p2, e2, u0, ua, ub, h2⟩ := below_ok h1 (s.size : Int)
        have hu : u < s.size := by
          by_cases c : 1 < (s.size : Int)
          · exact ub c
          · have := ua (by omega); omega
        rw [e2]; simp only [Option.bind_some]
        rw [if_pos u0, if_pos (by omega)]
        obtain ⟨q, p3, e3, q0, qa, qb, h3⟩ := below_ok h2 4
        have hq := qb (by omega)
        have hz := one4 0 55 255 32 q q0 hq
        rw [e3]; simp only [Option.bind_some]
        rw [if_pos q0, if_pos (by simpa using hq), if_pos (by rw [hz, ByteArray.size_extract]; omega), w64 (n := u + 1) (by omega) (by omega), if_pos (by omega), if_pos (by omega), if_pos (by rw [ByteArray.size_append, hz, ByteArray.size_extract, ByteArray.size_extract]; omega)]
        exact ⟨_, p3, rfl, by rw [ByteArray.size_append, ByteArray.size_append, hz, ByteArray.size_extract, ByteArray.size_extract]; omega, h3⟩
      · rw [if_neg c3]; exact ⟨_, p1, rfl, by omega, h1⟩
    · rw [if_neg c2]
      by_cases c3 : v = 3
      · rw [if_pos c3]
        obtain ⟨q, p3, e3, q0, qa, qb, h3⟩ := below_ok h1 4
        have hq := qb (by omega)
        have hz := one4 0 49 10 32 q q0 hq
        rw [e3]; simp only [Option.bind_some]
        rw [if_pos q0, if_pos (by simpa using hq), if_pos (by rw [hz]; omega)]
        exact ⟨_, p3, rfl, by rw [ByteArray.size_append, hz]; omega, h3⟩
      · rw [if_neg c3]; exact ⟨_, p1, rfl, by omega, h1⟩
theorem drawReadWord {l : List Int} (h : RdOk l 0) : ∃ s : ByteArray, Ev (fun k => spec_DrawReadWord.f k l) s ∧ s.size ≤ 9 := by
  obtain ⟨v, p, e, h0, h1, h2⟩ := odd_ok h
  obtain ⟨b, p1, e1, h3⟩ := once_ok h2 4
  obtain ⟨t, p2, e2, ht, _⟩ := hurt_ok h3 (wb v) (by rw [wb_size]; omega)
  have hz := wb_size v
  refine ⟨if b = true then t else wb v, evThen e (f := fun k bt => (spec_WordBytes.f k bt.1).bind fun t162 => ((spec_l1Rd_once.f l bt.2 4).bind fun bt163 => (if bt163.1 = true then ((spec_l1Rd_hurt.f l bt163.2 t162).bind fun bt165 => (some bt165.1)) else (some t162)))) (fun k => rfl) ?_, ?_⟩
  · refine evThen (sWB_ev v) (fun k => rfl) ?_
    refine evIs fun k => ?_
    simp only [e1, Option.bind_some]
    cases b <;> simp [e2]
  · cases b <;> simp <;> omega
theorem near_ok {l : List Int} {p : Int} (h : RdOk l p) (lo hi : Int) (hl : -9223372036854775808 ≤ lo ∧ lo ≤ 9223372036854775807) (hh : -9223372036854775808 ≤ hi ∧ hi ≤ 9223372036854775807) (hd : hi - lo < 18446744073709551615) : ∃ v p', Ev (fun k => spec_l1Rd_near.f k l p lo hi) (v, p') ∧ -9223372036854775808 ≤ v ∧ v ≤ 9223372036854775807 ∧ RdOk l p' := by
  unfold spec_l1Rd_near.f
  obtain ⟨v, p1, e, v0, _, v1, h1⟩ := below_ok h 8
  rw [e]; simp only [Option.bind_some]
  by_cases c0 : v = 0
  · simp only [if_pos c0]; exact ⟨_, p1, Ev.now _, hl.1, hl.2, h1⟩
  · simp only [if_neg c0]
    by_cases c1 : v = 1
    · simp only [if_pos c1]; exact ⟨_, p1, Ev.now _, hh.1, hh.2, h1⟩
    · simp only [if_neg c1]
      by_cases c2 : hi < lo
      · simp only [if_pos c2]; exact ⟨_, p1, Ev.now _, hl.1, hl.2, h1⟩
      · simp only [if_neg c2]
        obtain ⟨u, p2, e2, u0, u1, h2⟩ := word_ok h1
        have hz : ¬ (IntKind.u64.wrap (wrap64 (wrap64 (hi - lo) + 1)) = 0) := by rw [u64]; unfold wrap64; omega
        have hw := wrap64_in (lo + wrap64 (Int.tmod (u / 2) (IntKind.u64.wrap (wrap64 (wrap64 (hi - lo) + 1)))))
        refine ⟨_, p2, ?_, hw.1, hw.2, h2⟩
        simp only [if_neg hz]
        exact Ev.bind (f := fun _ (b : Int × Int) => some (wrap64 (lo + wrap64 (Int.tmod (b.1 / 2) (IntKind.u64.wrap (wrap64 (wrap64 (hi - lo) + 1))))), b.2)) e2 (Ev.now _)
theorem off_ok {l : List Int} {p : Int} (h : RdOk l p) (lo hi : Int) (hl : -9223372036854775808 ≤ lo ∧ lo ≤ 9223372036854775807) (hh : -9223372036854775808 ≤ hi ∧ hi ≤ 9223372036854775807) (hd : hi - lo < 18446744073709551615) : ∃ v p', Ev (fun k => spec_l1Rd_off.f k l p lo hi) (v, p') ∧ -9223372036854775808 ≤ v ∧ v ≤ 9223372036854775807 ∧ RdOk l p' := by
  unfold spec_l1Rd_off.f
  obtain ⟨b, p1, e, h1⟩ := once_ok h 24
  rw [e]; simp only [Option.bind_some]
  cases b with
  | true =>
    simp only [if_true]
    obtain ⟨u, p2, e2, u0, _, u1, h2⟩ := below_ok h1 4
    have hu := u1 (by omega)
    simp only [e2, Option.bind_some]
    rw [if_pos u0, if_pos (by simpa using hu)]
    have hw := wrap64_in (lo - 1)
    have hw2 := wrap64_in (hi + 1)
    refine ⟨_, p2, Ev.now _, ?_, ?_, h2⟩
    all_goals
      have : u = 0 ∨ u = 1 ∨ u = 2 ∨ u = 3 := by omega
      rcases this with rfl | rfl | rfl | rfl <;> simp [rd] <;> omega
  | false =>
    simp only [Bool.false_eq_true, if_false]
    obtain ⟨u, p2, e2, u0, u1, h2⟩ := near_ok h1 lo hi hl hh hd
    exact ⟨u, p2, Ev.bind (f := fun _ (b : Int × Int) => some (b.1, b.2)) e2 (Ev.now _), u0, u1, h2⟩
theorem drawShortBytes {l : List Int} (h : RdOk l 0) : ∃ v, Ev (fun k => spec_DrawShortBytes.f k l) v ∧ -9223372036854775808 ≤ v ∧ v ≤ 9223372036854775807 := by
  obtain ⟨v, p, e, h0, h1, _⟩ := off_ok h 0 65535 (by omega) (by omega) (by omega)
  exact ⟨v, evThen e (f := fun _ b => some b.1) (fun k => rfl) (Ev.now _), h0, h1⟩
theorem sIn (a b c : Int) : spec_l1In.f a b c = some (decide (b ≤ a ∧ a ≤ c)) := by
  unfold spec_l1In.f
  by_cases h : a ≥ b
  · rw [if_pos h]; congr 1; rw [decide_eq_decide]; omega
  · rw [if_neg h]; congr 1; symm; rw [decide_eq_false_iff_not]; omega
/-- two bytes -/
def sb (n : Int) : ByteArray := if 0 ≤ n ∧ n ≤ 65535 then strOfNums [n / 256 % 256, n % 256] else (⟨#[]⟩ : ByteArray)
theorem cut6 (a b c d e f g h : Int) : (strOfNums [a, b, c, d, e, f, g, h]).extract 6 (strOfNums [a, b, c, d, e, f, g, h]).size = strOfNums [g, h] := by
  apply ByteArray.ext
  simp [strOfNums, ByteArray.size]
theorem or8 (a b : Int) (ha : 0 ≤ a) (ha1 : a ≤ 255) (hb : 0 ≤ b) (hb1 : b ≤ 255) : Go.bits .or .i64 (a * 256) b = a * 256 + b :=
  bits_join .i64 63 (by decide) (fun n h0 h1 => by rw [IntKind.wrap_i64]; omega) 8 _ _ (by omega) (by omega) (by omega) hb (by omega) (by omega)
theorem sSB (k : Nat) (n : Int) : spec_ShortBytes.f (k + 9) n = some (sb n) := by
  unfold spec_ShortBytes.f
  rw [sIn, sWB]; simp only [Option.bind_some, sb]
  by_cases h : 0 ≤ n ∧ n ≤ 65535
  · rw [if_pos (by simpa using h), if_pos h, if_pos (by rw [wb_size]; omega)]
    have e : n % 18446744073709551616 = n := by omega
    unfold wb; rw [e]; unfold wbx; rw [cut6]
  · rw [if_neg (by simpa using h), if_neg h]
theorem sSB_ev (n : Int) : Ev (fun k => spec_ShortBytes.f k n) (sb n) := ⟨9, fun k hk => by
  obtain ⟨m, rfl⟩ : ∃ m, k = m + 9 := ⟨k - 9, by omega⟩
  exact sSB m n⟩
theorem sb_size (n : Int) : (sb n).size ≤ 2 := by
  unfold sb; split
  · rw [strOfNums_size]; simp
  · simp [ByteArray.size]
theorem drawReadShort {l : List Int} (h : RdOk l 0) : ∃ s : ByteArray, Ev (fun k => spec_DrawReadShort.f k l) s ∧ s.size ≤ 3 := by
  obtain ⟨v, p, e, h0, _, h1, h2⟩ := below_ok h 65536
  obtain ⟨b, p1, e1, h3⟩ := once_ok h2 4
  have hz := sb_size v
  obtain ⟨t, p2, e2, ht, _⟩ := hurt_ok h3 (sb v) (by omega)
  refine ⟨if b = true then t else sb v, evThen (sSB_ev v) (f := fun k t193 => (spec_l1Rd_once.f l p 4).bind fun bt194 => (if bt194.1 = true then ((spec_l1Rd_hurt.f l bt194.2 t193).bind fun bt196 => (some bt196.1)) else (some t193))) (fun k => ?_) ?_, ?_⟩
  · unfold spec_DrawReadShort.f spec_l1Open.f; simp only [Option.bind_some, e]
  · refine evIs fun k => ?_
    simp only [e1, Option.bind_some]
    cases b <;> simp [e2]
  · cases b <;> simp <;> omega
theorem orNat (X b : Nat) (hb : b < 256) : (X * 256) ||| b = X * 256 + b := by
  have h := Nat.two_pow_add_eq_or_of_lt (i := 8) (b := b) (by omega) X
  rw [show 2 ^ 8 * X = X * 256 by omega] at h
  exact h.symm
theorem ofInt_toNat64 (z : Int) : (BitVec.ofInt 64 z).toNat = (z % 18446744073709551616).toNat := by
  rw [BitVec.toNat_ofInt]; rfl
theorem bitsOr (k : IntKind) (hk : k.bits = 64) (z w b : Int) (hz : z % 18446744073709551616 = (w * 256) % 18446744073709551616) (hb : 0 ≤ b) (hb1 : b ≤ 255) :
    Go.bits .or k z b = k.wrap ((w * 256) % 18446744073709551616 + b) := by
  unfold Go.bits
  rw [hk]
  simp only [BitVec.toNat_or, ofInt_toNat64, hz]
  have e : ((w * 256) % 18446744073709551616).toNat = (w % 72057594037927936).toNat * 256 := by omega
  have e2 : (b % 18446744073709551616).toNat = b.toNat := by omega
  rw [e, e2, orNat _ _ (by omega)]
  congr 1; omega
theorem orW (x b : Int) (hb : 0 ≤ b) (hb1 : b ≤ 255) : Go.bits .or .i64 (wrap64 (x * 256)) b = wrap64 (x * 256 + b) := by
  rw [bitsOr .i64 rfl _ x b (by unfold wrap64; omega) hb hb1, IntKind.wrap_i64]; unfold wrap64; omega
theorem orU (x b : Int) (hb : 0 ≤ b) (hb1 : b ≤ 255) : Go.bits .or .u64 ((x * 256) % 18446744073709551616) b = (x * 256 + b) % 18446744073709551616 := by
  rw [bitsOr .u64 rfl _ x b (by omega) hb hb1, u64]; omega
/-- the number that n bytes tell, the highest one first -/
def hn (s : ByteArray) (i : Int) : Nat → Int
  | 0 => 0
  | n + 1 => hn s i n * 256 + bt s (i + n)
def wordP (s : ByteArray) (i : Int) : Int := wrap64 (hn s i 8)
theorem iWl (s : ByteArray) (at_ : Int) (h0 : 0 ≤ at_) (hs : at_ + 8 ≤ (s.size : Int)) (hm : (s.size : Int) ≤ 9223372036854775807) (d : Nat) : ∀ (k j : Nat), j + d = 8 → d < k → impl_wordAt.l0 k s at_ (wrap64 (hn s at_ j)) j = some (wordP s at_) := by
  induction d with
  | zero =>
    intro k j hj hk
    obtain ⟨k, rfl⟩ : ∃ m, k = m + 1 := ⟨k - 1, by omega⟩
    obtain rfl : j = 8 := by omega
    simp only [impl_wordAt.l0]; rw [if_neg (by omega)]; rfl
  | succ d ih =>
    intro k j hj hk
    obtain ⟨k, rfl⟩ : ∃ m, k = m + 1 := ⟨k - 1, by omega⟩
    have hb := bt_range s (at_ + j)
    simp only [impl_wordAt.l0]; rw [w64 (n := at_ + (j : Int)) (by omega) (by omega), if_pos (by omega), if_pos (by omega), if_pos (by omega), w64 (n := (j : Int) + 1) (by omega) (by omega), w64 (n := bt s (at_ + j)) (by omega) (by omega)]
    have e : Go.bits .or .i64 (wrap64 (wrap64 (hn s at_ j) * 256)) (bt s (at_ + j)) = wrap64 (hn s at_ (j + 1)) := by
      rw [orW _ _ hb.1 hb.2]
      simp only [hn]; unfold wrap64; omega
    rw [e]; exact ih k (j + 1) (by omega) (by omega)
theorem iWA (k : Nat) (s : ByteArray) (at_ : Int) (h0 : 0 ≤ at_) (hs : at_ + 8 ≤ (s.size : Int)) (hm : (s.size : Int) ≤ 9223372036854775807) : impl_wordAt.f (k + 9) s at_ = some (wordP s at_) := by
  have e := iWl s at_ h0 hs hm 8 (k + 9) 0 (by omega) (by omega)
  simp only [hn, show ((0 : Nat) : Int) = 0 from rfl, w64 (n := 0) (by omega) (by omega)] at e
  exact e
theorem iWA_ev (s : ByteArray) (at_ : Int) (h0 : 0 ≤ at_) (hs : at_ + 8 ≤ (s.size : Int)) (hm : (s.size : Int) ≤ 9223372036854775807) : Ev (fun k => impl_wordAt.f k s at_) (wordP s at_) := ⟨9, fun k hk => by
  obtain ⟨m, rfl⟩ : ∃ m, k = m + 9 := ⟨k - 9, by omega⟩
  exact iWA m s at_ h0 hs hm⟩
def rw8 (s : ByteArray) : Int × Bool := if s.size = 8 then (wordP s 0, true) else (0, false)
theorem iRW (k : Nat) (s : ByteArray) : impl_ReadWord.f (k + 9) s = some (rw8 s) := by
  unfold impl_ReadWord.f rw8
  by_cases h : s.size = 8
  · rw [if_pos (by omega), if_pos h, iWA k s 0 (by omega) (by omega) (by omega)]; rfl
  · rw [if_neg (by omega), if_neg h]
def rs (s : ByteArray) : Int × Bool := if s.size = 2 then (bt s 0 * 256 + bt s 1, true) else (0, false)
theorem iRS (s : ByteArray) : impl_ReadShort.f s = some (rs s) := by
  unfold impl_ReadShort.f rs
  have h0 := bt_range s 0
  have h1 := bt_range s 1
  by_cases h : s.size = 2
  · rw [if_pos (by omega), if_pos (by omega), if_pos (by omega), if_pos h, w64 (n := bt s 0) (by omega) (by omega), w64 (n := bt s 1) (by omega) (by omega), w64 (by omega) (by omega), or8 _ _ h0.1 h0.2 h1.1 h1.2]
  · rw [if_neg (by omega), if_neg h]
theorem iIn (a b c : Int) : impl_within.f a b c = some (decide (b ≤ a ∧ a ≤ c)) := by
  unfold impl_within.f
  by_cases h : a ≥ b
  · rw [if_pos h]; congr 1; rw [decide_eq_decide]; omega
  · rw [if_neg h]; congr 1; symm; rw [decide_eq_false_iff_not]; omega
theorem iSB (n : Int) : impl_ShortBytes.f n = some (sb n) := by
  unfold impl_ShortBytes.f
  rw [iIn]; simp only [Option.bind_some, sb]
  by_cases h : 0 ≤ n ∧ n ≤ 65535
  · rw [if_pos (by simpa using h), if_pos h]
  · rw [if_neg (by simpa using h), if_neg h]
theorem ext_bt {s t : ByteArray} (h : s.size = t.size) (hb : ∀ i : Nat, i < s.size → bt s i = bt t i) : s = t := by
  apply ByteArray.ext
  apply Array.ext h
  intro i h1 h2
  have e := hb i h1
  rw [← bt_at s i (by simpa using h1), ← bt_at t i (by simpa using h2)] at e
  have e2 : (s[i]'h1).toNat = (t[i]'h2).toNat := by
    have : ((s[(i : Int).toNat]'(by simpa using h1)).toNat : Int) = ((t[(i : Int).toNat]'(by simpa using h2)).toNat : Int) := e
    simp only [Int.toNat_natCast] at this
    omega
  exact UInt8.toNat_inj.mp e2
theorem wbx_range (x : Int) : ∀ y ∈ wbx x, 0 ≤ y ∧ y ≤ 255 := by
  intro y hy
  simp [wbx] at hy
  omega
theorem bt_wb (a : Int) (i : Nat) (hi : i < 8) : bt (wb a) i = (wbx (a % 18446744073709551616))[i]'(by simpa [wbx] using hi) := bt_strOfNums _ (wbx_range _) i (by simpa [wbx] using hi)
theorem wordP_wb (a : Int) (h0 : -9223372036854775808 ≤ a) (h1 : a ≤ 9223372036854775807) : wordP (wb a) 0 = a := by
  have b0 : bt (wb a) (0 + ((0 : Nat) : Int)) = _ := bt_wb a 0 (by omega)
  have b1 : bt (wb a) (0 + ((1 : Nat) : Int)) = _ := bt_wb a 1 (by omega)
  have b2 : bt (wb a) (0 + ((2 : Nat) : Int)) = _ := bt_wb a 2 (by omega)
  have b3 : bt (wb a) (0 + ((3 : Nat) : Int)) = _ := bt_wb a 3 (by omega)
  have b4 : bt (wb a) (0 + ((4 : Nat) : Int)) = _ := bt_wb a 4 (by omega)
  have b5 : bt (wb a) (0 + ((5 : Nat) : Int)) = _ := bt_wb a 5 (by omega)
  have b6 : bt (wb a) (0 + ((6 : Nat) : Int)) = _ := bt_wb a 6 (by omega)
  have b7 : bt (wb a) (0 + ((7 : Nat) : Int)) = _ := bt_wb a 7 (by omega)
  unfold wordP
  simp only [hn]
  rw [b0, b1, b2, b3, b4, b5, b6, b7]
  simp only [wbx, List.getElem_cons_zero, List.getElem_cons_succ]
  unfold wrap64; omega
theorem wb_wordP (s : ByteArray) (h : s.size = 8) : wb (wordP s 0) = s := by
  refine ext_bt (by rw [wb_size, h]) (fun i hi => ?_)
  rw [wb_size] at hi
  rw [bt_wb _ i hi]
  have r0 := bt_range s 0
  have r1 := bt_range s 1
  have r2 := bt_range s 2
  have r3 := bt_range s 3
  have r4 := bt_range s 4
  have r5 := bt_range s 5
  have r6 := bt_range s 6
  have r7 := bt_range s 7
  have e : wordP s 0 % 18446744073709551616 = (((((((bt s 0 * 256 + bt s 1) * 256 + bt s 2) * 256 + bt s 3) * 256 + bt s 4) * 256 + bt s 5) * 256 + bt s 6) * 256 + bt s 7) := by
    unfold wordP
    simp only [hn]
    simp
    unfold wrap64; omega
  simp only [e]
  have : i = 0 ∨ i = 1 ∨ i = 2 ∨ i = 3 ∨ i = 4 ∨ i = 5 ∨ i = 6 ∨ i = 7 := by omega
  rcases this with rfl | rfl | rfl | rfl | rfl | rfl | rfl | rfl <;> simp only [wbx, List.getElem_cons_zero, List.getElem_cons_succ] <;> simp <;> omega
theorem rs_sb (n : Int) (h : 0 ≤ n ∧ n ≤ 65535) : (sb n).size = 2 ∧ bt (sb n) 0 * 256 + bt (sb n) 1 = n := by
  have hr : ∀ x ∈ ([n / 256 % 256, n % 256] : List Int), 0 ≤ x ∧ x ≤ 255 := by intro x hx; simp at hx; omega
  have e0 := bt_strOfNums _ hr 0 (by simp)
  have e1 := bt_strOfNums _ hr 1 (by simp)
  unfold sb; rw [if_pos h]
  refine ⟨by rw [strOfNums_size]; rfl, ?_⟩
  have e0' : bt (strOfNums [n / 256 % 256, n % 256]) 0 = n / 256 % 256 := e0
  have e1' : bt (strOfNums [n / 256 % 256, n % 256]) 1 = n % 256 := e1
  rw [e0', e1']; omega
theorem sb_rs (s : ByteArray) (h : s.size = 2) : sb (bt s 0 * 256 + bt s 1) = s := by
  have r0 := bt_range s 0
  have r1 := bt_range s 1
  unfold sb; rw [if_pos (by omega)]
  have hr : ∀ x ∈ ([(bt s 0 * 256 + bt s 1) / 256 % 256, (bt s 0 * 256 + bt s 1) % 256] : List Int), 0 ≤ x ∧ x ≤ 255 := by intro x hx; simp at hx; omega
  refine ext_bt (by rw [strOfNums_size, h]; rfl) (fun i hi => ?_)
  rw [strOfNums_size] at hi
  rw [bt_strOfNums _ hr i hi]
  have : i = 0 ∨ i = 1 := by simp at hi; omega
  rcases this with rfl | rfl <;> simp only [List.getElem_cons_zero, List.getElem_cons_succ] <;> simp <;> omega
theorem fnWords_core (k : Nat) (l : List Int) (n m : Int) (s t : ByteArray) (hb : ¬ (l.length : Int) > 1048576) (E1 : spec_DrawWordBytes.f (k + 9) l = some n) (E2 : spec_DrawReadWord.f (k + 9) l = some s)
    (E3 : spec_DrawShortBytes.f (k + 9) l = some m) (E4 : spec_DrawReadShort.f (k + 9) l = some t) (n0 : -9223372036854775808 ≤ n) (n1 : n ≤ 9223372036854775807) : laws_FnWords.f (k + 9) l = some true := by
  have hj : laws_FnWords.j0 (k + 9) m false = some true := by
    simp only [laws_FnWords.j0, iSB, iRS, Option.bind_some]
    rw [if_neg (by simp)]
    by_cases hm : 0 ≤ m ∧ m ≤ 65535
    · obtain ⟨z1, z2⟩ := rs_sb m hm
      simp only [rs, z1, z2, if_true]
      simp [hm]
    · have z1 : (sb m).size = 0 := by unfold sb; rw [if_neg hm]; rfl
      simp only [rs, z1]
      by_cases hm0 : m ≥ 0
      · have : ¬ (m ≤ 65535) := by omega
        simp [hm0, this]
      · simp [hm0]
  unfold laws_FnWords.f laws_big.f
  simp only [Option.bind_some]
  rw [if_neg (by simpa using hb), E1, E2, E3, E4]
  simp (implicitDefEqProofs := false) only [Option.bind_some, iWB, iRW, iRS, iSB]
  have w1 : rw8 (wb n) = (n, true) := by unfold rw8; rw [if_pos (wb_size n), wordP_wb n n0 n1]
  rw [w1]
  simp only [if_true]
  by_cases c : s.size = 8
  · have w2 : rw8 s = (wordP s 0, true) := by unfold rw8; rw [if_pos c]
    rw [w2]
    simp only [c, wb_wordP s c]
    by_cases d : t.size = 2
    · have w3 : rs t = (bt t 0 * 256 + bt t 1, true) := by unfold rs; rw [if_pos d]
      simp [w3, d, sb_rs t d, hj]
    · have w3 : rs t = (0, false) := by unfold rs; rw [if_neg d]
      have d' : ((t.size : Int) == 2) = false := by simp; omega
      simp [w3, d', hj]
  · have w2 : rw8 s = (0, false) := by unfold rw8; rw [if_neg c]
    have c' : ((s.size : Int) == 8) = false := by simp; omega
    by_cases d : t.size = 2
    · have w3 : rs t = (bt t 0 * 256 + bt t 1, true) := by unfold rs; rw [if_pos d]
      simp [w2, c', w3, d, sb_rs t d, hj]
    · have w3 : rs t = (0, false) := by unfold rs; rw [if_neg d]
      have d' : ((t.size : Int) == 2) = false := by simp; omega
      simp [w2, c', w3, d', hj]
theorem FnWords : laws_FnWords.Pure := by
  intro l _ h1 h2
  have h := RdOk.start h1 h2
  by_cases hb : (l.length : Int) > 1048576
  · exact ⟨0, by unfold laws_FnWords.f laws_big.f; simp [hb]⟩
  · obtain ⟨n, ⟨K1, e1⟩, n0, n1⟩ := drawWordBytes h
    obtain ⟨s, ⟨K2, e2⟩, hs⟩ := drawReadWord h
    obtain ⟨m, ⟨K3, e3⟩, m0, m1⟩ := drawShortBytes h
    obtain ⟨t, ⟨K4, e4⟩, ht⟩ := drawReadShort h
    refine ⟨K1 + K2 + K3 + K4 + 9, ?_⟩
    have E1 : spec_DrawWordBytes.f (K1 + K2 + K3 + K4 + 9) l = some n := e1 _ (by omega)
    have E2 : spec_DrawReadWord.f (K1 + K2 + K3 + K4 + 9) l = some s := e2 _ (by omega)
    have E3 : spec_DrawShortBytes.f (K1 + K2 + K3 + K4 + 9) l = some m := e3 _ (by omega)
    have E4 : spec_DrawReadShort.f (K1 + K2 + K3 + K4 + 9) l = some t := e4 _ (by omega)
    exact fnWords_core (K1 + K2 + K3 + K4) l n m s t hb E1 E2 E3 E4 n0 n1
end Go.Proofs.Ytpkekjddhkngcaa.Pure
