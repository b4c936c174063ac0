/- Proved: for every list of drawn bytes the drawn old and young references are told apart and tell their places, with no condition on the input. -/
import Derived.Test.YtpkekjddhkngcaaPFnRefsx3
namespace Go.Proofs.Ytpkekjddhkngcaa.Pure
open Go.RowKit Go.Proofs.Ytpkekjddhkngcaa.PFnRefs Go.Proofs.YtpkekjddhkngcaaW.PrintWords Go.Proofs.YtpkekjddhkngcaaW.PrintLast
theorem w64 {n : Int} (h0 : -9223372036854775808 ≤ n) (h1 : n ≤ 9223372036854775807) : wrap64 n = n := by unfold wrap64; omega
theorem u64 (n : Int) : IntKind.u64.wrap n = n % 18446744073709551616 := by simp [IntKind.wrap, IntKind.bits, IntKind.signed]
theorem wf64 {n : Int} (h : (Lit.int .i64 n).wf = true) : -9223372036854775808 ≤ n ∧ n ≤ 9223372036854775807 := by
  simp [Lit.wf, IntKind.min, IntKind.max, IntKind.bits, IntKind.signed] at h
  omega
/-- a reader of drawn bytes that is in order -/
def RdOk (l : List Int) (p : Int) : Prop := 0 ≤ p ∧ p ≤ (l.length : Int) ∧ (l.length : Int) ≤ 140737488351232 ∧ ∀ x ∈ l, 0 ≤ x ∧ x ≤ 255
theorem RdOk.start {l : List Int} (h1 : l.length * 1 ≤ 140737488351232) (h2 : ∀ x ∈ l, (Lit.int .u8 x).wf = true) : RdOk l 0 :=
  ⟨by omega, by omega, by omega, fun x hx => by
    have := h2 x hx
    simp [Lit.wf, IntKind.min, IntKind.max, IntKind.bits, IntKind.signed] at this
    omega⟩
theorem rd_mem {l : List Int} {i : Int} (h0 : 0 ≤ i) (h1 : i < (l.length : Int)) : rd l i ∈ l := by
  unfold rd
  rw [List.getD_eq_getElem?_getD, List.getElem?_eq_getElem (by omega : i.toNat < l.length)]
  exact List.getElem_mem _
theorem bits_u64 (op : BinOp) (x y : Int) : 0 ≤ Go.bits op .u64 x y ∧ Go.bits op .u64 x y < 18446744073709551616 := by
  unfold Go.bits; rw [u64]; omega
theorem wrap64_in (x : Int) : -9223372036854775808 ≤ wrap64 x ∧ wrap64 x ≤ 9223372036854775807 := by unfold wrap64; omega
theorem one4 (a b c d : UInt8) (i : Int) (h0 : 0 ≤ i) (h1 : i < 4) : (rdOf ByteArray.empty ([(⟨#[a]⟩ : ByteArray), (⟨#[b]⟩ : ByteArray), (⟨#[c]⟩ : ByteArray), (⟨#[d]⟩ : ByteArray)] : List ByteArray) i).size = 1 := by
  have : i = 0 ∨ i = 1 ∨ i = 2 ∨ i = 3 := by omega
  rcases this with rfl | rfl | rfl | rfl <;> rfl
theorem next_ok {l : List Int} {p : Int} (h : RdOk l p) : ∃ v p', spec_l1Rd_next.f l p = some (v, p') ∧ 0 ≤ v ∧ v ≤ 255 ∧ RdOk l p' := by
  obtain ⟨h0, h1, h2, h3⟩ := h
  unfold spec_l1Rd_next.f
  by_cases c : p ≥ (l.length : Int)
  · exact ⟨0, p, by rw [if_pos c], by omega, by omega, h0, h1, h2, h3⟩
  · have hm := h3 _ (rd_mem h0 (by omega : p < (l.length : Int)))
    refine ⟨rd l p, p + 1, ?_, hm.1, hm.2, by omega, by omega, h2, h3⟩
    rw [if_neg c, w64 (n := p + 1) (by omega) (by omega), w64 (n := p + 1 - 1) (by omega) (by omega), if_pos (by omega), if_pos (by omega), show p + 1 - 1 = p by omega, w64 (by omega) (by omega)]
theorem below_ok {l : List Int} {p : Int} (h : RdOk l p) (n : Int) : ∃ v p', spec_l1Rd_below.f l p n = some (v, p') ∧ 0 ≤ v ∧ (n ≤ 1 → v = 0) ∧ (1 < n → v < n) ∧ RdOk l p' := by
  unfold spec_l1Rd_below.f
  by_cases c : n ≤ 1
  · exact ⟨0, p, by rw [if_pos c], by omega, fun _ => rfl, fun _ => by omega, h⟩
  · rw [if_neg c]
    by_cases c2 : n ≤ 256
    · obtain ⟨v, p1, e, v0, v1, h'⟩ := next_ok h
      refine ⟨Int.tmod v n, p1, by rw [if_pos c2, e]; simp only [Option.bind_some]; rw [if_neg (by omega)], ?_, by omega, fun _ => ?_, h'⟩
      · rw [Int.tmod_eq_emod_of_nonneg v0]; exact Int.emod_nonneg _ (by omega)
      · rw [Int.tmod_eq_emod_of_nonneg v0]; exact Int.emod_lt_of_pos _ (by omega)
    · obtain ⟨v, p1, e, v0, v1, h'⟩ := next_ok h
      obtain ⟨u, p2, e2, u0, u1, h2⟩ := next_ok h'
      have e3 : wrap64 (wrap64 (v * 256) + u) = v * 256 + u := by rw [w64 (n := v * 256) (by omega) (by omega), w64 (by omega) (by omega)]
      refine ⟨Int.tmod (v * 256 + u) n, p2, by rw [if_neg c2, e]; simp only [Option.bind_some]; rw [e2]; simp only [Option.bind_some]; rw [if_neg (by omega), e3], ?_, by omega, fun _ => ?_, h2⟩
      · rw [Int.tmod_eq_emod_of_nonneg (by omega)]; exact Int.emod_nonneg _ (by omega)
      · rw [Int.tmod_eq_emod_of_nonneg (by omega)]; exact Int.emod_lt_of_pos _ (by omega)
theorem once_ok {l : List Int} {p : Int} (h : RdOk l p) (n : Int) : ∃ b p', spec_l1Rd_once.f l p n = some (b, p') ∧ RdOk l p' := by
  obtain ⟨v, p1, e, _, _, _, h'⟩ := below_ok h n
  exact ⟨_, p1, by unfold spec_l1Rd_once.f; rw [e]; rfl, h'⟩
theorem word_in {l : List Int} : ∀ (d j : Nat) (x p : Int), j + d = 8 → 0 ≤ x → x < 18446744073709551616 → RdOk l p → ∃ v p', Ev (fun k => spec_l1Rd_word.l0 k x j l p) (v, p') ∧ 0 ≤ v ∧ v < 18446744073709551616 ∧ RdOk l p' := by
  intro d
  induction d with
  | zero =>
    intro j x p hj h0 h1 h
    exact ⟨x, p, Ev.step (f := fun _ => some (x, p)) (fun k => by simp only [spec_l1Rd_word.l0]; rw [if_neg (by omega)]) (Ev.now _), h0, h1, h⟩
  | succ d ih =>
    intro j x p hj h0 h1 h
    obtain ⟨u, p1, e, u0, u1, h'⟩ := next_ok h
    have hb := bits_u64 .or (IntKind.u64.wrap (x * 256)) (IntKind.u64.wrap u)
    obtain ⟨v, p2, e2, v0, v1, h2⟩ := ih (j + 1) _ p1 (by omega) hb.1 hb.2 h'
    refine ⟨v, p2, Ev.step (fun k => ?_) e2, v0, v1, h2⟩
    simp only [spec_l1Rd_word.l0]; rw [if_pos (by omega), e]; simp only [Option.bind_some]; rw [w64 (n := (j : Int) + 1) (by omega) (by omega)]; rfl
theorem word_ok {l : List Int} {p : Int} (h : RdOk l p) : ∃ v p', Ev (fun k => spec_l1Rd_word.f k l p) (v, p') ∧ 0 ≤ v ∧ v < 18446744073709551616 ∧ RdOk l p' := by
  obtain ⟨v, p', e, h⟩ := word_in 8 0 0 p (by omega) (by omega) (by omega) h
  exact ⟨v, p', Ev.congr (fun k => rfl) e, h⟩
theorem near_ok {l : List Int} {p : Int} (h : RdOk l p) (lo hi : Int) (hl : -9223372036854775808 ≤ lo ∧ lo ≤ 9223372036854775807) (hh : -9223372036854775808 ≤ hi ∧ hi ≤ 9223372036854775807) (hd : hi - lo < 18446744073709551615) : ∃ v p', Ev (fun k => spec_l1Rd_near.f k l p lo hi) (v, p') ∧ -9223372036854775808 ≤ v ∧ v ≤ 9223372036854775807 ∧ RdOk l p' := by
  unfold spec_l1Rd_near.f
  obtain ⟨v, p1, e, v0, _, v1, h1⟩ := below_ok h 8
  rw [e]; simp only [Option.bind_some]
  by_cases c0 : v = 0
  · simp only [if_pos c0]; exact ⟨_, p1, Ev.now _, hl.1, hl.2, h1⟩
  · simp only [if_neg c0]
    by_cases c1 : v = 1
    · simp only [if_pos c1]; exact ⟨_, p1, Ev.now _, hh.1, hh.2, h1⟩
    · simp only [if_neg c1]
      by_cases c2 : hi < lo
      · simp only [if_pos c2]; exact ⟨_, p1, Ev.now _, hl.1, hl.2, h1⟩
      · simp only [if_neg c2]
        obtain ⟨u, p2, e2, u0, u1, h2⟩ := word_ok h1
        have hz : ¬ (IntKind.u64.wrap (wrap64 (wrap64 (hi - lo) + 1)) = 0) := by rw [u64]; unfold wrap64; omega
        have hw := wrap64_in (lo + wrap64 (Int.tmod (u / 2) (IntKind.u64.wrap (wrap64 (wrap64 (hi - lo) + 1)))))
        refine ⟨_, p2, ?_, hw.1, hw.2, h2⟩
        simp only [if_neg hz]
        exact Ev.bind (f := fun _ (b : Int × Int) => some (wrap64 (lo + wrap64 (Int.tmod (b.1 / 2) (IntKind.u64.wrap (wrap64 (wrap64 (hi - lo) + 1))))), b.2)) e2 (Ev.now _)
theorem off_ok {l : List Int} {p : Int} (h : RdOk l p) (lo hi : Int) (hl : -9223372036854775808 ≤ lo ∧ lo ≤ 9223372036854775807) (hh : -9223372036854775808 ≤ hi ∧ hi ≤ 9223372036854775807) (hd : hi - lo < 18446744073709551615) : ∃ v p', Ev (fun k => spec_l1Rd_off.f k l p lo hi) (v, p') ∧ -9223372036854775808 ≤ v ∧ v ≤ 9223372036854775807 ∧ RdOk l p' := by
  unfold spec_l1Rd_off.f
  obtain ⟨b, p1, e, h1⟩ := once_ok h 24
  rw [e]; simp only [Option.bind_some]
  cases b with
  | true =>
    simp only [if_true]
    obtain ⟨u, p2, e2, u0, _, u1, h2⟩ := below_ok h1 4
    have hu := u1 (by omega)
    simp only [e2, Option.bind_some]
    rw [if_pos u0, if_pos (by simpa using hu)]
    have hw := wrap64_in (lo - 1)
    have hw2 := wrap64_in (hi + 1)
    refine ⟨_, p2, Ev.now _, ?_, ?_, h2⟩
    all_goals
      have : u = 0 ∨ u = 1 ∨ u = 2 ∨ u = 3 := by omega
      rcases this with rfl | rfl | rfl | rfl <;> simp [rd] <;> omega
  | false =>
    simp only [Bool.false_eq_true, if_false]
    obtain ⟨u, p2, e2, u0, u1, h2⟩ := near_ok h1 lo hi hl hh hd
    exact ⟨u, p2, Ev.bind (f := fun _ (b : Int × Int) => some (b.1, b.2)) e2 (Ev.now _), u0, u1, h2⟩
theorem evThen {α β : Type} {g : Nat → Option α} {h : Nat → Option β} {f : Nat → α → Option β} {a : α} {r : β} (e : Ev g a) (he : ∀ k, h k = (g k).bind (f k)) (k : Ev (fun n => f n a) r) : Ev h r := Ev.congr he (Ev.bind e k)
theorem evIs {α : Type} {g : Nat → Option α} {r : α} (h : ∀ k, g k = some r) : Ev g r := ⟨0, fun k _ => h k⟩
theorem drawOldRef {l : List Int} (h : RdOk l 0) : ∃ v, Ev (fun k => spec_DrawOldRef.f k l) v ∧ -9223372036854775808 ≤ v ∧ v ≤ 9223372036854775807 := by
  obtain ⟨v, p, e, h0, h1, _⟩ := off_ok h 1 127 (by omega) (by omega) (by omega)
  exact ⟨v, evThen e (f := fun _ b => some b.1) (fun k => rfl) (Ev.now _), h0, h1⟩
theorem drawYoungRef {l : List Int} (h : RdOk l 0) : ∃ v, Ev (fun k => spec_DrawYoungRef.f k l) v ∧ -9223372036854775808 ≤ v ∧ v ≤ 9223372036854775807 := by
  obtain ⟨v, p, e, h0, h1, _⟩ := off_ok h 0 399 (by omega) (by omega) (by omega)
  exact ⟨v, evThen e (f := fun _ b => some b.1) (fun k => rfl) (Ev.now _), h0, h1⟩
theorem iIn (a b c : Int) : impl_within.f a b c = some (decide (b ≤ a ∧ a ≤ c)) := by
  unfold impl_within.f
  by_cases h : a ≥ b
  · rw [if_pos h]; congr 1; rw [decide_eq_decide]; omega
  · rw [if_neg h]; congr 1; symm; rw [decide_eq_false_iff_not]; omega
def rkP (n : Int) : Int := if n = 0 then 0 else if 2 ≤ n ∧ n ≤ 254 ∧ Int.tmod n 2 = 0 then 1 else if 1 ≤ n ∧ n ≤ 799 ∧ Int.tmod n 2 = 1 then 2 else -1
theorem rkP_range (n : Int) : rkP n = 0 ∨ rkP n = 1 ∨ rkP n = 2 ∨ rkP n = -1 := by
  unfold rkP
  split
  · simp
  · split
    · simp
    · split <;> simp
theorem tmod2 (n : Int) (h : 0 ≤ n) : Int.tmod n 2 = n % 2 := Int.tmod_eq_emod_of_nonneg h
theorem tdiv2 (n : Int) (h : 0 ≤ n) : Int.tdiv n 2 = n / 2 := Int.tdiv_eq_ediv_of_nonneg h
def placeP (n : Int) : Int := if rkP n < 1 then -1 else wrap64 (Int.tdiv n 2)
def oldP (n : Int) : Int := if 1 ≤ n ∧ n ≤ 127 then 2 * n else 0
def youngP (n : Int) : Int := if 0 ≤ n ∧ n ≤ 399 then 2 * n + 1 else 0
theorem rkP_old (n : Int) (h : 1 ≤ n ∧ n ≤ 127) : rkP (2 * n) = 1 := by
  unfold rkP; rw [if_neg (by omega), if_pos ⟨by omega, by omega, by rw [tmod2 _ (by omega)]; omega⟩]
theorem rkP_young (n : Int) (h : 0 ≤ n ∧ n ≤ 399) : rkP (2 * n + 1) = 2 := by
  unfold rkP; rw [if_neg (by omega), if_neg (fun h => by have := h.2.2; rw [tmod2 _ (by omega)] at this; omega), if_pos ⟨by omega, by omega, by rw [tmod2 _ (by omega)]; omega⟩]
theorem place_old (n : Int) (h : 1 ≤ n ∧ n ≤ 127) : placeP (2 * n) = n := by
  unfold placeP; rw [rkP_old n h, if_neg (by omega), tdiv2 _ (by omega), w64 (by omega) (by omega)]; omega
theorem place_young (n : Int) (h : 0 ≤ n ∧ n ≤ 399) : placeP (2 * n + 1) = n := by
  unfold placeP; rw [rkP_young n h, if_neg (by omega), tdiv2 _ (by omega), w64 (by omega) (by omega)]; omega
theorem iOld (n : Int) : impl_OldRef.f n = some (oldP n) := by
  unfold impl_OldRef.f oldP
  rw [iIn]; simp only [Option.bind_some]
  by_cases h : 1 ≤ n ∧ n ≤ 127
  · rw [if_pos (by simpa using h), if_pos h, w64 (by omega) (by omega)]
  · rw [if_neg (by simpa using h), if_neg h]
theorem iYoung (n : Int) : impl_YoungRef.f n = some (youngP n) := by
  unfold impl_YoungRef.f youngP
  rw [iIn]; simp only [Option.bind_some]
  by_cases h : 0 ≤ n ∧ n ≤ 399
  · rw [if_pos (by simpa using h), if_pos h, w64 (n := 2 * n) (by omega) (by omega), w64 (by omega) (by omega)]
  · rw [if_neg (by simpa using h), if_neg h]
theorem ref1_ok {l : List Int} {p : Int} (h : RdOk l p) (b : Bool) : ∃ v p', (∀ k, spec_l1Rd_ref.j1 (k + 1) b l p = some (v, p')) ∧ -9223372036854775808 ≤ v ∧ v ≤ 9223372036854775807 ∧ RdOk l p' := by
  obtain ⟨v, p1, e, _, _, _, h1⟩ := below_ok h 20
  cases b with
  | true =>
    have hw := wrap64_in (2 * wrap64 (1 + v))
    exact ⟨_, p1, fun k => by simp only [spec_l1Rd_ref.j1, if_true, e, Option.bind_some], hw.1, hw.2, h1⟩
  | false =>
    have hw := wrap64_in (wrap64 (2 * v) + 1)
    exact ⟨_, p1, fun k => by simp only [spec_l1Rd_ref.j1, Bool.false_eq_true, if_false, e, Option.bind_some], hw.1, hw.2, h1⟩
theorem ref0_ok {l : List Int} {p : Int} (h : RdOk l p) (x : Int) (b : Bool) : ∃ v p', (∀ k, spec_l1Rd_ref.j0 (k + 2) x b l p = some (v, p')) ∧ -9223372036854775808 ≤ v ∧ v ≤ 9223372036854775807 ∧ RdOk l p' := by
  cases b with
  | true => exact ⟨0, p, fun k => by simp only [spec_l1Rd_ref.j0, if_true], by omega, by omega, h⟩
  | false =>
    by_cases c4 : x = 4
    · obtain ⟨v, p1, e, h0⟩ := ref1_ok h (x == 4)
      exact ⟨v, p1, fun k => by simp only [spec_l1Rd_ref.j0, Bool.false_eq_true, if_false]; rw [if_pos c4]; exact e k, h0⟩
    · by_cases c5 : x = 5
      · obtain ⟨v, p1, e, h0⟩ := ref1_ok h (x == 5)
        exact ⟨v, p1, fun k => by simp only [spec_l1Rd_ref.j0, Bool.false_eq_true, if_false]; rw [if_neg c4, if_pos c5]; exact e k, h0⟩
      · obtain ⟨v, p1, e, h0⟩ := ref1_ok h (x == 6)
        exact ⟨v, p1, fun k => by simp only [spec_l1Rd_ref.j0, Bool.false_eq_true, if_false]; rw [if_neg c4, if_neg c5]; exact e k, h0⟩
theorem ev2 {α : Type} {g : Nat → Option α} {r : α} (h : ∀ k, g (k + 2) = some r) : Ev g r := ⟨2, fun k hk => by
  obtain ⟨m, rfl⟩ : ∃ m, k = m + 2 := ⟨k - 2, by omega⟩
  exact h m⟩
theorem ref_ok {l : List Int} {p : Int} (h : RdOk l p) : ∃ v p', Ev (fun k => spec_l1Rd_ref.f k l p) (v, p') ∧ -9223372036854775808 ≤ v ∧ v ≤ 9223372036854775807 ∧ RdOk l p' := by
  unfold spec_l1Rd_ref.f
  obtain ⟨x, p1, e, _, _, _, h1⟩ := below_ok h 12
  rw [e]; simp only [Option.bind_some]
  by_cases c0 : x = 0
  · simp only [if_pos c0]
    obtain ⟨v, p2, e2, v0, v1, h2⟩ := off_ok h1 0 254 (by omega) (by omega) (by omega)
    exact ⟨v, p2, evThen (f := fun _ b => some (b.1, b.2)) e2 (fun k => rfl) (Ev.now _), v0, v1, h2⟩
  · simp only [if_neg c0]
    by_cases c1 : x = 1
    · simp only [if_pos c1]
      obtain ⟨v, p2, e2, v0, v1, h2⟩ := off_ok h1 0 799 (by omega) (by omega) (by omega)
      exact ⟨v, p2, evThen (f := fun _ b => some (b.1, b.2)) e2 (fun k => rfl) (Ev.now _), v0, v1, h2⟩
    · simp only [if_neg c1]
      by_cases c2 : x = 2
      · simp only [if_pos c2]
        obtain ⟨v, p2, e2, h2⟩ := ref0_ok h1 x (x == 2)
        exact ⟨v, p2, ev2 e2, h2⟩
      · simp only [if_neg c2]
        obtain ⟨v, p2, e2, h2⟩ := ref0_ok h1 x (x == 3)
        exact ⟨v, p2, ev2 e2, h2⟩
theorem drawRefKind {l : List Int} (h : RdOk l 0) : ∃ v, Ev (fun k => spec_DrawRefKind.f k l) v ∧ -9223372036854775808 ≤ v ∧ v ≤ 9223372036854775807 := by
  obtain ⟨v, p, e, h0, h1, _⟩ := ref_ok h
  exact ⟨v, evThen e (f := fun _ b => some b.1) (fun k => rfl) (Ev.now _), h0, h1⟩
theorem sIn (a b c : Int) : spec_l1In.f a b c = some (decide (b ≤ a ∧ a ≤ c)) := by
  unfold spec_l1In.f
  by_cases h : a ≥ b
  · rw [if_pos h]; congr 1; rw [decide_eq_decide]; omega
  · rw [if_neg h]; congr 1; symm; rw [decide_eq_false_iff_not]; omega
theorem sOld (n : Int) : spec_OldRef.f n = some (oldP n) := by
  unfold spec_OldRef.f oldP
  rw [sIn]; simp only [Option.bind_some]
  by_cases h : 1 ≤ n ∧ n ≤ 127
  · rw [if_pos (by simpa using h), if_pos h, w64 (by omega) (by omega)]
  · rw [if_neg (by simpa using h), if_neg h]
theorem sYoung (n : Int) : spec_YoungRef.f n = some (youngP n) := by
  unfold spec_YoungRef.f youngP
  rw [sIn]; simp only [Option.bind_some]
  by_cases h : 0 ≤ n ∧ n ≤ 399
  · rw [if_pos (by simpa using h), if_pos h, w64 (n := 2 * n) (by omega) (by omega), w64 (by omega) (by omega)]
  · rw [if_neg (by simpa using h), if_neg h]
theorem rk2 (k : Nat) (n : Int) : impl_RefKind.f (k + 9) n = some (rkP n) := by
  unfold impl_RefKind.f impl_within.f rkP
  by_cases h0 : n = 0
  · simp [h0]
  · by_cases h1 : 2 ≤ n <;> by_cases h2 : n ≤ 254 <;> by_cases h3 : Int.tmod n 2 = 0 <;> by_cases h4 : 1 ≤ n <;> by_cases h5 : n ≤ 799 <;> by_cases h6 : Int.tmod n 2 = 1 <;> first | (exfalso; omega) | simp [impl_RefKind.j0, impl_within.f, h0, h1, h2, h3, h4, h5, h6]
theorem rk1 (k : Nat) (n : Int) : spec_RefKind.f (k + 9) n = some (rkP n) := by
  unfold spec_RefKind.f spec_l1In.f rkP
  by_cases h0 : n = 0
  · simp [h0]
  · by_cases h1 : 2 ≤ n <;> by_cases h2 : n ≤ 254 <;> by_cases h3 : Int.tmod n 2 = 0 <;> by_cases h4 : 1 ≤ n <;> by_cases h5 : n ≤ 799 <;> by_cases h6 : Int.tmod n 2 = 1 <;> first | (exfalso; omega) | simp [spec_RefKind.j0, spec_l1In.f, h0, h1, h2, h3, h4, h5, h6]
theorem pl2 (k : Nat) (n : Int) : impl_PlaceOf.f (k + 9) n = some (placeP n) := by
  unfold impl_PlaceOf.f impl_isOld.f impl_isYoung.f placeP
  rw [rk2]; rcases rkP_range n with h | h | h | h <;> simp [h]
theorem pl1 (k : Nat) (n : Int) : spec_PlaceOf.f (k + 9) n = some (placeP n) := by
  unfold spec_PlaceOf.f placeP
  rw [rk1]; simp only [Option.bind_some]
  by_cases h : rkP n < 1
  · rw [if_pos h, if_pos h]
  · rw [if_neg h, if_neg h]
theorem refs_j0 (k : Nat) (ln wd x : Int) : laws_FnRefs.j0 (k + 10) ln wd (oldP ln) (youngP wd) x false = some true := by
  have z : rkP 0 = 0 := rfl
  have z2 : placeP 0 = -1 := rfl
  simp (implicitDefEqProofs := false) only [laws_FnRefs.j0, rk2, pl2, Option.bind_some, Bool.false_eq_true, if_false, z, if_true]
  have hx : (if x = 0 then some (placeP x == -1) else some true) = some true := by
    by_cases h : x = 0
    · rw [if_pos h, h, z2]; rfl
    · rw [if_neg h]
  rw [hx]
  by_cases h1 : 1 ≤ ln ∧ ln ≤ 127
  · have o1 : oldP ln = 2 * ln := by unfold oldP; rw [if_pos h1]
    rw [o1, if_neg (by omega), rkP_old ln h1, place_old ln h1, if_pos rfl, if_pos rfl]
    by_cases h2 : 0 ≤ wd ∧ wd ≤ 399
    · have o2 : youngP wd = 2 * wd + 1 := by unfold youngP; rw [if_pos h2]
      rw [o2, if_neg (by omega), rkP_young wd h2, place_young wd h2, if_pos rfl, if_pos rfl]
    · have o2 : youngP wd = 0 := by unfold youngP; rw [if_neg h2]
      rw [o2, if_pos rfl]
  · have o1 : oldP ln = 0 := by unfold oldP; rw [if_neg h1]
    rw [o1, if_pos rfl]
    by_cases h2 : 0 ≤ wd ∧ wd ≤ 399
    · have o2 : youngP wd = 2 * wd + 1 := by unfold youngP; rw [if_pos h2]
      rw [o2, if_neg (by omega), rkP_young wd h2, place_young wd h2, if_pos rfl, if_pos rfl]
    · have o2 : youngP wd = 0 := by unfold youngP; rw [if_neg h2]
      rw [o2, if_pos rfl]
theorem refs_core (k : Nat) (l : List Int) (ln wd x : Int) (hb : ¬ (l.length : Int) > 1048576) (E1 : spec_DrawOldRef.f (k + 10) l = some ln) (E2 : spec_DrawYoungRef.f (k + 10) l = some wd) (E3 : spec_DrawRefKind.f (k + 10) l = some x) : laws_FnRefs.f (k + 10) l = some true := by
  unfold laws_FnRefs.f laws_big.f
  simp (implicitDefEqProofs := false) only [Option.bind_some]
  rw [if_neg (by simpa using hb), E1, E2]
  simp (implicitDefEqProofs := false) only [Option.bind_some, iOld, iYoung, sOld, sYoung, E3, if_true, rk2 (k + 1), rk1 (k + 1), pl2 (k + 1), pl1 (k + 1), bne_self_eq_false]
  exact refs_j0 k ln wd x
theorem FnRefs : laws_FnRefs.Pure := by
  intro l _ h1 h2
  have h := RdOk.start h1 h2
  by_cases hb : (l.length : Int) > 1048576
  · exact ⟨0, by unfold laws_FnRefs.f laws_big.f; simp [hb]⟩
  · obtain ⟨a, ⟨K1, e1⟩, _⟩ := drawOldRef h
    obtain ⟨b, ⟨K2, e2⟩, _⟩ := drawYoungRef h
    obtain ⟨c, ⟨K3, e3⟩, _⟩ := drawRefKind h
    exact ⟨K1 + K2 + K3 + 10, refs_core (K1 + K2 + K3) l a b c hb (e1 _ (by omega)) (e2 _ (by omega)) (e3 _ (by omega))⟩
end Go.Proofs.Ytpkekjddhkngcaa.Pure
