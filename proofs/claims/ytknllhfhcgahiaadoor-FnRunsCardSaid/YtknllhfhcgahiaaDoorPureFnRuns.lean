/- The program's RunOf over a drawn type's text: the reference's answer, and its bounds. -/
import Derived.Test.YtknllhfhcgahiaaDoorPFnRunsx0
import Derived.Test.YtknllhfhcgahiaaDoorPFnRunsx1
import Derived.Test.YtknllhfhcgahiaaDoorPFnRunsx2
namespace Go.Proofs.YtknllhfhcgahiaaDoor.Pure
open Go.RowKit Go.Proofs.YtknllhfhcgahiaaDoor.PFnRuns Go.Proofs.YtknllhfhcgahiaaDoorW.PrintWords Go.Proofs.YtknllhfhcgahiaaDoorW.PrintLast
set_option linter.unusedVariables false
set_option linter.unusedSimpArgs false
theorem sIn (a b c : Int) : spec_l1In.f a b c = some (decide (b ≤ a ∧ a ≤ c)) := by
  unfold spec_l1In.f
  by_cases h : a ≥ b
  · rw [if_pos h]; congr 1; rw [decide_eq_decide]; omega
  · rw [if_neg h]; congr 1; symm; rw [decide_eq_false_iff_not]; omega
theorem w64 {n : Int} (h0 : -9223372036854775808 ≤ n) (h1 : n ≤ 9223372036854775807) : wrap64 n = n := by unfold wrap64; omega
theorem evThen {α β : Type} {g : Nat → Option α} {h : Nat → Option β} {f : Nat → α → Option β} {a : α} {r : β} (e : Ev g a) (he : ∀ k, h k = (g k).bind (f k)) (k : Ev (fun n => f n a) r) : Ev h r := Ev.congr he (Ev.bind e k)
theorem evIs {α : Type} {g : Nat → Option α} {r : α} (h : ∀ k, g k = some r) : Ev g r := ⟨0, fun k _ => h k⟩
theorem evIs1 {α : Type} {g : Nat → Option α} {r : α} (h : ∀ k, g (k + 1) = some r) : Ev g r := ⟨1, fun k hk => by cases k with | zero => omega | succ k => exact h k⟩
theorem iTyp (s : ByteArray) : impl_isType.f s = some (impl_isType.g s) := rfl
theorem ok_at (s : ByteArray) (i : Nat) (h : i < s.size) (h' : i < s.data.toList.length) : impl_isType.ok (s.data.toList[i]) = (decide (bt s (i : Int) = 105) || decide (bt s (i : Int) = 114)) := by
  have e : bt s (i : Int) = ((s.data.toList[i]).toNat : Int) := by
    rw [← bt_at s (i : Int) (by rw [Int.toNat_natCast]; exact h)]
    simp only [Int.toNat_natCast, Array.getElem_toList]; rfl
  rw [e]
  generalize s.data.toList[i] = b
  unfold impl_isType.ok
  have g : ∀ n : UInt8, (b == n) = decide ((b.toNat : Int) = (n.toNat : Int)) := by
    intro n
    by_cases hb : b = n
    · subst hb; simp
    · have : ¬ ((b.toNat : Int) = (n.toNat : Int)) := fun q => hb (UInt8.toNat_inj.1 (by omega))
      simp [hb, this]
  rw [g 105, g 114]; rfl
theorem isType_ok (s : ByteArray) (h : impl_isType.g s = true) : 1 ≤ s.size ∧ s.size ≤ 23 ∧ ∀ i : Nat, i < s.size → (bt s (i : Int) = 105 ∨ bt s (i : Int) = 114) := by
  unfold impl_isType.g at h
  rw [Bool.and_eq_true, decide_eq_true_eq, List.all_eq_true] at h
  refine ⟨by omega, by omega, fun i hi => ?_⟩
  have hl : i < s.data.toList.length := by rw [Array.length_toList]; exact hi
  have := h.2 _ (List.getElem_mem hl)
  rw [ok_at s i hi hl] at this
  simpa using this
theorem sTyp_l (s : ByteArray) (hs : s.size ≤ 9223372036854775807) : ∀ (n i : Nat), i + n = s.size → Ev (fun k => spec_l3Type.l0 k s (i : Int)) (decide (1 ≤ (s.size : Int) ∧ (s.size : Int) ≤ 23) && (s.data.toList.drop i).all impl_isType.ok) := by
  intro n
  have hl : s.data.toList.length = s.size := Array.length_toList
  induction n with
  | zero =>
    intro i hi
    refine evIs1 fun k => ?_
    simp only [spec_l3Type.l0]
    rw [if_neg (by omega), sIn, Option.bind_some, List.drop_eq_nil_iff.2 (by omega), List.all_nil, Bool.and_true]
  | succ n ih =>
    intro i hi
    have ih := ih (i + 1) (by omega)
    have hil : i < s.data.toList.length := by omega
    have e := ok_at s i (by omega) hil
    rw [List.drop_eq_getElem_cons hil, List.all_cons, e]
    by_cases c1 : bt s (i : Int) = 105
    · rw [decide_eq_true c1, Bool.true_or, Bool.true_and]
      refine Ev.step (f := fun k => spec_l3Type.l0 k s ((i + 1 : Nat) : Int)) (fun k => ?_) ih
      simp only [spec_l3Type.l0]
      rw [if_pos (by omega), if_pos (by omega), if_pos c1, w64 (by omega) (by omega)]; rfl
    · by_cases c2 : bt s (i : Int) = 114
      · rw [decide_eq_true c2, Bool.or_true, Bool.true_and]
        refine Ev.step (f := fun k => spec_l3Type.l0 k s ((i + 1 : Nat) : Int)) (fun k => ?_) ih
        simp only [spec_l3Type.l0]
        rw [if_pos (by omega), if_pos (by omega), if_neg c1, if_pos c2, w64 (by omega) (by omega)]; rfl
      · rw [decide_eq_false c1, decide_eq_false c2, Bool.or_false, Bool.false_and, Bool.and_false]
        refine evIs1 fun k => ?_
        simp only [spec_l3Type.l0]
        rw [if_pos (by omega), if_pos (by omega), if_neg c1, if_neg c2]
theorem sTyp (s : ByteArray) (hs : s.size ≤ 9223372036854775807) : Ev (fun k => spec_l3Type.f k s) (impl_isType.g s) :=
  Ev.congr (fun k => rfl) (sTyp_l s hs s.size 0 (by omega))
theorem run_w (n : Nat) (hs : n ≤ 140737488351232) : wrap64 (Int.tdiv ((n : Int) + 8) 8) = Int.tdiv ((n : Int) + 8) 8 := by
  rw [Int.tdiv_eq_ediv_of_nonneg (by omega)]; exact w64 (by omega) (by omega)
def runP (s : ByteArray) : Int := if impl_isType.g s = true then Int.tdiv ((s.size : Int) + 8) 8 else 0
theorem sRun (s : ByteArray) (hs : s.size ≤ 140737488351232) : Ev (fun k => spec_RunOf.f k s) (runP s) := by
  refine evThen (sTyp s (by omega)) (fun k => rfl) (evIs fun k => ?_)
  unfold runP
  by_cases c : impl_isType.g s = true
  · rw [if_pos c, if_pos c, w64 (n := 1 + (s.size : Int)) (by omega) (by omega), w64 (n := 1 + (s.size : Int) + 7) (by omega) (by omega), show (1 : Int) + (s.size : Int) + 7 = (s.size : Int) + 8 by omega, run_w _ hs]
  · rw [if_neg c, if_neg c]
theorem iRun (s : ByteArray) (hs : s.size ≤ 140737488351232) : impl_RunOf.f s = some (runP s) := by
  unfold impl_RunOf.f runP
  rw [iTyp, Option.bind_some]
  by_cases c : impl_isType.g s = true
  · rw [if_pos c, if_pos c]; unfold impl_runOf.f
    rw [w64 (n := (s.size : Int) + 8) (by omega) (by omega), run_w _ hs]; rfl
  · rw [if_neg c, if_neg c]
/-- a reader of drawn bytes that is in order -/
def RdOk (l : List Int) (p : Int) : Prop := 0 ≤ p ∧ p ≤ (l.length : Int) ∧ (l.length : Int) ≤ 140737488351232 ∧ ∀ x ∈ l, 0 ≤ x ∧ x ≤ 255
theorem RdOk.start {l : List Int} (h1 : l.length * 1 ≤ 140737488351232) (h2 : ∀ x ∈ l, (Lit.int .u8 x).wf = true) : RdOk l 0 :=
  ⟨by omega, by omega, by omega, fun x hx => by
    have := h2 x hx
    simp [Lit.wf, IntKind.min, IntKind.max, IntKind.bits, IntKind.signed] at this
    omega⟩
theorem rd_mem {l : List Int} {i : Int} (h0 : 0 ≤ i) (h1 : i < (l.length : Int)) : rd l i ∈ l := by
  unfold rd
  rw [List.getD_eq_getElem?_getD, List.getElem?_eq_getElem (by omega : i.toNat < l.length)]
  exact List.getElem_mem _
theorem one4 (a b c d : UInt8) (i : Int) (h0 : 0 ≤ i) (h1 : i < 4) : (rdOf ByteArray.empty ([(⟨#[a]⟩ : ByteArray), (⟨#[b]⟩ : ByteArray), (⟨#[c]⟩ : ByteArray), (⟨#[d]⟩ : ByteArray)] : List ByteArray) i).size = 1 := by
  have : i = 0 ∨ i = 1 ∨ i = 2 ∨ i = 3 := by omega
  rcases this with rfl | rfl | rfl | rfl <;> rfl
theorem next_ok {l : List Int} {p : Int} (h : RdOk l p) : ∃ v p', spec_l1Rd_next.f l p = some (v, p') ∧ 0 ≤ v ∧ v ≤ 255 ∧ RdOk l p' := by
  obtain ⟨h0, h1, h2, h3⟩ := h
  unfold spec_l1Rd_next.f
  by_cases c : p ≥ (l.length : Int)
  · exact ⟨0, p, by rw [if_pos c], by omega, by omega, h0, h1, h2, h3⟩
  · have hm := h3 _ (rd_mem h0 (by omega : p < (l.length : Int)))
    refine ⟨rd l p, p + 1, ?_, hm.1, hm.2, by omega, by omega, h2, h3⟩
    rw [if_neg c, w64 (n := p + 1) (by omega) (by omega), w64 (n := p + 1 - 1) (by omega) (by omega), if_pos (by omega), if_pos (by omega), show p + 1 - 1 = p by omega, w64 (by omega) (by omega)]
theorem below_ok {l : List Int} {p : Int} (h : RdOk l p) (n : Int) : ∃ v p', spec_l1Rd_below.f l p n = some (v, p') ∧ 0 ≤ v ∧ (n ≤ 1 → v = 0) ∧ (1 < n → v < n) ∧ RdOk l p' := by
  unfold spec_l1Rd_below.f
  by_cases c : n ≤ 1
  · exact ⟨0, p, by rw [if_pos c], by omega, fun _ => rfl, fun _ => by omega, h⟩
  · rw [if_neg c]
    by_cases c2 : n ≤ 256
    · obtain ⟨v, p1, e, v0, v1, h'⟩ := next_ok h
      refine ⟨Int.tmod v n, p1, by rw [if_pos c2, e]; simp only [Option.bind_some]; rw [if_neg (by omega)], ?_, by omega, fun _ => ?_, h'⟩
      · rw [Int.tmod_eq_emod_of_nonneg v0]; exact Int.emod_nonneg _ (by omega)
      · rw [Int.tmod_eq_emod_of_nonneg v0]; exact Int.emod_lt_of_pos _ (by omega)
    · obtain ⟨v, p1, e, v0, v1, h'⟩ := next_ok h
      obtain ⟨u, p2, e2, u0, u1, h2⟩ := next_ok h'
      have e3 : wrap64 (wrap64 (v * 256) + u) = v * 256 + u := by rw [w64 (n := v * 256) (by omega) (by omega), w64 (by omega) (by omega)]
      refine ⟨Int.tmod (v * 256 + u) n, p2, by rw [if_neg c2, e]; simp only [Option.bind_some]; rw [e2]; simp only [Option.bind_some]; rw [if_neg (by omega), e3], ?_, by omega, fun _ => ?_, h2⟩
      · rw [Int.tmod_eq_emod_of_nonneg (by omega)]; exact Int.emod_nonneg _ (by omega)
      · rw [Int.tmod_eq_emod_of_nonneg (by omega)]; exact Int.emod_lt_of_pos _ (by omega)
theorem kinds_l {l : List Int} : ∀ (n : Nat) (x : ByteArray) (p : Int), RdOk l p → x.size + n ≤ 1048576 → ∃ s p', Ev (fun k => spec_l1Rd_kinds.l0 k x (n : Int) l p) (s, p') ∧ s.size = x.size + n ∧ RdOk l p' := by
  intro n
  induction n with
  | zero =>
    intro x p h hx
    exact ⟨x, p, evIs1 fun k => by simp only [spec_l1Rd_kinds.l0]; rw [if_neg (by omega)], by omega, h⟩
  | succ n ih =>
    intro x p h hx
    obtain ⟨q, p3, e3, q0, qa, qb, h3⟩ := below_ok h 2
    have hq := qb (by omega)
    have hz : (rdOf ByteArray.empty ([(⟨#[105]⟩ : ByteArray), (⟨#[114]⟩ : ByteArray)] : List ByteArray) q).size = 1 := by
      have : q = 0 ∨ q = 1 := by omega
      rcases this with rfl | rfl <;> rfl
    obtain ⟨s, p', e', hs, h'⟩ := ih (x ++ rdOf ByteArray.empty ([(⟨#[105]⟩ : ByteArray), (⟨#[114]⟩ : ByteArray)] : List ByteArray) q) p3 h3 (by rw [ByteArray.size_append, hz]; omega)
    refine ⟨s, p', Ev.step (f := fun k => spec_l1Rd_kinds.l0 k (x ++ rdOf ByteArray.empty ([(⟨#[105]⟩ : ByteArray), (⟨#[114]⟩ : ByteArray)] : List ByteArray) q) (n : Int) l p3) (fun k => ?_) e', by rw [hs, ByteArray.size_append, hz]; omega, h'⟩
    simp only [spec_l1Rd_kinds.l0]
    rw [if_pos (by omega), Option.bind_some, e3]
    simp only [Option.bind_some]
    rw [if_pos q0, if_pos (by simpa using hq), if_pos (by rw [hz]; omega), w64 (n := ((n + 1 : Nat) : Int) - 1) (by omega) (by omega), show ((n + 1 : Nat) : Int) - 1 = (n : Int) by omega]
theorem kinds_ok {l : List Int} {p : Int} (h : RdOk l p) : ∃ s p', Ev (fun k => spec_l1Rd_kinds.f k l p 25) (s, p') ∧ s.size ≤ 25 ∧ RdOk l p' := by
  obtain ⟨v, p1, e, v0, _, v1, h1⟩ := below_ok h 25
  have hv := v1 (by omega)
  obtain ⟨n, rfl⟩ := Int.eq_ofNat_of_zero_le v0
  obtain ⟨s, p', e', hs, h'⟩ := kinds_l (1 + n) (⟨#[]⟩ : ByteArray) p1 h1 (by show 0 + (1 + n) ≤ _; omega)
  refine ⟨s, p', Ev.congr (fun k => ?_) e', by rw [hs]; show 0 + (1 + n) ≤ _; omega, h'⟩
  unfold spec_l1Rd_kinds.f
  rw [e]; simp only [Option.bind_some]
  rw [w64 (by omega) (by omega)]; rfl
theorem once_ok {l : List Int} {p : Int} (h : RdOk l p) (n : Int) : ∃ b p', spec_l1Rd_once.f l p n = some (b, p') ∧ RdOk l p' := by
  obtain ⟨v, p1, e, _, _, _, h'⟩ := below_ok h n
  exact ⟨_, p1, by unfold spec_l1Rd_once.f; rw [e]; rfl, h'⟩
theorem hurt_ok {l : List Int} {p : Int} (h : RdOk l p) (s : ByteArray) (hs : s.size ≤ 4611686018427387904) : ∃ t p', spec_l1Rd_hurt.f l p s = some (t, p') ∧ t.size ≤ s.size + 1 ∧ RdOk l p' := by
  unfold spec_l1Rd_hurt.f
  obtain ⟨v, p1, e, v0, _, v1, h1⟩ := below_ok h 6
  rw [e]; simp only [Option.bind_some]
  by_cases c1 : v = 1
  · rw [if_pos c1, w64 (n := (s.size : Int) + 1) (by omega) (by omega)]
    obtain ⟨u, p2, e2, u0, ua, ub, h2⟩ := below_ok h1 ((s.size : Int) + 1)
    have hu : u ≤ s.size := by
      by_cases c : 1 < (s.size : Int) + 1
      · have := ub c; omega
      · have := ua (by omega); omega
    rw [e2]; simp only [Option.bind_some]
    rw [if_pos u0, if_pos hu]
    exact ⟨_, p2, rfl, by rw [ByteArray.size_extract]; omega, h2⟩
  · rw [if_neg c1]
    by_cases c2 : v = 2
    · rw [if_pos c2]
      by_cases c3 : (s.size : Int) > 0
      · rw [if_pos c3]
        obtain ⟨u, p2, e2, u0, ua, ub, h2⟩ := below_ok h1 (s.size : Int)
        have hu : u < s.size := by
          by_cases c : 1 < (s.size : Int)
          · exact ub c
          · have := ua (by omega); omega
        rw [e2]; simp only [Option.bind_some]
        rw [if_pos u0, if_pos (by omega)]
        obtain ⟨q, p3, e3, q0, qa, qb, h3⟩ := below_ok h2 4
        have hq := qb (by omega)
        have hz := one4 0 55 255 32 q q0 hq
        rw [e3]; simp only [Option.bind_some]
        rw [if_pos q0, if_pos (by simpa using hq), if_pos (by rw [hz, ByteArray.size_extract]; omega), w64 (n := u + 1) (by omega) (by omega), if_pos (by omega), if_pos (by omega), if_pos (by rw [ByteArray.size_append, hz, ByteArray.size_extract, ByteArray.size_extract]; omega)]
        exact ⟨_, p3, rfl, by rw [ByteArray.size_append, ByteArray.size_append, hz, ByteArray.size_extract, ByteArray.size_extract]; omega, h3⟩
      · rw [if_neg c3]; exact ⟨_, p1, rfl, by omega, h1⟩
    · rw [if_neg c2]
      by_cases c3 : v = 3
      · rw [if_pos c3]
        obtain ⟨q, p3, e3, q0, qa, qb, h3⟩ := below_ok h1 4
        have hq := qb (by omega)
        have hz := one4 0 49 10 32 q q0 hq
        rw [e3]; simp only [Option.bind_some]
        rw [if_pos q0, if_pos (by simpa using hq), if_pos (by rw [hz]; omega)]
        exact ⟨_, p3, rfl, by rw [ByteArray.size_append, hz]; omega, h3⟩
      · rw [if_neg c3]; exact ⟨_, p1, rfl, by omega, h1⟩
theorem drawRunOf {l : List Int} (h : RdOk l 0) : ∃ s : ByteArray, Ev (fun k => spec_DrawRunOf.f k l) s ∧ s.size ≤ 26 := by
  obtain ⟨x, p, e, hx, h2⟩ := kinds_ok h
  obtain ⟨b, p1, e1, h3⟩ := once_ok h2 8
  obtain ⟨t, p2, e2, ht, _⟩ := hurt_ok h3 x (by omega)
  refine ⟨if b = true then t else x, evThen e (fun k => rfl) (evIs fun k => ?_), by cases b <;> simp <;> omega⟩
  simp only [e1, Option.bind_some]
  cases b <;> simp [e2]
theorem FnRuns : laws_FnRuns.Pure := by
  intro l hl _ hw
  by_cases hb : (l.length : Int) > 1048576
  · exact ⟨0, by unfold laws_FnRuns.f laws_big.f; rw [decide_eq_true hb, Option.bind_some, if_pos rfl]⟩
  · obtain ⟨s, es, hs⟩ := drawRunOf (l := l) (RdOk.start (by omega) hw)
    refine Ev.rounds (evThen es (fun k => by unfold laws_FnRuns.f laws_big.f; rw [decide_eq_false hb, Option.bind_some, if_neg (by decide)]) ?_)
    refine evThen (sRun s (by omega)) (fun k => by rw [iRun s (by omega), Option.bind_some]) ?_
    by_cases h0 : runP s = 0
    · refine evThen (sRun s (by omega)) (fun k => by rw [if_pos rfl, if_pos h0]) (evIs fun k => by simp)
    · refine evIs fun k => ?_
      rw [if_pos rfl, if_neg h0]
      unfold runP at h0 ⊢
      by_cases c : impl_isType.g s = true
      · rw [if_pos c] at h0 ⊢
        have ht := isType_ok s c
        rw [Int.tdiv_eq_ediv_of_nonneg (by omega)] at h0 ⊢
        rw [w64 (n := 8 * (((s.size : Int) + 8) / 8)) (by omega) (by omega), w64 (n := (s.size : Int) + 1) (by omega) (by omega), w64 (n := 8 * (((s.size : Int) + 8) / 8) - 8) (by omega) (by omega), if_pos (by omega), if_pos (by omega), decide_eq_true (by omega)]
      · rw [if_neg c] at h0; exact absurd rfl h0
end Go.Proofs.YtknllhfhcgahiaaDoor.Pure
