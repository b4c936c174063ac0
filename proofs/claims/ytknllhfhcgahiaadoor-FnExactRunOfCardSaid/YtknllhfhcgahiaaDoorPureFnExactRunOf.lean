/- The program's RunOf tells what the reference's tells: the two tests of a type's text agree. -/
import Derived.Test.YtknllhfhcgahiaaDoorPFnExactRunOfx0
import Derived.Test.YtknllhfhcgahiaaDoorPFnExactRunOfx1
namespace Go.Proofs.YtknllhfhcgahiaaDoor.Pure
open Go.RowKit Go.Proofs.YtknllhfhcgahiaaDoor.PFnExactRunOf Go.Proofs.YtknllhfhcgahiaaDoorW.PrintWords Go.Proofs.YtknllhfhcgahiaaDoorW.PrintLast
set_option linter.unusedVariables false
set_option linter.unusedSimpArgs false
theorem sIn (a b c : Int) : spec_l1In.f a b c = some (decide (b ≤ a ∧ a ≤ c)) := by
  unfold spec_l1In.f
  by_cases h : a ≥ b
  · rw [if_pos h]; congr 1; rw [decide_eq_decide]; omega
  · rw [if_neg h]; congr 1; symm; rw [decide_eq_false_iff_not]; omega
theorem w64 {n : Int} (h0 : -9223372036854775808 ≤ n) (h1 : n ≤ 9223372036854775807) : wrap64 n = n := by unfold wrap64; omega
theorem evThen {α β : Type} {g : Nat → Option α} {h : Nat → Option β} {f : Nat → α → Option β} {a : α} {r : β} (e : Ev g a) (he : ∀ k, h k = (g k).bind (f k)) (k : Ev (fun n => f n a) r) : Ev h r := Ev.congr he (Ev.bind e k)
theorem evIs {α : Type} {g : Nat → Option α} {r : α} (h : ∀ k, g k = some r) : Ev g r := ⟨0, fun k _ => h k⟩
theorem evIs1 {α : Type} {g : Nat → Option α} {r : α} (h : ∀ k, g (k + 1) = some r) : Ev g r := ⟨1, fun k hk => by cases k with | zero => omega | succ k => exact h k⟩
theorem iTyp (s : ByteArray) : impl_isType.f s = some (impl_isType.g s) := rfl
theorem ok_at (s : ByteArray) (i : Nat) (h : i < s.size) (h' : i < s.data.toList.length) : impl_isType.ok (s.data.toList[i]) = (decide (bt s (i : Int) = 105) || decide (bt s (i : Int) = 114)) := by
  have e : bt s (i : Int) = ((s.data.toList[i]).toNat : Int) := by
    rw [← bt_at s (i : Int) (by rw [Int.toNat_natCast]; exact h)]
    simp only [Int.toNat_natCast, Array.getElem_toList]; rfl
  rw [e]
  generalize s.data.toList[i] = b
  unfold impl_isType.ok
  have g : ∀ n : UInt8, (b == n) = decide ((b.toNat : Int) = (n.toNat : Int)) := by
    intro n
    by_cases hb : b = n
    · subst hb; simp
    · have : ¬ ((b.toNat : Int) = (n.toNat : Int)) := fun q => hb (UInt8.toNat_inj.1 (by omega))
      simp [hb, this]
  rw [g 105, g 114]; rfl
theorem sTyp_l (s : ByteArray) (hs : s.size ≤ 9223372036854775807) : ∀ (n i : Nat), i + n = s.size → Ev (fun k => spec_l3Type.l0 k s (i : Int)) (decide (1 ≤ (s.size : Int) ∧ (s.size : Int) ≤ 23) && (s.data.toList.drop i).all impl_isType.ok) := by
  intro n
  have hl : s.data.toList.length = s.size := Array.length_toList
  induction n with
  | zero =>
    intro i hi
    refine evIs1 fun k => ?_
    simp only [spec_l3Type.l0]
    rw [if_neg (by omega), sIn, Option.bind_some, List.drop_eq_nil_iff.2 (by omega), List.all_nil, Bool.and_true]
  | succ n ih =>
    intro i hi
    have ih := ih (i + 1) (by omega)
    have hil : i < s.data.toList.length := by omega
    have e := ok_at s i (by omega) hil
    rw [List.drop_eq_getElem_cons hil, List.all_cons, e]
    by_cases c1 : bt s (i : Int) = 105
    · rw [decide_eq_true c1, Bool.true_or, Bool.true_and]
      refine Ev.step (f := fun k => spec_l3Type.l0 k s ((i + 1 : Nat) : Int)) (fun k => ?_) ih
      simp only [spec_l3Type.l0]
      rw [if_pos (by omega), if_pos (by omega), if_pos c1, w64 (by omega) (by omega)]; rfl
    · by_cases c2 : bt s (i : Int) = 114
      · rw [decide_eq_true c2, Bool.or_true, Bool.true_and]
        refine Ev.step (f := fun k => spec_l3Type.l0 k s ((i + 1 : Nat) : Int)) (fun k => ?_) ih
        simp only [spec_l3Type.l0]
        rw [if_pos (by omega), if_pos (by omega), if_neg c1, if_pos c2, w64 (by omega) (by omega)]; rfl
      · rw [decide_eq_false c1, decide_eq_false c2, Bool.or_false, Bool.false_and, Bool.and_false]
        refine evIs1 fun k => ?_
        simp only [spec_l3Type.l0]
        rw [if_pos (by omega), if_pos (by omega), if_neg c1, if_neg c2]
theorem sTyp (s : ByteArray) (hs : s.size ≤ 9223372036854775807) : Ev (fun k => spec_l3Type.f k s) (impl_isType.g s) :=
  Ev.congr (fun k => rfl) (sTyp_l s hs s.size 0 (by omega))
theorem run_w (n : Nat) (hs : n ≤ 140737488351232) : wrap64 (Int.tdiv ((n : Int) + 8) 8) = Int.tdiv ((n : Int) + 8) 8 := by
  rw [Int.tdiv_eq_ediv_of_nonneg (by omega)]; exact w64 (by omega) (by omega)
def runP (s : ByteArray) : Int := if impl_isType.g s = true then Int.tdiv ((s.size : Int) + 8) 8 else 0
theorem sRun (s : ByteArray) (hs : s.size ≤ 140737488351232) : Ev (fun k => spec_RunOf.f k s) (runP s) := by
  refine evThen (sTyp s (by omega)) (fun k => rfl) (evIs fun k => ?_)
  unfold runP
  by_cases c : impl_isType.g s = true
  · rw [if_pos c, if_pos c, w64 (n := 1 + (s.size : Int)) (by omega) (by omega), w64 (n := 1 + (s.size : Int) + 7) (by omega) (by omega), show (1 : Int) + (s.size : Int) + 7 = (s.size : Int) + 8 by omega, run_w _ hs]
  · rw [if_neg c, if_neg c]
theorem iRun (s : ByteArray) (hs : s.size ≤ 140737488351232) : impl_RunOf.f s = some (runP s) := by
  unfold impl_RunOf.f runP
  rw [iTyp, Option.bind_some]
  by_cases c : impl_isType.g s = true
  · rw [if_pos c, if_pos c]; unfold impl_runOf.f
    rw [w64 (n := (s.size : Int) + 8) (by omega) (by omega), run_w _ hs]; rfl
  · rw [if_neg c, if_neg c]
theorem FnExactRunOf : laws_FnExactRunOf.Pure := by
  intro s hs
  by_cases hb : (s.size : Int) > 1048576
  · exact ⟨0, by unfold laws_FnExactRunOf.f; rw [if_pos hb]⟩
  · exact Ev.rounds (evThen (sRun s (by omega)) (fun k => by unfold laws_FnExactRunOf.f; rw [if_neg hb]) (evIs fun k => by rw [iRun s (by omega), Option.bind_some, if_pos rfl]))
end Go.Proofs.YtknllhfhcgahiaaDoor.Pure
