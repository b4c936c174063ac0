-- by a patched copy of the print (wip/tools/patch_print.py)
import Derived.Test.YtknllhfhcgahiaaDoorPFnSupersx0
namespace Go.Proofs.YtknllhfhcgahiaaDoor.PFnSupers
open Go.RowKit Go.Proofs.YtknllhfhcgahiaaDoorW.PrintWords Go.Proofs.YtknllhfhcgahiaaDoorW.PrintLast Go.Proofs.YtknllhfhcgahiaaDoorW.PrintMore
attribute [local go_sem] max2_int min2_int max_two min_two max_three min_three max_four min_four
open Go.Proofs.YtknllhfhcgahiaaDoorW.PrintWords renaming below_alloc → lA, pw_below_drewN → lN, below_drew1 → lD
open Go.Proofs.YtknllhfhcgahiaaDoorW.PrintWords.Aside0 renaming mk → mK
set_option linter.unusedVariables false
set_option maxHeartbeats 8000000
set_option maxRecDepth 1000000
set_option linter.unusedSimpArgs false
def spec_ReadShort.f (a0 : ByteArray) : Option (Int × Bool) := if (a0.size : Int) = 2 then (if 0 < (a0.size : Int) then (if 1 < (a0.size : Int) then (some (wrap64 ((wrap64 ((wrap64 (bt a0 0)) * 256)) + (wrap64 (bt a0 1))), true)) else (none)) else (none)) else (some (0, false))
theorem spec_ReadShort.calls (a0 : ByteArray) (r1 : Int) (r2 : Bool) (w : World) (h : spec_ReadShort.f a0 = some (r1, r2)) :
    Calls Tryd.prog 107 #[.string a0] w fun e w' => e = .returned (.tuple #[.int .i64 r1, .bool r2]) ∧ Below w.heap.size w w' := by
 have HB := mK (Below.refl w.heap.size w); have H : (if (a0.size : Int) = 2 then (if 0 < (a0.size : Int) then (if 1 < (a0.size : Int) then (some (wrap64 ((wrap64 ((wrap64 (bt a0 0)) * 256)) + (wrap64 (bt a0 1))), true)) else (none)) else (none)) else (some (0, false))) = some (r1, r2) := h; clear h; by_cases c2 : (a0.size : Int) = 2
 ·rw [if_pos c2] at H; have c2b0 : ((a0.size : Int) == 2) = true := beq_iff_eq.mpr c2; have c2b1 : ((a0.size : Int) != 2) = false := bne_eq_false_iff_eq.mpr c2; clear c2; by_cases c3 : 0 < (a0.size : Int)
  ·rw [if_pos c3] at H; have c3b0 : decide (0 < (a0.size : Int)) = true := decide_eq_true c3; have c3b1 : decide (0 < a0.size) = true := decide_eq_true (by omega); clear c3; by_cases c5 : 1 < (a0.size : Int)
   ·rw [if_pos c5] at H; have c5b0 : decide (1 < (a0.size : Int)) = true := decide_eq_true c5; have c5b1 : decide (1 < a0.size) = true := decide_eq_true (by omega); clear c5; simp only [Option.some.injEq, Prod.mk.injEq] at H; obtain ⟨rfl, rfl⟩ := H; have p4 : 0 ≤ (0 : Int) := (by omega); have q4 : 0 < a0.size := (by have : (0 : Int) < (a0.size : Int) := of_decide_eq_true (by first | (with_reducible assumption) | assumption); omega); have hx4 : ∀ h : 0 < a0.size, ((a0[0]'h).toNat : Int) = bt a0 0 := bt_at a0 0; clear p4; have qi4 : (0 < (a0.size : Int)) = True := eq_true (of_decide_eq_true (by first | (with_reducible assumption) | assumption)); replace q4 := eq_true q4; have p6 : 0 ≤ (1 : Int) := (by omega); have q6 : 1 < a0.size := (by have : (1 : Int) < (a0.size : Int) := of_decide_eq_true (by first | (with_reducible assumption) | assumption); omega); have hx6 : ∀ h : 1 < a0.size, ((a0[1]'h).toNat : Int) = bt a0 1 := bt_at a0 1; clear p6; have qi6 : (1 < (a0.size : Int)) = True := eq_true (of_decide_eq_true (by first | (with_reducible assumption) | assumption)); replace q6 := eq_true q6; go_enter Tryd.func107, Tryd.ntmps107; go_wp2; (repeat (go_quiet (fail); try go_wp2)); go_ret2; exact ⟨by first | rfl | (simp [errW_none, errW_some] <;> rfl) | (simp [*, errW_none, errW_some] <;> rfl), by apply_rules only [HB.out, lA, lN, lD]⟩
   (·rw [if_neg c5] at H; exact absurd H (by simp))
  (·rw [if_neg c3] at H; exact absurd H (by simp))
 ·rw [if_neg c2] at H; have c2b0 : ((a0.size : Int) == 2) = false := beq_eq_false_iff_ne.mpr c2; have c2b1 : ((a0.size : Int) != 2) = true := bne_iff_ne.mpr c2; simp only [Option.some.injEq, Prod.mk.injEq] at H; obtain ⟨rfl, rfl⟩ := H; go_enter Tryd.func107, Tryd.ntmps107; go_wp2; (repeat (go_quiet (fail); try go_wp2)); go_ret2; exact ⟨by first | rfl | (simp [errW_none, errW_some] <;> rfl) | (simp [*, errW_none, errW_some] <;> rfl), by apply_rules only [HB.out, lA, lN, lD]⟩
end Go.Proofs.YtknllhfhcgahiaaDoor.PFnSupers
