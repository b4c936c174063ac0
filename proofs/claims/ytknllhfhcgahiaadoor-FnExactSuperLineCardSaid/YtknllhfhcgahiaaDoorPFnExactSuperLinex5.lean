-- by a patched copy of the print (wip/tools/patch_print.py)
import Derived.Test.YtknllhfhcgahiaaDoorPFnExactSuperLinex0
import Derived.Test.YtknllhfhcgahiaaDoorPFnExactSuperLinex4
namespace Go.Proofs.YtknllhfhcgahiaaDoor.PFnExactSuperLine
open Go.RowKit Go.Proofs.YtknllhfhcgahiaaDoorW.PrintWords Go.Proofs.YtknllhfhcgahiaaDoorW.PrintLast Go.Proofs.YtknllhfhcgahiaaDoorW.PrintMore
attribute [local go_sem] max2_int min2_int max_two min_two max_three min_three max_four min_four   -- for this text's walks alone
open Go.Proofs.YtknllhfhcgahiaaDoorW.PrintWords renaming below_alloc → lA, pw_below_drewN → lN, below_drew1 → lD, below_step → lT
open Go.Proofs.YtknllhfhcgahiaaDoorW.PrintWords.Aside0 renaming mk → mK
set_option linter.unusedVariables false
set_option linter.unusedSimpArgs false

/-! ### impl_Sealed: function 95 -/
def impl_Sealed.f (k : Nat) (a0 : ByteArray) : Option (ByteArray) := if (a0.size : Int) > 60 then (some (⟨#[]⟩ : ByteArray)) else ((impl_zeros.f (wrap64 (60 - (a0.size : Int)))).bind fun t174 => (if a0.size + t174.size ≤ 9223372036854775807 then ((impl_Crc.f k (a0 ++ t174)).bind fun t175 => (if (a0 ++ t174).size + t175.size ≤ 9223372036854775807 then (some ((a0 ++ t174) ++ t175)) else (none))) else (none)))
theorem impl_Sealed.mono : ∀ a0 k, LeO (impl_Sealed.f k a0) (impl_Sealed.f (k + 1) a0) := by
  intro a0 k
  unfold impl_Sealed.f
  repeat' first
      | (with_reducible exact impl_Crc.mono _ _)
      | (with_reducible exact LeO.refl _)
      | (with_reducible exact LeO.none _)
      | (with_reducible refine LeO.ite ?_ ?_)
      | (with_reducible refine LeO.bind ?_ (fun _ => ?_))
      | exact impl_Crc.mono _ _
      | exact LeO.none _
      | refine LeO.ite ?_ ?_
      | refine LeO.bind ?_ (fun _ => ?_)
set_option maxHeartbeats 8000000 in
set_option maxRecDepth 100000 in
theorem impl_Sealed.calls (k : Nat) (a0 : ByteArray) (r : ByteArray) (w : World) (h : impl_Sealed.f k a0 = some r) :
    Calls Tryd.prog 95 #[.string a0] w fun e w' => e = .returned (.string r) ∧ Below w.heap.size w w' := by
 have HB := mK (Below.refl w.heap.size w); have H : (if (a0.size : Int) > 60 then (some (⟨#[]⟩ : ByteArray)) else ((impl_zeros.f (wrap64 (60 - (a0.size : Int)))).bind fun t174 => (if a0.size + t174.size ≤ 9223372036854775807 then ((impl_Crc.f k (a0 ++ t174)).bind fun t175 => (if (a0 ++ t174).size + t175.size ≤ 9223372036854775807 then (some ((a0 ++ t174) ++ t175)) else (none))) else (none)))) = some r := h; clear h; by_cases c2 : (a0.size : Int) > 60
 ·rw [if_pos c2] at H; have c2b0 : decide (60 < (a0.size : Int)) = true := decide_eq_true c2; have c2b1 : decide (60 < a0.size) = true := decide_eq_true (by omega); clear c2; obtain rfl := Option.some.inj H; go_enter Tryd.func95, Tryd.ntmps95; go_wp2; go_ret; exact ⟨by first | rfl | (simp [errW_none, errW_some] <;> rfl) | (simp [*, errW_none, errW_some] <;> rfl), by repeat (first | (with_reducible first | exact HB.out | apply lA | apply lN | apply lD) | exact HB.out)⟩
 ·rw [if_neg c2] at H; have c2b0 : decide (60 < (a0.size : Int)) = false := decide_eq_false c2; have c2b1 : decide (60 < a0.size) = false := decide_eq_false (by omega); clear c2; replace H := Option.bind_eq_some_iff.mp H; obtain ⟨t174, A30, H⟩ := H; replace H : (if a0.size + t174.size ≤ 9223372036854775807 then ((impl_Crc.f k (a0 ++ t174)).bind fun t175 => (if (a0 ++ t174).size + t175.size ≤ 9223372036854775807 then (some ((a0 ++ t174) ++ t175)) else (none))) else (none)) = some r := H; have A3 := mK A30; clear A30; by_cases c4 : a0.size + t174.size ≤ 9223372036854775807
  ·rw [if_pos c4] at H; have c4b0 := eq_true c4; have c4b1 : decide (a0.size + t174.size ≤ 9223372036854775807) = true := decide_eq_true c4; (try have c4b2 : (9223372036854775807 < a0.size + t174.size) = False := eq_false (Nat.not_lt.2 c4)); replace H := Option.bind_eq_some_iff.mp H; obtain ⟨t175, A50, H⟩ := H; replace H : (if (a0 ++ t174).size + t175.size ≤ 9223372036854775807 then (some ((a0 ++ t174) ++ t175)) else (none)) = some r := H; have A5 := mK A50; clear A50; by_cases c6 : (a0 ++ t174).size + t175.size ≤ 9223372036854775807
   ·rw [if_pos c6] at H; have c6b0 := eq_true c6; have c6b1 : decide ((a0 ++ t174).size + t175.size ≤ 9223372036854775807) = true := decide_eq_true c6; (try have c6b2 : (9223372036854775807 < (a0 ++ t174).size + t175.size) = False := eq_false (Nat.not_lt.2 c6)); (try (have c6b5 := c6b0; simp only [ByteArray.size_append] at c6b5)); (try (have c6b6 := c6b1; simp only [ByteArray.size_append] at c6b6)); (try (have c6b7 := c6b2; simp only [ByteArray.size_append] at c6b7)); obtain rfl := Option.some.inj H; go_enter Tryd.func95, Tryd.ntmps95; go_wp2_with (first | ((with_reducible refine gate_callee (f := 98) rfl ?_); refine goesL_ (some 10) rfl rfl Tryd.func98 (by kernel_rfl) rfl #[.int .i64 (wrap64 (60 - (a0.size : Int)))] rfl (by (try simp only [List.map_toArray, List.map_cons, List.map_nil]); first | done | rfl | (simp only [List.length_drop, List.length_take]; rfl) | ((try simp only [decide_eq_false_iff_not, decide_eq_true_eq, eq_iff_iff, iff_true, iff_false, Int.not_lt, Int.not_le, Nat.not_lt, Nat.not_le, ByteArray.size_append, ByteArray.size_extract] at *); (rw [show wrap64 (60 - (a0.size : Int)) = 60 - (a0.size : Int) from by unfold Go.RowKit.wrap64; omega]); rfl)) ?_; (with_reducible refine (impl_zeros.calls (wrap64 (60 - (a0.size : Int))) t174 _ A3.out).mono ?_); rintro e w7 ⟨rfl, hb⟩; refine ⟨_, rfl, ?_⟩; have n0_ := mK (lT (by repeat (first | (with_reducible first | exact HB.out | apply lA | apply lN | apply lD) | exact HB.out)) hb); clear HB; have HB := n0_; clear n0_; (try clear hb); (try clear hb2); (try clear hk); (try clear hi)) | ((with_reducible refine gate_callee (f := 123) rfl ?_); refine goesL_ (some 14) rfl rfl Tryd.func123 (by kernel_rfl) rfl #[.string (a0 ++ t174)] rfl (by (try simp only [List.map_toArray, List.map_cons, List.map_nil]); first | done | rfl | (simp only [List.length_drop, List.length_take]; rfl)) ?_; (with_reducible refine (impl_Crc.calls k (a0 ++ t174) t175 _ A5.out).mono ?_); rintro e w8 ⟨rfl, hb⟩; refine ⟨_, rfl, ?_⟩; have n0_ := mK (lT (by repeat (first | (with_reducible first | exact HB.out | apply lA | apply lN | apply lD) | exact HB.out)) hb); clear HB; have HB := n0_; clear n0_; (try clear hb); (try clear hb2); (try clear hk); (try clear hi))); go_ret; exact ⟨by first | rfl | (simp [errW_none, errW_some] <;> rfl) | (simp [*, errW_none, errW_some] <;> rfl), by repeat (first | (with_reducible first | exact HB.out | apply lA | apply lN | apply lD) | exact HB.out)⟩
   (·rw [if_neg c6] at H; exact absurd H (by simp))
  (·rw [if_neg c4] at H; exact absurd H (by simp))

end Go.Proofs.YtknllhfhcgahiaaDoor.PFnExactSuperLine
