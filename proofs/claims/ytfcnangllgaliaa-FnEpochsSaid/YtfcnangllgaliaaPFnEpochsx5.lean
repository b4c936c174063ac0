-- by a patched copy of the print (wip/tools/patch_print.py)
import Derived.Test.YtfcnangllgaliaaPFnEpochsx0
import Derived.Test.YtfcnangllgaliaaPFnEpochsx1
import Derived.Test.YtfcnangllgaliaaPFnEpochsx2
import Derived.Test.YtfcnangllgaliaaPFnEpochsx3
import Derived.Test.YtfcnangllgaliaaPFnEpochsx4
namespace Go.Proofs.Ytfcnangllgaliaa.PFnEpochs
open Go.RowKit Go.Proofs.YtfcnangllgaliaaW.PrintWords Go.Proofs.YtfcnangllgaliaaW.PrintLast Go.Proofs.YtfcnangllgaliaaW.PrintMore
attribute [local go_sem] max2_int min2_int max_two min_two max_three min_three max_four min_four   -- for this text's walks alone
set_option linter.unusedVariables false
set_option linter.unusedSimpArgs false

/-! ### laws_FnEpochs: function 16 -/
mutual
def laws_FnEpochs.j0 : Nat → List Int → List Int → Bool → Option (Bool)
  | 0, _, _, _ => none
  | k + 1, x0, x1, x20 => if x20 = true then (some true) else ((spec_DrawEpochLine.f k x0).bind fun t201 => ((spec_DrawEpochLine.f k x1).bind fun t202 => ((spec_DrawReadEpoch.f k x0).bind fun t203 => ((impl_ReadEpoch.f k t203).bind fun bt204 => ((spec_ReadEpoch.f k t203).bind fun bt206 => ((impl_EpochLine.f k t201).bind fun t208 => (if (bt204.2 != bt206.2) = true then (laws_FnEpochs.j1 k t201 t202 t208 true) else (if bt204.1 = bt206.1 then (if bt204.2 = true then ((impl_EpochLine.f k bt204.1).bind fun t209 => (if t209.toList = t203.toList then ((spec_EpochLine.f k t201).bind fun t210 => (laws_FnEpochs.j1 k t201 t202 t208 (t208.toList != t210.toList))) else (laws_FnEpochs.j1 k t201 t202 t208 true))) else ((spec_EpochLine.f k t201).bind fun t211 => (laws_FnEpochs.j1 k t201 t202 t208 (t208.toList != t211.toList)))) else (laws_FnEpochs.j1 k t201 t202 t208 true)))))))))
def laws_FnEpochs.j1 : Nat → Int → Int → ByteArray → Bool → Option (Bool)
  | 0, _, _, _, _ => none
  | k + 1, x5, x6, x12, x61 => if x61 = true then (some false) else ((impl_ReadEpoch.f k x12).bind fun bt212 => (if x5 ≥ 0 then (if (bt212.2 == (decide (x5 ≤ 1000000000))) = true then (if bt212.2 = true then (if bt212.1 = x5 then (if x5 = x6 then (some true) else ((impl_EpochLine.f k x6).bind fun t214 => (some (t214.toList != x12.toList)))) else (some false)) else (some true)) else (some false)) else (if (bt212.2 == false) = true then (if bt212.2 = true then (if bt212.1 = x5 then (if x5 = x6 then (some true) else ((impl_EpochLine.f k x6).bind fun t215 => (some (t215.toList != x12.toList)))) else (some false)) else (some true)) else (some false))))
end
def laws_FnEpochs.f (k : Nat) (l0 : List Int) (l1 : List Int) : Option (Bool) := (laws_big.f l0).bind fun t199 => (if t199 = true then (laws_FnEpochs.j0 k l0 l1 true) else ((laws_big.f l1).bind fun t200 => (laws_FnEpochs.j0 k l0 l1 t200)))
theorem laws_FnEpochs.mono_l : ∀ k, (∀ y0 y1 y2, LeO (laws_FnEpochs.j0 k y0 y1 y2) (laws_FnEpochs.j0 (k + 1) y0 y1 y2)) ∧ (∀ y0 y1 y2 y3, LeO (laws_FnEpochs.j1 k y0 y1 y2 y3) (laws_FnEpochs.j1 (k + 1) y0 y1 y2 y3))
  | 0 => ⟨fun _ _ _ r h => by simp [laws_FnEpochs.j0] at h, fun _ _ _ _ r h => by simp [laws_FnEpochs.j1] at h⟩
  | k + 1 => by
    obtain ⟨ih0, ih1⟩ := laws_FnEpochs.mono_l k
    refine ⟨?_, ?_⟩
    · intro y0 y1 y2
      unfold laws_FnEpochs.j0
      repeat' first
      | (with_reducible exact ih0 _ _ _)
      | (with_reducible exact ih1 _ _ _ _)
      | (with_reducible exact impl_EpochLine.mono _ _)
      | (with_reducible exact impl_ReadEpoch.mono _ _)
      | (with_reducible exact spec_DrawEpochLine.mono _ _)
      | (with_reducible exact spec_DrawReadEpoch.mono _ _)
      | (with_reducible exact spec_EpochLine.mono _ _)
      | (with_reducible exact spec_ReadEpoch.mono _ _)
      | (with_reducible exact LeO.refl _)
      | (with_reducible exact LeO.none _)
      | (with_reducible refine LeO.ite ?_ ?_)
      | (with_reducible refine LeO.bind ?_ (fun _ => ?_))
      | exact ih0 _ _ _
      | exact ih1 _ _ _ _
      | exact impl_EpochLine.mono _ _
      | exact impl_ReadEpoch.mono _ _
      | exact spec_DrawEpochLine.mono _ _
      | exact spec_DrawReadEpoch.mono _ _
      | exact spec_EpochLine.mono _ _
      | exact spec_ReadEpoch.mono _ _
      | exact LeO.none _
      | refine LeO.ite ?_ ?_
      | refine LeO.bind ?_ (fun _ => ?_)
    · intro y0 y1 y2 y3
      unfold laws_FnEpochs.j1
      repeat' first
      | (with_reducible exact ih0 _ _ _)
      | (with_reducible exact ih1 _ _ _ _)
      | (with_reducible exact impl_EpochLine.mono _ _)
      | (with_reducible exact impl_ReadEpoch.mono _ _)
      | (with_reducible exact spec_DrawEpochLine.mono _ _)
      | (with_reducible exact spec_DrawReadEpoch.mono _ _)
      | (with_reducible exact spec_EpochLine.mono _ _)
      | (with_reducible exact spec_ReadEpoch.mono _ _)
      | (with_reducible exact LeO.refl _)
      | (with_reducible exact LeO.none _)
      | (with_reducible refine LeO.ite ?_ ?_)
      | (with_reducible refine LeO.bind ?_ (fun _ => ?_))
      | exact ih0 _ _ _
      | exact ih1 _ _ _ _
      | exact impl_EpochLine.mono _ _
      | exact impl_ReadEpoch.mono _ _
      | exact spec_DrawEpochLine.mono _ _
      | exact spec_DrawReadEpoch.mono _ _
      | exact spec_EpochLine.mono _ _
      | exact spec_ReadEpoch.mono _ _
      | exact LeO.none _
      | refine LeO.ite ?_ ?_
      | refine LeO.bind ?_ (fun _ => ?_)
theorem laws_FnEpochs.mono : ∀ a0 a1 k, LeO (laws_FnEpochs.f k a0 a1) (laws_FnEpochs.f (k + 1) a0 a1) := by
  intro a0 a1 k
  obtain ⟨ih0, ih1⟩ := laws_FnEpochs.mono_l k
  unfold laws_FnEpochs.f
  repeat' first
      | (with_reducible exact ih0 _ _ _)
      | (with_reducible exact ih1 _ _ _ _)
      | (with_reducible exact impl_EpochLine.mono _ _)
      | (with_reducible exact impl_ReadEpoch.mono _ _)
      | (with_reducible exact spec_DrawEpochLine.mono _ _)
      | (with_reducible exact spec_DrawReadEpoch.mono _ _)
      | (with_reducible exact spec_EpochLine.mono _ _)
      | (with_reducible exact spec_ReadEpoch.mono _ _)
      | (with_reducible exact LeO.refl _)
      | (with_reducible exact LeO.none _)
      | (with_reducible refine LeO.ite ?_ ?_)
      | (with_reducible refine LeO.bind ?_ (fun _ => ?_))
      | exact ih0 _ _ _
      | exact ih1 _ _ _ _
      | exact impl_EpochLine.mono _ _
      | exact impl_ReadEpoch.mono _ _
      | exact spec_DrawEpochLine.mono _ _
      | exact spec_DrawReadEpoch.mono _ _
      | exact spec_EpochLine.mono _ _
      | exact spec_ReadEpoch.mono _ _
      | exact LeO.none _
      | refine LeO.ite ?_ ?_
      | refine LeO.bind ?_ (fun _ => ?_)
set_option maxHeartbeats 8000000 in
set_option maxRecDepth 100000 in
theorem laws_FnEpochs.calls (k : Nat) (A0 : Option Addr) (c0 : Nat) (l0 : List Int) (A1 : Option Addr) (c1 : Nat) (l1 : List Int) (r : Bool) (w : World) (hr0 : Kd.C (Kd.int .u8) w A0 l0.length l0) (hc0 : l0.length ≤ c0) (hr1 : Kd.C (Kd.int .u8) w A1 l1.length l1) (hc1 : l1.length ≤ c1) (h : laws_FnEpochs.f k l0 l1 = some r) :
    Calls Try.prog 16 #[.slice A0 l0.length c0, .slice A1 l1.length c1] w fun e w' => e = .returned (.bool r) ∧ Below w.heap.size w w' := by
  have HR0 := Aside0.mk hr0
  have HC0 := Aside0.mk hc0
  clear hr0 hc0
  have HR1 := Aside0.mk hr1
  have HC1 := Aside0.mk hc1
  clear hr1 hc1
  have HB := Aside0.mk (Below.refl w.heap.size w)
  have H : ((laws_big.f l0).bind fun t199 => (if t199 = true then (laws_FnEpochs.j0 k l0 l1 true) else ((laws_big.f l1).bind fun t200 => (laws_FnEpochs.j0 k l0 l1 t200)))) = some r := h
  clear h
  have HC3 := Aside0.mk H
  clear H
  go_enter Try.func16, Try.ntmps16
  go_upto_region 1 with (fail)
  go_cut [20] (fun v20 wc => ∃ (kq : Nat) (x20_2 : Bool), v20 = .bool x20_2 ∧ Aside0 (laws_FnEpochs.j0 kq l0 l1 x20_2 = some r) ∧ Aside0 (kq ≤ k) ∧ Aside0 (Below w.heap.size w wc))
  case first =>
    have H := HC3.out
    clear HC3
    replace H := Option.bind_eq_some_iff.mp H
    obtain ⟨t199, A40, H⟩ := H
    replace H : (if t199 = true then (laws_FnEpochs.j0 k l0 l1 true) else ((laws_big.f l1).bind fun t200 => (laws_FnEpochs.j0 k l0 l1 t200))) = some r := H
    have A4 := Aside0.mk A40
    clear A40
    by_cases c5 : t199 = true
    · subst c5
      have H1 : (laws_FnEpochs.j0 k l0 l1 true) = some r := by rw [if_pos rfl] at H; exact H
      clear H
      have H := H1
      clear H1
      have H' := Aside0.mk H
      clear H
      go_wp2_with (first | ((with_reducible refine gate_callee (f := 46) rfl ?_); refine goesL_ (some 16) rfl rfl Try.func46 (by kernel_rfl) rfl #[.slice A0 l0.length c0] rfl (by (try simp only [List.map_toArray, List.map_cons, List.map_nil]); first | done | rfl | (simp only [List.length_drop, List.length_take]; rfl)) ?_; (with_reducible refine (laws_big.calls _ _ l0 true _ ?side1 ?side2 A4.out).mono ?_); (case side1 => repeat (first | exact (Kd.C_below HR0.out HB.out) | (with_reducible refine Kd.C_alloc ?_ _) | (with_reducible refine Kd.C_drewN ?_ _) | (with_reducible refine Kd.C_drew ?_))); (case side2 => exact HC0.out); rintro e w' ⟨rfl, ⟨nd, rfl⟩⟩; refine ⟨_, rfl, ?_⟩))
      go_meet
      case rel => exact ⟨_, (true), (by first | rfl | (simp; done) | (simp [*]; done)), H', ⟨by first | omega | exact Nat.le_refl _⟩, ⟨by repeat (first | (with_reducible first | exact HB.out | apply below_alloc | apply pw_below_drewN | apply below_drew1) | exact HB.out)⟩⟩
    · replace c5 := Bool.eq_false_iff.mpr c5
      subst c5
      have H1 : ((laws_big.f l1).bind fun t200 => (laws_FnEpochs.j0 k l0 l1 t200)) = some r := by rw [if_neg (show ¬ (false = true) by decide)] at H; exact H
      clear H
      have H := H1
      clear H1
      replace H := Option.bind_eq_some_iff.mp H
      obtain ⟨t200, A60, H⟩ := H
      replace H : (laws_FnEpochs.j0 k l0 l1 t200) = some r := H
      have A6 := Aside0.mk A60
      clear A60
      have H' := Aside0.mk H
      clear H
      go_wp2_with (first | ((with_reducible refine gate_callee (f := 46) rfl ?_); refine goesL_ (some 16) rfl rfl Try.func46 (by kernel_rfl) rfl #[.slice A0 l0.length c0] rfl (by (try simp only [List.map_toArray, List.map_cons, List.map_nil]); first | done | rfl | (simp only [List.length_drop, List.length_take]; rfl)) ?_; (with_reducible refine (laws_big.calls _ _ l0 false _ ?side1 ?side2 A4.out).mono ?_); (case side1 => repeat (first | exact (Kd.C_below HR0.out HB.out) | (with_reducible refine Kd.C_alloc ?_ _) | (with_reducible refine Kd.C_drewN ?_ _) | (with_reducible refine Kd.C_drew ?_))); (case side2 => exact HC0.out); rintro e w' ⟨rfl, ⟨nd, rfl⟩⟩; refine ⟨_, rfl, ?_⟩) | (go_at_call 46; (with_reducible refine (laws_big.calls _ _ l1 t200 _ ?side1 ?side2 A6.out).mono ?_); (case side1 => repeat (first | exact (Kd.C_below HR1.out (by repeat (first | (with_reducible first | exact HB.out | apply below_alloc | apply pw_below_drewN | apply below_drew1) | exact HB.out))) | (with_reducible refine Kd.C_alloc ?_ _) | (with_reducible refine Kd.C_drewN ?_ _) | (with_reducible refine Kd.C_drew ?_))); (case side2 => exact HC1.out); rintro e w' ⟨rfl, ⟨nd, rfl⟩⟩))
      go_meet
      case rel => exact ⟨_, (t200), (by first | rfl | (simp; done) | (simp [*]; done)), H', ⟨by first | omega | exact Nat.le_refl _⟩, ⟨by repeat (first | (with_reducible first | exact HB.out | apply below_alloc | apply pw_below_drewN | apply below_drew1) | exact HB.out)⟩⟩
  case rest =>
    clear HC3
    try clear c1
    try clear p2
    try clear c4
    try clear c5
    obtain ⟨kq, x20_2, rfl, HA, HJ2, HB⟩ := hcut
    cases kq with
    | zero => exact absurd HA.out (by simp [laws_FnEpochs.j0])
    | succ kj2 =>
      have H := HA.out
      clear HA
      simp only [laws_FnEpochs.j0] at H
      by_cases c7 : x20_2 = true
      · subst c7
        have H1 : (some true) = some r := by rw [if_pos rfl] at H; exact H
        clear H
        have H := H1
        clear H1
        obtain rfl := Option.some.inj H
        go_wp2
        go_ret
        exact ⟨by first | rfl | (simp [errW_none, errW_some] <;> rfl) | (simp [*, errW_none, errW_some] <;> rfl), by repeat (first | (with_reducible first | exact HB.out | apply below_alloc | apply pw_below_drewN | apply below_drew1) | exact HB.out)⟩
      · replace c7 := Bool.eq_false_iff.mpr c7
        subst c7
        have H1 : ((spec_DrawEpochLine.f kj2 l0).bind fun t201 => ((spec_DrawEpochLine.f kj2 l1).bind fun t202 => ((spec_DrawReadEpoch.f kj2 l0).bind fun t203 => ((impl_ReadEpoch.f kj2 t203).bind fun bt204 => ((spec_ReadEpoch.f kj2 t203).bind fun bt206 => ((impl_EpochLine.f kj2 t201).bind fun t208 => (if (bt204.2 != bt206.2) = true then (laws_FnEpochs.j1 kj2 t201 t202 t208 true) else (if bt204.1 = bt206.1 then (if bt204.2 = true then ((impl_EpochLine.f kj2 bt204.1).bind fun t209 => (if t209.toList = t203.toList then ((spec_EpochLine.f kj2 t201).bind fun t210 => (laws_FnEpochs.j1 kj2 t201 t202 t208 (t208.toList != t210.toList))) else (laws_FnEpochs.j1 kj2 t201 t202 t208 true))) else ((spec_EpochLine.f kj2 t201).bind fun t211 => (laws_FnEpochs.j1 kj2 t201 t202 t208 (t208.toList != t211.toList)))) else (laws_FnEpochs.j1 kj2 t201 t202 t208 true))))))))) = some r := by rw [if_neg (show ¬ (false = true) by decide)] at H; exact H
        clear H
        have H := H1
        clear H1
        replace H := Option.bind_eq_some_iff.mp H
        obtain ⟨t201, A80, H⟩ := H
        replace H : ((spec_DrawEpochLine.f kj2 l1).bind fun t202 => ((spec_DrawReadEpoch.f kj2 l0).bind fun t203 => ((impl_ReadEpoch.f kj2 t203).bind fun bt204 => ((spec_ReadEpoch.f kj2 t203).bind fun bt206 => ((impl_EpochLine.f kj2 t201).bind fun t208 => (if (bt204.2 != bt206.2) = true then (laws_FnEpochs.j1 kj2 t201 t202 t208 true) else (if bt204.1 = bt206.1 then (if bt204.2 = true then ((impl_EpochLine.f kj2 bt204.1).bind fun t209 => (if t209.toList = t203.toList then ((spec_EpochLine.f kj2 t201).bind fun t210 => (laws_FnEpochs.j1 kj2 t201 t202 t208 (t208.toList != t210.toList))) else (laws_FnEpochs.j1 kj2 t201 t202 t208 true))) else ((spec_EpochLine.f kj2 t201).bind fun t211 => (laws_FnEpochs.j1 kj2 t201 t202 t208 (t208.toList != t211.toList)))) else (laws_FnEpochs.j1 kj2 t201 t202 t208 true)))))))) = some r := H
        have A8 := Aside0.mk A80
        clear A80
        replace H := Option.bind_eq_some_iff.mp H
        obtain ⟨t202, A90, H⟩ := H
        replace H : ((spec_DrawReadEpoch.f kj2 l0).bind fun t203 => ((impl_ReadEpoch.f kj2 t203).bind fun bt204 => ((spec_ReadEpoch.f kj2 t203).bind fun bt206 => ((impl_EpochLine.f kj2 t201).bind fun t208 => (if (bt204.2 != bt206.2) = true then (laws_FnEpochs.j1 kj2 t201 t202 t208 true) else (if bt204.1 = bt206.1 then (if bt204.2 = true then ((impl_EpochLine.f kj2 bt204.1).bind fun t209 => (if t209.toList = t203.toList then ((spec_EpochLine.f kj2 t201).bind fun t210 => (laws_FnEpochs.j1 kj2 t201 t202 t208 (t208.toList != t210.toList))) else (laws_FnEpochs.j1 kj2 t201 t202 t208 true))) else ((spec_EpochLine.f kj2 t201).bind fun t211 => (laws_FnEpochs.j1 kj2 t201 t202 t208 (t208.toList != t211.toList)))) else (laws_FnEpochs.j1 kj2 t201 t202 t208 true))))))) = some r := H
        have A9 := Aside0.mk A90
        clear A90
        replace H := Option.bind_eq_some_iff.mp H
        obtain ⟨t203, A100, H⟩ := H
        replace H : ((impl_ReadEpoch.f kj2 t203).bind fun bt204 => ((spec_ReadEpoch.f kj2 t203).bind fun bt206 => ((impl_EpochLine.f kj2 t201).bind fun t208 => (if (bt204.2 != bt206.2) = true then (laws_FnEpochs.j1 kj2 t201 t202 t208 true) else (if bt204.1 = bt206.1 then (if bt204.2 = true then ((impl_EpochLine.f kj2 bt204.1).bind fun t209 => (if t209.toList = t203.toList then ((spec_EpochLine.f kj2 t201).bind fun t210 => (laws_FnEpochs.j1 kj2 t201 t202 t208 (t208.toList != t210.toList))) else (laws_FnEpochs.j1 kj2 t201 t202 t208 true))) else ((spec_EpochLine.f kj2 t201).bind fun t211 => (laws_FnEpochs.j1 kj2 t201 t202 t208 (t208.toList != t211.toList)))) else (laws_FnEpochs.j1 kj2 t201 t202 t208 true)))))) = some r := H
        have A10 := Aside0.mk A100
        clear A100
        replace H := Option.bind_eq_some_iff.mp H
        obtain ⟨⟨t204, t205⟩, A110, H⟩ := H
        replace H : ((spec_ReadEpoch.f kj2 t203).bind fun bt206 => ((impl_EpochLine.f kj2 t201).bind fun t208 => (if (t205 != bt206.2) = true then (laws_FnEpochs.j1 kj2 t201 t202 t208 true) else (if t204 = bt206.1 then (if t205 = true then ((impl_EpochLine.f kj2 t204).bind fun t209 => (if t209.toList = t203.toList then ((spec_EpochLine.f kj2 t201).bind fun t210 => (laws_FnEpochs.j1 kj2 t201 t202 t208 (t208.toList != t210.toList))) else (laws_FnEpochs.j1 kj2 t201 t202 t208 true))) else ((spec_EpochLine.f kj2 t201).bind fun t211 => (laws_FnEpochs.j1 kj2 t201 t202 t208 (t208.toList != t211.toList)))) else (laws_FnEpochs.j1 kj2 t201 t202 t208 true))))) = some r := H
        have A11 := Aside0.mk A110
        clear A110
        replace H := Option.bind_eq_some_iff.mp H
        obtain ⟨⟨t206, t207⟩, A120, H⟩ := H
        replace H : ((impl_EpochLine.f kj2 t201).bind fun t208 => (if (t205 != t207) = true then (laws_FnEpochs.j1 kj2 t201 t202 t208 true) else (if t204 = t206 then (if t205 = true then ((impl_EpochLine.f kj2 t204).bind fun t209 => (if t209.toList = t203.toList then ((spec_EpochLine.f kj2 t201).bind fun t210 => (laws_FnEpochs.j1 kj2 t201 t202 t208 (t208.toList != t210.toList))) else (laws_FnEpochs.j1 kj2 t201 t202 t208 true))) else ((spec_EpochLine.f kj2 t201).bind fun t211 => (laws_FnEpochs.j1 kj2 t201 t202 t208 (t208.toList != t211.toList)))) else (laws_FnEpochs.j1 kj2 t201 t202 t208 true)))) = some r := H
        have A12 := Aside0.mk A120
        clear A120
        replace H := Option.bind_eq_some_iff.mp H
        obtain ⟨t208, A130, H⟩ := H
        replace H : (if (t205 != t207) = true then (laws_FnEpochs.j1 kj2 t201 t202 t208 true) else (if t204 = t206 then (if t205 = true then ((impl_EpochLine.f kj2 t204).bind fun t209 => (if t209.toList = t203.toList then ((spec_EpochLine.f kj2 t201).bind fun t210 => (laws_FnEpochs.j1 kj2 t201 t202 t208 (t208.toList != t210.toList))) else (laws_FnEpochs.j1 kj2 t201 t202 t208 true))) else ((spec_EpochLine.f kj2 t201).bind fun t211 => (laws_FnEpochs.j1 kj2 t201 t202 t208 (t208.toList != t211.toList)))) else (laws_FnEpochs.j1 kj2 t201 t202 t208 true))) = some r := H
        have A13 := Aside0.mk A130
        clear A130
        have HC14 := Aside0.mk H
        clear H
        go_upto_region 9 with (first | ((with_reducible refine gate_callee (f := 63) rfl ?_); refine goesL_ (some 22) rfl rfl Try.func63 (by kernel_rfl) rfl #[.slice A0 l0.length c0] rfl (by (try simp only [List.map_toArray, List.map_cons, List.map_nil]); first | done | rfl | (simp only [List.length_drop, List.length_take]; rfl)) ?_; (with_reducible refine (spec_DrawEpochLine.calls kj2 _ _ l0 t201 _ ?side1 ?side2 A8.out).mono ?_); (case side1 => repeat (first | exact (Kd.C_below HR0.out HB.out) | (with_reducible refine Kd.C_alloc ?_ _) | (with_reducible refine Kd.C_drewN ?_ _) | (with_reducible refine Kd.C_drew ?_))); (case side2 => exact HC0.out); rintro e w15 ⟨rfl, hb⟩; refine ⟨_, rfl, ?_⟩; have n0_ := Aside0.mk (below_step (by repeat (first | (with_reducible first | exact HB.out | apply below_alloc | apply pw_below_drewN | apply below_drew1) | exact HB.out)) hb); clear HB; have HB := n0_; clear n0_; (try clear hb); (try clear hb2); (try clear hk); (try clear hi)) | ((with_reducible refine gate_callee (f := 63) rfl ?_); refine goesL_ (some 24) rfl rfl Try.func63 (by kernel_rfl) rfl #[.slice A1 l1.length c1] rfl (by (try simp only [List.map_toArray, List.map_cons, List.map_nil]); first | done | rfl | (simp only [List.length_drop, List.length_take]; rfl)) ?_; (with_reducible refine (spec_DrawEpochLine.calls kj2 _ _ l1 t202 _ ?side1 ?side2 A9.out).mono ?_); (case side1 => repeat (first | exact (Kd.C_below HR1.out HB.out) | (with_reducible refine Kd.C_alloc ?_ _) | (with_reducible refine Kd.C_drewN ?_ _) | (with_reducible refine Kd.C_drew ?_))); (case side2 => exact HC1.out); rintro e w16 ⟨rfl, hb⟩; refine ⟨_, rfl, ?_⟩; have n0_ := Aside0.mk (below_step (by repeat (first | (with_reducible first | exact HB.out | apply below_alloc | apply pw_below_drewN | apply below_drew1) | exact HB.out)) hb); clear HB; have HB := n0_; clear n0_; (try clear hb); (try clear hb2); (try clear hk); (try clear hi)) | ((with_reducible refine gate_callee (f := 64) rfl ?_); refine goesL_ (some 26) rfl rfl Try.func64 (by kernel_rfl) rfl #[.slice A0 l0.length c0] rfl (by (try simp only [List.map_toArray, List.map_cons, List.map_nil]); first | done | rfl | (simp only [List.length_drop, List.length_take]; rfl)) ?_; (with_reducible refine (spec_DrawReadEpoch.calls kj2 _ _ l0 t203 _ ?side1 ?side2 A10.out).mono ?_); (case side1 => repeat (first | exact (Kd.C_below HR0.out HB.out) | (with_reducible refine Kd.C_alloc ?_ _) | (with_reducible refine Kd.C_drewN ?_ _) | (with_reducible refine Kd.C_drew ?_))); (case side2 => exact HC0.out); rintro e w17 ⟨rfl, hb⟩; refine ⟨_, rfl, ?_⟩; have n0_ := Aside0.mk (below_step (by repeat (first | (with_reducible first | exact HB.out | apply below_alloc | apply pw_below_drewN | apply below_drew1) | exact HB.out)) hb); clear HB; have HB := n0_; clear n0_; (try clear hb); (try clear hb2); (try clear hk); (try clear hi)) | ((with_reducible refine gate_callee (f := 59) rfl ?_); refine goesL_ (some 29) rfl rfl Try.func59 (by kernel_rfl) rfl #[.string t203] rfl (by (try simp only [List.map_toArray, List.map_cons, List.map_nil]); first | done | rfl | (simp only [List.length_drop, List.length_take]; rfl)) ?_; (with_reducible refine (impl_ReadEpoch.calls kj2 t203 t204 t205 _ A11.out).mono ?_); rintro e w18 ⟨rfl, hb⟩; refine ⟨_, rfl, ?_⟩; have n0_ := Aside0.mk (below_step (by repeat (first | (with_reducible first | exact HB.out | apply below_alloc | apply pw_below_drewN | apply below_drew1) | exact HB.out)) hb); clear HB; have HB := n0_; clear n0_; (try clear hb); (try clear hb2); (try clear hk); (try clear hi)) | ((with_reducible refine gate_callee (f := 58) rfl ?_); refine goesL_ (some 34) rfl rfl Try.func58 (by kernel_rfl) rfl #[.string t203] rfl (by (try simp only [List.map_toArray, List.map_cons, List.map_nil]); first | done | rfl | (simp only [List.length_drop, List.length_take]; rfl)) ?_; (with_reducible refine (spec_ReadEpoch.calls kj2 t203 t206 t207 _ A12.out).mono ?_); rintro e w19 ⟨rfl, hb⟩; refine ⟨_, rfl, ?_⟩; have n0_ := Aside0.mk (below_step (by repeat (first | (with_reducible first | exact HB.out | apply below_alloc | apply pw_below_drewN | apply below_drew1) | exact HB.out)) hb); clear HB; have HB := n0_; clear n0_; (try clear hb); (try clear hb2); (try clear hk); (try clear hi)) | ((with_reducible refine gate_callee (f := 42) rfl ?_); refine goesL_ (some 38) rfl rfl Try.func42 (by kernel_rfl) rfl #[.int .i64 t201] rfl (by (try simp only [List.map_toArray, List.map_cons, List.map_nil]); first | done | rfl | (simp only [List.length_drop, List.length_take]; rfl)) ?_; (with_reducible refine (impl_EpochLine.calls kj2 t201 t208 _ A13.out).mono ?_); rintro e w20 ⟨rfl, hb⟩; refine ⟨_, rfl, ?_⟩; have n0_ := Aside0.mk (below_step (by repeat (first | (with_reducible first | exact HB.out | apply below_alloc | apply pw_below_drewN | apply below_drew1) | exact HB.out)) hb); clear HB; have HB := n0_; clear n0_; (try clear hb); (try clear hb2); (try clear hk); (try clear hi)))
        (try simp only [Act.put, List.setIfInBounds_toArray, List.set_cons_zero, List.set_cons_succ])
        go_cut [61] (fun v61 wc => ∃ (kq : Nat) (x61_13 : Bool), v61 = .bool x61_13 ∧ Aside0 (laws_FnEpochs.j1 kq t201 t202 t208 x61_13 = some r) ∧ Aside0 (kq ≤ kj2) ∧ Aside0 (Below w.heap.size w wc))
        case first =>
          have H := HC14.out
          clear HC14
          by_cases c21 : (t205 != t207) = true
          · rw [if_pos c21] at H
            have c21b0 : (t205 != t207) = true := c21
            (try (have c21b1 : decide (t205 = t207) = false := by simpa using c21))
            (try (have c21b2 : (t205 == t207) = false := by simpa using c21))
            (try (have c21b3 : ¬ (t205 = t207) := by simpa using c21))
            clear c21
            (first | rw [c21b0] | (simp only [i64_w, i32_w]; rw [c21b0]) | skip)
            have H' := Aside0.mk H
            clear H
            go_wp2
            go_meet
            case rel => exact ⟨_, (true), (by first | rfl | (simp; done) | (simp [*]; done)), H', ⟨by have := HJ2.out; first | omega | exact Nat.le_refl _⟩, ⟨by repeat (first | (with_reducible first | exact HB.out | apply below_alloc | apply pw_below_drewN | apply below_drew1) | exact HB.out)⟩⟩
          · rw [if_neg c21] at H
            have c21b0 : (t205 != t207) = false := by simpa using c21
            (try (have c21b1 : decide (t205 = t207) = true := by simpa using c21))
            (try (have c21b2 : (t205 == t207) = true := by simpa using c21))
            clear c21
            (first | rw [c21b0] | (simp only [i64_w, i32_w]; rw [c21b0]) | skip)
            by_cases c22 : t204 = t206
            · rw [if_pos c22] at H
              have c22b0 : (t204 == t206) = true := beq_iff_eq.mpr c22
              have c22b1 : (t204 != t206) = false := bne_eq_false_iff_eq.mpr c22
              clear c22
              by_cases c23 : t205 = true
              · subst c23
                have H1 : ((impl_EpochLine.f kj2 t204).bind fun t209 => (if t209.toList = t203.toList then ((spec_EpochLine.f kj2 t201).bind fun t210 => (laws_FnEpochs.j1 kj2 t201 t202 t208 (t208.toList != t210.toList))) else (laws_FnEpochs.j1 kj2 t201 t202 t208 true))) = some r := by rw [if_pos rfl] at H; exact H
                clear H
                have H := H1
                clear H1
                replace H := Option.bind_eq_some_iff.mp H
                obtain ⟨t209, A240, H⟩ := H
                replace H : (if t209.toList = t203.toList then ((spec_EpochLine.f kj2 t201).bind fun t210 => (laws_FnEpochs.j1 kj2 t201 t202 t208 (t208.toList != t210.toList))) else (laws_FnEpochs.j1 kj2 t201 t202 t208 true)) = some r := H
                have A24 := Aside0.mk A240
                clear A240
                by_cases c25 : t209.toList = t203.toList
                · rw [if_pos c25] at H
                  have c25b0 : (t209.toList == t203.toList) = true := beq_iff_eq.mpr c25
                  have c25b1 : (t209.toList != t203.toList) = false := bne_eq_false_iff_eq.mpr c25
                  clear c25
                  replace H := Option.bind_eq_some_iff.mp H
                  obtain ⟨t210, A260, H⟩ := H
                  replace H : (laws_FnEpochs.j1 kj2 t201 t202 t208 (t208.toList != t210.toList)) = some r := H
                  have A26 := Aside0.mk A260
                  clear A260
                  have H' := Aside0.mk H
                  clear H
                  go_wp2_with (first | (go_at_call 42; (with_reducible refine (impl_EpochLine.calls kj2 t204 t209 _ A24.out).mono ?_); rintro e w27 ⟨rfl, hb⟩; have n0_ := Aside0.mk (below_step (by repeat (first | (with_reducible first | exact HB.out | apply below_alloc | apply pw_below_drewN | apply below_drew1) | exact HB.out)) hb); clear HB; have HB := n0_; clear n0_; (try clear hb); (try clear hb2); (try clear hk); (try clear hi)) | (go_at_call 41; (with_reducible refine (spec_EpochLine.calls kj2 t201 t210 _ A26.out).mono ?_); rintro e w28 ⟨rfl, hb⟩; have n0_ := Aside0.mk (below_step (by repeat (first | (with_reducible first | exact HB.out | apply below_alloc | apply pw_below_drewN | apply below_drew1) | exact HB.out)) hb); clear HB; have HB := n0_; clear n0_; (try clear hb); (try clear hb2); (try clear hk); (try clear hi)))
                  go_meet
                  case rel => exact ⟨_, ((t208.toList != t210.toList)), (by first | rfl | (simp; done) | (simp [*]; done)), H', ⟨by have := HJ2.out; first | omega | exact Nat.le_refl _⟩, ⟨by repeat (first | (with_reducible first | exact HB.out | apply below_alloc | apply pw_below_drewN | apply below_drew1) | exact HB.out)⟩⟩
                · rw [if_neg c25] at H
                  have c25b0 : (t209.toList == t203.toList) = false := beq_eq_false_iff_ne.mpr c25
                  have c25b1 : (t209.toList != t203.toList) = true := bne_iff_ne.mpr c25
                  have H' := Aside0.mk H
                  clear H
                  go_wp2_with (first | (go_at_call 42; (with_reducible refine (impl_EpochLine.calls kj2 t204 t209 _ A24.out).mono ?_); rintro e w29 ⟨rfl, hb⟩; have n0_ := Aside0.mk (below_step (by repeat (first | (with_reducible first | exact HB.out | apply below_alloc | apply pw_below_drewN | apply below_drew1) | exact HB.out)) hb); clear HB; have HB := n0_; clear n0_; (try clear hb); (try clear hb2); (try clear hk); (try clear hi)))
                  go_meet
                  case rel => exact ⟨_, (true), (by first | rfl | (simp; done) | (simp [*]; done)), H', ⟨by have := HJ2.out; first | omega | exact Nat.le_refl _⟩, ⟨by repeat (first | (with_reducible first | exact HB.out | apply below_alloc | apply pw_below_drewN | apply below_drew1) | exact HB.out)⟩⟩
              · replace c23 := Bool.eq_false_iff.mpr c23
                subst c23
                have H1 : ((spec_EpochLine.f kj2 t201).bind fun t211 => (laws_FnEpochs.j1 kj2 t201 t202 t208 (t208.toList != t211.toList))) = some r := by rw [if_neg (show ¬ (false = true) by decide)] at H; exact H
                clear H
                have H := H1
                clear H1
                replace H := Option.bind_eq_some_iff.mp H
                obtain ⟨t211, A300, H⟩ := H
                replace H : (laws_FnEpochs.j1 kj2 t201 t202 t208 (t208.toList != t211.toList)) = some r := H
                have A30 := Aside0.mk A300
                clear A300
                have H' := Aside0.mk H
                clear H
                go_wp2_with (first | (go_at_call 41; (with_reducible refine (spec_EpochLine.calls kj2 t201 t211 _ A30.out).mono ?_); rintro e w31 ⟨rfl, hb⟩; have n0_ := Aside0.mk (below_step (by repeat (first | (with_reducible first | exact HB.out | apply below_alloc | apply pw_below_drewN | apply below_drew1) | exact HB.out)) hb); clear HB; have HB := n0_; clear n0_; (try clear hb); (try clear hb2); (try clear hk); (try clear hi)))
                go_meet
                case rel => exact ⟨_, ((t208.toList != t211.toList)), (by first | rfl | (simp; done) | (simp [*]; done)), H', ⟨by have := HJ2.out; first | omega | exact Nat.le_refl _⟩, ⟨by repeat (first | (with_reducible first | exact HB.out | apply below_alloc | apply pw_below_drewN | apply below_drew1) | exact HB.out)⟩⟩
            · rw [if_neg c22] at H
              have c22b0 : (t204 == t206) = false := beq_eq_false_iff_ne.mpr c22
              have c22b1 : (t204 != t206) = true := bne_iff_ne.mpr c22
              have H' := Aside0.mk H
              clear H
              go_wp2
              go_meet
              case rel => exact ⟨_, (true), (by first | rfl | (simp; done) | (simp [*]; done)), H', ⟨by have := HJ2.out; first | omega | exact Nat.le_refl _⟩, ⟨by repeat (first | (with_reducible first | exact HB.out | apply below_alloc | apply pw_below_drewN | apply below_drew1) | exact HB.out)⟩⟩
        case rest =>
          clear HC14
          try clear c1
          try clear c2
          try clear p2
          try clear c4
          try clear c5
          try clear c6
          try clear c7
          try clear c16
          try clear c21
          try clear c21b0
          try clear c21b1
          try clear c21b2
          try clear c22
          try clear c22b0
          try clear c22b1
          try clear c23
          try clear c25
          try clear c25b0
          try clear c25b1
          try clear p2
          obtain ⟨kq, x61_13, rfl, HA, HJ13, HB⟩ := hcut
          cases kq with
          | zero => exact absurd HA.out (by simp [laws_FnEpochs.j1])
          | succ kj13 =>
            have H := HA.out
            clear HA
            simp only [laws_FnEpochs.j1] at H
            by_cases c32 : x61_13 = true
            · subst c32
              have H1 : (some false) = some r := by rw [if_pos rfl] at H; exact H
              clear H
              have H := H1
              clear H1
              obtain rfl := Option.some.inj H
              go_wp2
              go_ret
              exact ⟨by first | rfl | (simp [errW_none, errW_some] <;> rfl) | (simp [*, errW_none, errW_some] <;> rfl), by repeat (first | (with_reducible first | exact HB.out | apply below_alloc | apply pw_below_drewN | apply below_drew1) | exact HB.out)⟩
            · replace c32 := Bool.eq_false_iff.mpr c32
              subst c32
              have H1 : ((impl_ReadEpoch.f kj13 t208).bind fun bt212 => (if t201 ≥ 0 then (if (bt212.2 == (decide (t201 ≤ 1000000000))) = true then (if bt212.2 = true then (if bt212.1 = t201 then (if t201 = t202 then (some true) else ((impl_EpochLine.f kj13 t202).bind fun t214 => (some (t214.toList != t208.toList)))) else (some false)) else (some true)) else (some false)) else (if (bt212.2 == false) = true then (if bt212.2 = true then (if bt212.1 = t201 then (if t201 = t202 then (some true) else ((impl_EpochLine.f kj13 t202).bind fun t215 => (some (t215.toList != t208.toList)))) else (some false)) else (some true)) else (some false)))) = some r := by rw [if_neg (show ¬ (false = true) by decide)] at H; exact H
              clear H
              have H := H1
              clear H1
              replace H := Option.bind_eq_some_iff.mp H
              obtain ⟨⟨t212, t213⟩, A330, H⟩ := H
              replace H : (if t201 ≥ 0 then (if (t213 == (decide (t201 ≤ 1000000000))) = true then (if t213 = true then (if t212 = t201 then (if t201 = t202 then (some true) else ((impl_EpochLine.f kj13 t202).bind fun t214 => (some (t214.toList != t208.toList)))) else (some false)) else (some true)) else (some false)) else (if (t213 == false) = true then (if t213 = true then (if t212 = t201 then (if t201 = t202 then (some true) else ((impl_EpochLine.f kj13 t202).bind fun t215 => (some (t215.toList != t208.toList)))) else (some false)) else (some true)) else (some false))) = some r := H
              have A33 := Aside0.mk A330
              clear A330
              by_cases c34 : t201 ≥ 0
              · rw [if_pos c34] at H
                have c34b0 : decide (0 ≤ t201) = true := decide_eq_true c34
                clear c34
                by_cases c35 : (t213 == (decide (t201 ≤ 1000000000))) = true
                · rw [if_pos c35] at H
                  have c35b0 : (t213 == (decide (t201 ≤ 1000000000))) = true := c35
                  (try (have c35b1 : decide (t213 = (decide (t201 ≤ 1000000000))) = true := by simpa using c35))
                  (try (have c35b2 : (t213 == (decide (t201 ≤ 1000000000))) = true := by simpa using c35))
                  clear c35
                  by_cases c36 : t213 = true
                  · subst c36
                    have H1 : (if t212 = t201 then (if t201 = t202 then (some true) else ((impl_EpochLine.f kj13 t202).bind fun t214 => (some (t214.toList != t208.toList)))) else (some false)) = some r := by rw [if_pos rfl] at H; exact H
                    clear H
                    have H := H1
                    clear H1
                    by_cases c37 : t212 = t201
                    · rw [if_pos c37] at H
                      have c37b0 : (t212 == t201) = true := beq_iff_eq.mpr c37
                      have c37b1 : (t212 != t201) = false := bne_eq_false_iff_eq.mpr c37
                      clear c37
                      by_cases c38 : t201 = t202
                      · rw [if_pos c38] at H
                        have c38b0 : (t201 == t202) = true := beq_iff_eq.mpr c38
                        have c38b1 : (t201 != t202) = false := bne_eq_false_iff_eq.mpr c38
                        clear c38
                        obtain rfl := Option.some.inj H
                        go_wp2_with (first | ((with_reducible refine gate_callee (f := 59) rfl ?_); refine goesL_ (some 64) rfl rfl Try.func59 (by kernel_rfl) rfl #[.string t208] rfl (by (try simp only [List.map_toArray, List.map_cons, List.map_nil]); first | done | rfl | (simp only [List.length_drop, List.length_take]; rfl)) ?_; (with_reducible refine (impl_ReadEpoch.calls kj13 t208 t212 true _ A33.out).mono ?_); rintro e w39 ⟨rfl, hb⟩; refine ⟨_, rfl, ?_⟩; have n0_ := Aside0.mk (below_step (by repeat (first | (with_reducible first | exact HB.out | apply below_alloc | apply pw_below_drewN | apply below_drew1) | exact HB.out)) hb); clear HB; have HB := n0_; clear n0_; (try clear hb); (try clear hb2); (try clear hk); (try clear hi)))
                        go_ret
                        exact ⟨by first | rfl | (simp [errW_none, errW_some] <;> rfl) | (simp [*, errW_none, errW_some] <;> rfl), by repeat (first | (with_reducible first | exact HB.out | apply below_alloc | apply pw_below_drewN | apply below_drew1) | exact HB.out)⟩
                      · rw [if_neg c38] at H
                        have c38b0 : (t201 == t202) = false := beq_eq_false_iff_ne.mpr c38
                        have c38b1 : (t201 != t202) = true := bne_iff_ne.mpr c38
                        replace H := Option.bind_eq_some_iff.mp H
                        obtain ⟨t214, A400, H⟩ := H
                        replace H : (some (t214.toList != t208.toList)) = some r := H
                        have A40 := Aside0.mk A400
                        clear A400
                        obtain rfl := Option.some.inj H
                        go_wp2_with (first | ((with_reducible refine gate_callee (f := 59) rfl ?_); refine goesL_ (some 64) rfl rfl Try.func59 (by kernel_rfl) rfl #[.string t208] rfl (by (try simp only [List.map_toArray, List.map_cons, List.map_nil]); first | done | rfl | (simp only [List.length_drop, List.length_take]; rfl)) ?_; (with_reducible refine (impl_ReadEpoch.calls kj13 t208 t212 true _ A33.out).mono ?_); rintro e w41 ⟨rfl, hb⟩; refine ⟨_, rfl, ?_⟩; have n0_ := Aside0.mk (below_step (by repeat (first | (with_reducible first | exact HB.out | apply below_alloc | apply pw_below_drewN | apply below_drew1) | exact HB.out)) hb); clear HB; have HB := n0_; clear n0_; (try clear hb); (try clear hb2); (try clear hk); (try clear hi)) | (go_at_call 42; (with_reducible refine (impl_EpochLine.calls kj13 t202 t214 _ A40.out).mono ?_); rintro e w42 ⟨rfl, hb⟩; have n0_ := Aside0.mk (below_step (by repeat (first | (with_reducible first | exact HB.out | apply below_alloc | apply pw_below_drewN | apply below_drew1) | exact HB.out)) hb); clear HB; have HB := n0_; clear n0_; (try clear hb); (try clear hb2); (try clear hk); (try clear hi)))
                        go_ret
                        exact ⟨by first | rfl | (simp [errW_none, errW_some] <;> rfl) | (simp [*, errW_none, errW_some] <;> rfl), by repeat (first | (with_reducible first | exact HB.out | apply below_alloc | apply pw_below_drewN | apply below_drew1) | exact HB.out)⟩
                    · rw [if_neg c37] at H
                      have c37b0 : (t212 == t201) = false := beq_eq_false_iff_ne.mpr c37
                      have c37b1 : (t212 != t201) = true := bne_iff_ne.mpr c37
                      obtain rfl := Option.some.inj H
                      go_wp2_with (first | ((with_reducible refine gate_callee (f := 59) rfl ?_); refine goesL_ (some 64) rfl rfl Try.func59 (by kernel_rfl) rfl #[.string t208] rfl (by (try simp only [List.map_toArray, List.map_cons, List.map_nil]); first | done | rfl | (simp only [List.length_drop, List.length_take]; rfl)) ?_; (with_reducible refine (impl_ReadEpoch.calls kj13 t208 t212 true _ A33.out).mono ?_); rintro e w43 ⟨rfl, hb⟩; refine ⟨_, rfl, ?_⟩; have n0_ := Aside0.mk (below_step (by repeat (first | (with_reducible first | exact HB.out | apply below_alloc | apply pw_below_drewN | apply below_drew1) | exact HB.out)) hb); clear HB; have HB := n0_; clear n0_; (try clear hb); (try clear hb2); (try clear hk); (try clear hi)))
                      go_ret
                      exact ⟨by first | rfl | (simp [errW_none, errW_some] <;> rfl) | (simp [*, errW_none, errW_some] <;> rfl), by repeat (first | (with_reducible first | exact HB.out | apply below_alloc | apply pw_below_drewN | apply below_drew1) | exact HB.out)⟩
                  · replace c36 := Bool.eq_false_iff.mpr c36
                    subst c36
                    have H1 : (some true) = some r := by rw [if_neg (show ¬ (false = true) by decide)] at H; exact H
                    clear H
                    have H := H1
                    clear H1
                    obtain rfl := Option.some.inj H
                    go_wp2_with (first | ((with_reducible refine gate_callee (f := 59) rfl ?_); refine goesL_ (some 64) rfl rfl Try.func59 (by kernel_rfl) rfl #[.string t208] rfl (by (try simp only [List.map_toArray, List.map_cons, List.map_nil]); first | done | rfl | (simp only [List.length_drop, List.length_take]; rfl)) ?_; (with_reducible refine (impl_ReadEpoch.calls kj13 t208 t212 false _ A33.out).mono ?_); rintro e w44 ⟨rfl, hb⟩; refine ⟨_, rfl, ?_⟩; have n0_ := Aside0.mk (below_step (by repeat (first | (with_reducible first | exact HB.out | apply below_alloc | apply pw_below_drewN | apply below_drew1) | exact HB.out)) hb); clear HB; have HB := n0_; clear n0_; (try clear hb); (try clear hb2); (try clear hk); (try clear hi)))
                    go_ret
                    exact ⟨by first | rfl | (simp [errW_none, errW_some] <;> rfl) | (simp [*, errW_none, errW_some] <;> rfl), by repeat (first | (with_reducible first | exact HB.out | apply below_alloc | apply pw_below_drewN | apply below_drew1) | exact HB.out)⟩
                · rw [if_neg c35] at H
                  have c35b0 : (t213 == (decide (t201 ≤ 1000000000))) = false := by simpa using c35
                  (try (have c35b1 : decide (t213 = (decide (t201 ≤ 1000000000))) = false := by simpa using c35))
                  (try (have c35b2 : (t213 == (decide (t201 ≤ 1000000000))) = false := by simpa using c35))
                  (try (have c35b3 : ¬ (t213 = (decide (t201 ≤ 1000000000))) := by simpa using c35))
                  clear c35
                  obtain rfl := Option.some.inj H
                  go_wp2_with (first | ((with_reducible refine gate_callee (f := 59) rfl ?_); refine goesL_ (some 64) rfl rfl Try.func59 (by kernel_rfl) rfl #[.string t208] rfl (by (try simp only [List.map_toArray, List.map_cons, List.map_nil]); first | done | rfl | (simp only [List.length_drop, List.length_take]; rfl)) ?_; (with_reducible refine (impl_ReadEpoch.calls kj13 t208 t212 t213 _ A33.out).mono ?_); rintro e w45 ⟨rfl, hb⟩; refine ⟨_, rfl, ?_⟩; have n0_ := Aside0.mk (below_step (by repeat (first | (with_reducible first | exact HB.out | apply below_alloc | apply pw_below_drewN | apply below_drew1) | exact HB.out)) hb); clear HB; have HB := n0_; clear n0_; (try clear hb); (try clear hb2); (try clear hk); (try clear hi)))
                  go_ret
                  exact ⟨by first | rfl | (simp [errW_none, errW_some] <;> rfl) | (simp [*, errW_none, errW_some] <;> rfl), by repeat (first | (with_reducible first | exact HB.out | apply below_alloc | apply pw_below_drewN | apply below_drew1) | exact HB.out)⟩
              · rw [if_neg c34] at H
                have c34b0 : decide (0 ≤ t201) = false := decide_eq_false c34
                clear c34
                by_cases c46 : (t213 == false) = true
                · rw [if_pos c46] at H
                  have c46b0 : (t213 == false) = true := c46
                  (try (have c46b1 : decide (t213 = false) = true := by simpa using c46))
                  (try (have c46b2 : (t213 == false) = true := by simpa using c46))
                  clear c46
                  by_cases c47 : t213 = true
                  · subst c47
                    have H1 : (if t212 = t201 then (if t201 = t202 then (some true) else ((impl_EpochLine.f kj13 t202).bind fun t215 => (some (t215.toList != t208.toList)))) else (some false)) = some r := by rw [if_pos rfl] at H; exact H
                    clear H
                    have H := H1
                    clear H1
                    by_cases c48 : t212 = t201
                    · rw [if_pos c48] at H
                      have c48b0 : (t212 == t201) = true := beq_iff_eq.mpr c48
                      have c48b1 : (t212 != t201) = false := bne_eq_false_iff_eq.mpr c48
                      clear c48
                      by_cases c49 : t201 = t202
                      · rw [if_pos c49] at H
                        have c49b0 : (t201 == t202) = true := beq_iff_eq.mpr c49
                        have c49b1 : (t201 != t202) = false := bne_eq_false_iff_eq.mpr c49
                        clear c49
                        obtain rfl := Option.some.inj H
                        go_wp2_with (first | ((with_reducible refine gate_callee (f := 59) rfl ?_); refine goesL_ (some 64) rfl rfl Try.func59 (by kernel_rfl) rfl #[.string t208] rfl (by (try simp only [List.map_toArray, List.map_cons, List.map_nil]); first | done | rfl | (simp only [List.length_drop, List.length_take]; rfl)) ?_; (with_reducible refine (impl_ReadEpoch.calls kj13 t208 t212 true _ A33.out).mono ?_); rintro e w50 ⟨rfl, hb⟩; refine ⟨_, rfl, ?_⟩; have n0_ := Aside0.mk (below_step (by repeat (first | (with_reducible first | exact HB.out | apply below_alloc | apply pw_below_drewN | apply below_drew1) | exact HB.out)) hb); clear HB; have HB := n0_; clear n0_; (try clear hb); (try clear hb2); (try clear hk); (try clear hi)))
                        go_ret
                        exact ⟨by first | rfl | (simp [errW_none, errW_some] <;> rfl) | (simp [*, errW_none, errW_some] <;> rfl), by repeat (first | (with_reducible first | exact HB.out | apply below_alloc | apply pw_below_drewN | apply below_drew1) | exact HB.out)⟩
                      · rw [if_neg c49] at H
                        have c49b0 : (t201 == t202) = false := beq_eq_false_iff_ne.mpr c49
                        have c49b1 : (t201 != t202) = true := bne_iff_ne.mpr c49
                        replace H := Option.bind_eq_some_iff.mp H
                        obtain ⟨t215, A510, H⟩ := H
                        replace H : (some (t215.toList != t208.toList)) = some r := H
                        have A51 := Aside0.mk A510
                        clear A510
                        obtain rfl := Option.some.inj H
                        go_wp2_with (first | ((with_reducible refine gate_callee (f := 59) rfl ?_); refine goesL_ (some 64) rfl rfl Try.func59 (by kernel_rfl) rfl #[.string t208] rfl (by (try simp only [List.map_toArray, List.map_cons, List.map_nil]); first | done | rfl | (simp only [List.length_drop, List.length_take]; rfl)) ?_; (with_reducible refine (impl_ReadEpoch.calls kj13 t208 t212 true _ A33.out).mono ?_); rintro e w52 ⟨rfl, hb⟩; refine ⟨_, rfl, ?_⟩; have n0_ := Aside0.mk (below_step (by repeat (first | (with_reducible first | exact HB.out | apply below_alloc | apply pw_below_drewN | apply below_drew1) | exact HB.out)) hb); clear HB; have HB := n0_; clear n0_; (try clear hb); (try clear hb2); (try clear hk); (try clear hi)) | (go_at_call 42; (with_reducible refine (impl_EpochLine.calls kj13 t202 t215 _ A51.out).mono ?_); rintro e w53 ⟨rfl, hb⟩; have n0_ := Aside0.mk (below_step (by repeat (first | (with_reducible first | exact HB.out | apply below_alloc | apply pw_below_drewN | apply below_drew1) | exact HB.out)) hb); clear HB; have HB := n0_; clear n0_; (try clear hb); (try clear hb2); (try clear hk); (try clear hi)))
                        go_ret
                        exact ⟨by first | rfl | (simp [errW_none, errW_some] <;> rfl) | (simp [*, errW_none, errW_some] <;> rfl), by repeat (first | (with_reducible first | exact HB.out | apply below_alloc | apply pw_below_drewN | apply below_drew1) | exact HB.out)⟩
                    · rw [if_neg c48] at H
                      have c48b0 : (t212 == t201) = false := beq_eq_false_iff_ne.mpr c48
                      have c48b1 : (t212 != t201) = true := bne_iff_ne.mpr c48
                      obtain rfl := Option.some.inj H
                      go_wp2_with (first | ((with_reducible refine gate_callee (f := 59) rfl ?_); refine goesL_ (some 64) rfl rfl Try.func59 (by kernel_rfl) rfl #[.string t208] rfl (by (try simp only [List.map_toArray, List.map_cons, List.map_nil]); first | done | rfl | (simp only [List.length_drop, List.length_take]; rfl)) ?_; (with_reducible refine (impl_ReadEpoch.calls kj13 t208 t212 true _ A33.out).mono ?_); rintro e w54 ⟨rfl, hb⟩; refine ⟨_, rfl, ?_⟩; have n0_ := Aside0.mk (below_step (by repeat (first | (with_reducible first | exact HB.out | apply below_alloc | apply pw_below_drewN | apply below_drew1) | exact HB.out)) hb); clear HB; have HB := n0_; clear n0_; (try clear hb); (try clear hb2); (try clear hk); (try clear hi)))
                      go_ret
                      exact ⟨by first | rfl | (simp [errW_none, errW_some] <;> rfl) | (simp [*, errW_none, errW_some] <;> rfl), by repeat (first | (with_reducible first | exact HB.out | apply below_alloc | apply pw_below_drewN | apply below_drew1) | exact HB.out)⟩
                  · replace c47 := Bool.eq_false_iff.mpr c47
                    subst c47
                    have H1 : (some true) = some r := by rw [if_neg (show ¬ (false = true) by decide)] at H; exact H
                    clear H
                    have H := H1
                    clear H1
                    obtain rfl := Option.some.inj H
                    go_wp2_with (first | ((with_reducible refine gate_callee (f := 59) rfl ?_); refine goesL_ (some 64) rfl rfl Try.func59 (by kernel_rfl) rfl #[.string t208] rfl (by (try simp only [List.map_toArray, List.map_cons, List.map_nil]); first | done | rfl | (simp only [List.length_drop, List.length_take]; rfl)) ?_; (with_reducible refine (impl_ReadEpoch.calls kj13 t208 t212 false _ A33.out).mono ?_); rintro e w55 ⟨rfl, hb⟩; refine ⟨_, rfl, ?_⟩; have n0_ := Aside0.mk (below_step (by repeat (first | (with_reducible first | exact HB.out | apply below_alloc | apply pw_below_drewN | apply below_drew1) | exact HB.out)) hb); clear HB; have HB := n0_; clear n0_; (try clear hb); (try clear hb2); (try clear hk); (try clear hi)))
                    go_ret
                    exact ⟨by first | rfl | (simp [errW_none, errW_some] <;> rfl) | (simp [*, errW_none, errW_some] <;> rfl), by repeat (first | (with_reducible first | exact HB.out | apply below_alloc | apply pw_below_drewN | apply below_drew1) | exact HB.out)⟩
                · rw [if_neg c46] at H
                  have c46b0 : (t213 == false) = false := by simpa using c46
                  (try (have c46b1 : decide (t213 = false) = false := by simpa using c46))
                  (try (have c46b2 : (t213 == false) = false := by simpa using c46))
                  (try (have c46b3 : ¬ (t213 = false) := by simpa using c46))
                  clear c46
                  obtain rfl := Option.some.inj H
                  go_wp2_with (first | ((with_reducible refine gate_callee (f := 59) rfl ?_); refine goesL_ (some 64) rfl rfl Try.func59 (by kernel_rfl) rfl #[.string t208] rfl (by (try simp only [List.map_toArray, List.map_cons, List.map_nil]); first | done | rfl | (simp only [List.length_drop, List.length_take]; rfl)) ?_; (with_reducible refine (impl_ReadEpoch.calls kj13 t208 t212 t213 _ A33.out).mono ?_); rintro e w56 ⟨rfl, hb⟩; refine ⟨_, rfl, ?_⟩; have n0_ := Aside0.mk (below_step (by repeat (first | (with_reducible first | exact HB.out | apply below_alloc | apply pw_below_drewN | apply below_drew1) | exact HB.out)) hb); clear HB; have HB := n0_; clear n0_; (try clear hb); (try clear hb2); (try clear hk); (try clear hi)))
                  go_ret
                  exact ⟨by first | rfl | (simp [errW_none, errW_some] <;> rfl) | (simp [*, errW_none, errW_some] <;> rfl), by repeat (first | (with_reducible first | exact HB.out | apply below_alloc | apply pw_below_drewN | apply below_drew1) | exact HB.out)⟩

/-- THE ONE PURE STATEMENT of laws_FnEpochs: yours. -/
def laws_FnEpochs.Pure : Prop := ∀ (l0 : List Int) (l1 : List Int), l0.length ≤ maxLen → l0.length * 1 ≤ 140737488351232 → (∀ x ∈ l0, (Lit.int .u8 x).wf = true) → l1.length ≤ maxLen → l1.length * 1 ≤ 140737488351232 → (∀ x ∈ l1, (Lit.int .u8 x).wf = true) → ∃ k, laws_FnEpochs.f k l0 l1 = some true
theorem laws_FnEpochs.walk (P : laws_FnEpochs.Pure) (a0 : Option Addr) (len0 cap0 : Nat) (z0 : List Int) (a1 : Option Addr) (len1 cap1 : Nat) (z1 : List Int) (w : World) (w0 : (a0 = none ∧ len0 = 0 ∧ cap0 = 0 ∧ z0 = []) ∨ ∃ x, a0 = some x ∧ len0 ≤ cap0 ∧ cap0 ≤ maxLen ∧ z0.length = cap0 ∧ (∀ i, i < z0.length → w.cell? (x.add i) = some (.int .u8 (z0.getD i 0))) ∧ ∀ n ∈ z0, (Lit.int .u8 n).wf = true) (y0 : len0 * 1 ≤ 140737488351232) (w1 : (a1 = none ∧ len1 = 0 ∧ cap1 = 0 ∧ z1 = []) ∨ ∃ x, a1 = some x ∧ len1 ≤ cap1 ∧ cap1 ≤ maxLen ∧ z1.length = cap1 ∧ (∀ i, i < z1.length → w.cell? (x.add i) = some (.int .u8 (z1.getD i 0))) ∧ ∀ n ∈ z1, (Lit.int .u8 n).wf = true) (y1 : len1 * 1 ≤ 140737488351232) :
    Calls Try.prog 16 #[.slice a0 len0 cap0, .slice a1 len1 cap1] w fun e w' => e = .returned (.bool true) ∧ Below w.heap.size w w' := by
  obtain ⟨l0, rfl, hr0, hm0, hw0, hc0⟩ := ReadsInt.ofRowC w0
  obtain ⟨l1, rfl, hr1, hm1, hw1, hc1⟩ := ReadsInt.ofRowC w1
  obtain ⟨k, h⟩ := P l0 l1 hm0 y0 hw0 hm1 y1 hw1
  refine (laws_FnEpochs.calls k _ _ l0 _ _ l1 true w (Kd.C_of_reads (d := (0 : Int)) (h1 := fun _ => rfl) hr0) hc0 (Kd.C_of_reads (d := (0 : Int)) (h1 := fun _ => rfl) hr1) hc1 h).mono ?_
  rintro e w' ⟨rfl, hd⟩
  exact ⟨rfl, hd⟩

end Go.Proofs.Ytfcnangllgaliaa.PFnEpochs
