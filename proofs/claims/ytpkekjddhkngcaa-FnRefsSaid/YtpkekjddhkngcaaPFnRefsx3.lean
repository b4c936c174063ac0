-- by a patched copy of the print (wip/tools/patch_print.py)
import Derived.Test.YtpkekjddhkngcaaPFnRefsx0
import Derived.Test.YtpkekjddhkngcaaPFnRefsx1
import Derived.Test.YtpkekjddhkngcaaPFnRefsx2
namespace Go.Proofs.Ytpkekjddhkngcaa.PFnRefs
open Go.RowKit Go.Proofs.YtpkekjddhkngcaaW.PrintWords Go.Proofs.YtpkekjddhkngcaaW.PrintLast Go.Proofs.YtpkekjddhkngcaaW.PrintMore
attribute [local go_sem] max2_int min2_int max_two min_two max_three min_three max_four min_four   -- for this text's walks alone
set_option linter.unusedVariables false
set_option linter.unusedSimpArgs false

/-! ### spec_PlaceOf: function 24 -/
def spec_PlaceOf.f (k : Nat) (a0 : Int) : Option (Int) := (spec_RefKind.f k a0).bind fun t164 => (if t164 < 1 then (some (-1)) else (some (wrap64 (Int.tdiv a0 2))))
theorem spec_PlaceOf.mono : ∀ a0 k, LeO (spec_PlaceOf.f k a0) (spec_PlaceOf.f (k + 1) a0) := by
  intro a0 k
  unfold spec_PlaceOf.f
  repeat' first
      | (with_reducible exact spec_RefKind.mono _ _)
      | (with_reducible exact LeO.refl _)
      | (with_reducible exact LeO.none _)
      | (with_reducible refine LeO.ite ?_ ?_)
      | (with_reducible refine LeO.bind ?_ (fun _ => ?_))
      | exact spec_RefKind.mono _ _
      | exact LeO.none _
      | refine LeO.ite ?_ ?_
      | refine LeO.bind ?_ (fun _ => ?_)
set_option maxHeartbeats 8000000 in
set_option maxRecDepth 100000 in
theorem spec_PlaceOf.calls (k : Nat) (a0 : Int) (r : Int) (w : World) (h : spec_PlaceOf.f k a0 = some r) :
    Calls Try.prog 24 #[.int .i64 a0] w fun e w' => e = .returned (.int .i64 r) ∧ Drawn0 w w' := by
  have H : ((spec_RefKind.f k a0).bind fun t164 => (if t164 < 1 then (some (-1)) else (some (wrap64 (Int.tdiv a0 2))))) = some r := h
  clear h
  replace H := Option.bind_eq_some_iff.mp H
  obtain ⟨t164, A20, H⟩ := H
  replace H : (if t164 < 1 then (some (-1)) else (some (wrap64 (Int.tdiv a0 2)))) = some r := H
  have A2 := Aside0.mk A20
  clear A20
  by_cases c3 : t164 < 1
  · rw [if_pos c3] at H
    have c3b0 : decide (t164 < 1) = true := decide_eq_true c3
    clear c3
    obtain rfl := Option.some.inj H
    go_enter Try.func24, Try.ntmps24
    go_wp2_with (first | ((with_reducible refine gate_callee (f := 22) rfl ?_); refine goesL_ (some 4) rfl rfl Try.func22 (by kernel_rfl) rfl #[.int .i64 a0] rfl (by (try simp only [List.map_toArray, List.map_cons, List.map_nil]); first | done | rfl | (simp only [List.length_drop, List.length_take]; rfl)) ?_; (with_reducible refine (spec_RefKind.calls k a0 t164 _ A2.out).mono ?_); rintro e w' ⟨rfl, ⟨nd, rfl⟩⟩; refine ⟨_, rfl, ?_⟩))
    go_ret
    exact ⟨by first | rfl | (simp; done) | (simp [*]; done), by repeat (first | exact Drawn0.refl _ | apply Drawn0.step)⟩
  · rw [if_neg c3] at H
    have c3b0 : decide (t164 < 1) = false := decide_eq_false c3
    clear c3
    obtain rfl := Option.some.inj H
    go_enter Try.func24, Try.ntmps24
    go_wp2_with (first | ((with_reducible refine gate_callee (f := 22) rfl ?_); refine goesL_ (some 4) rfl rfl Try.func22 (by kernel_rfl) rfl #[.int .i64 a0] rfl (by (try simp only [List.map_toArray, List.map_cons, List.map_nil]); first | done | rfl | (simp only [List.length_drop, List.length_take]; rfl)) ?_; (with_reducible refine (spec_RefKind.calls k a0 t164 _ A2.out).mono ?_); rintro e w' ⟨rfl, ⟨nd, rfl⟩⟩; refine ⟨_, rfl, ?_⟩))
    go_ret
    exact ⟨by first | rfl | (simp; done) | (simp [*]; done), by repeat (first | exact Drawn0.refl _ | apply Drawn0.step)⟩

/-! ### laws_FnRefs: function 5 -/
def laws_FnRefs.j0 : Nat → Int → Int → Int → Int → Int → Bool → Option (Bool)
  | 0, _, _, _, _, _, _ => none
  | k + 1, x3, x4, x5, x6, x7, x43 => if x43 = true then (some false) else (if x5 = 0 then (if x6 = 0 then ((impl_RefKind.f k 0).bind fun t177 => (if t177 = 0 then (if x7 = 0 then ((impl_PlaceOf.f k x7).bind fun t178 => (some (t178 == (-1)))) else (some true)) else (some false))) else ((impl_RefKind.f k x6).bind fun t179 => (if t179 = 2 then ((impl_PlaceOf.f k x6).bind fun t180 => (if t180 = x4 then ((impl_RefKind.f k 0).bind fun t181 => (if t181 = 0 then (if x7 = 0 then ((impl_PlaceOf.f k x7).bind fun t182 => (some (t182 == (-1)))) else (some true)) else (some false))) else (some false))) else (some false)))) else ((impl_RefKind.f k x5).bind fun t183 => (if t183 = 1 then ((impl_PlaceOf.f k x5).bind fun t184 => (if t184 = x3 then (if x6 = 0 then ((impl_RefKind.f k 0).bind fun t185 => (if t185 = 0 then (if x7 = 0 then ((impl_PlaceOf.f k x7).bind fun t186 => (some (t186 == (-1)))) else (some true)) else (some false))) else ((impl_RefKind.f k x6).bind fun t187 => (if t187 = 2 then ((impl_PlaceOf.f k x6).bind fun t188 => (if t188 = x4 then ((impl_RefKind.f k 0).bind fun t189 => (if t189 = 0 then (if x7 = 0 then ((impl_PlaceOf.f k x7).bind fun t190 => (some (t190 == (-1)))) else (some true)) else (some false))) else (some false))) else (some false)))) else (some false))) else (some false))))
def laws_FnRefs.f (k : Nat) (l0 : List Int) : Option (Bool) := (laws_big.f l0).bind fun t165 => (if t165 = true then (some true) else ((spec_DrawOldRef.f k l0).bind fun t166 => ((spec_DrawYoungRef.f k l0).bind fun t167 => ((impl_OldRef.f t166).bind fun t168 => ((impl_YoungRef.f t167).bind fun t169 => ((spec_DrawRefKind.f k l0).bind fun t170 => ((spec_OldRef.f t166).bind fun t171 => (if t168 = t171 then ((spec_YoungRef.f t167).bind fun t172 => (if t169 = t172 then ((impl_RefKind.f k t170).bind fun t173 => ((spec_RefKind.f k t170).bind fun t174 => (if t173 = t174 then ((impl_PlaceOf.f k t170).bind fun t175 => ((spec_PlaceOf.f k t170).bind fun t176 => (laws_FnRefs.j0 k t166 t167 t168 t169 t170 (t175 != t176)))) else (laws_FnRefs.j0 k t166 t167 t168 t169 t170 true)))) else (laws_FnRefs.j0 k t166 t167 t168 t169 t170 true))) else (laws_FnRefs.j0 k t166 t167 t168 t169 t170 true)))))))))
theorem laws_FnRefs.mono_l : ∀ k, (∀ y0 y1 y2 y3 y4 y5, LeO (laws_FnRefs.j0 k y0 y1 y2 y3 y4 y5) (laws_FnRefs.j0 (k + 1) y0 y1 y2 y3 y4 y5))
  | 0 => fun _ _ _ _ _ _ r h => by simp [laws_FnRefs.j0] at h
  | k + 1 => by
    have ih0 := laws_FnRefs.mono_l k
    · intro y0 y1 y2 y3 y4 y5
      unfold laws_FnRefs.j0
      repeat' first
      | (with_reducible exact ih0 _ _ _ _ _ _)
      | (with_reducible exact impl_PlaceOf.mono _ _)
      | (with_reducible exact impl_RefKind.mono _ _)
      | (with_reducible exact spec_DrawOldRef.mono _ _)
      | (with_reducible exact spec_DrawRefKind.mono _ _)
      | (with_reducible exact spec_DrawYoungRef.mono _ _)
      | (with_reducible exact spec_PlaceOf.mono _ _)
      | (with_reducible exact spec_RefKind.mono _ _)
      | (with_reducible exact LeO.refl _)
      | (with_reducible exact LeO.none _)
      | (with_reducible refine LeO.ite ?_ ?_)
      | (with_reducible refine LeO.bind ?_ (fun _ => ?_))
      | exact ih0 _ _ _ _ _ _
      | exact impl_PlaceOf.mono _ _
      | exact impl_RefKind.mono _ _
      | exact spec_DrawOldRef.mono _ _
      | exact spec_DrawRefKind.mono _ _
      | exact spec_DrawYoungRef.mono _ _
      | exact spec_PlaceOf.mono _ _
      | exact spec_RefKind.mono _ _
      | exact LeO.none _
      | refine LeO.ite ?_ ?_
      | refine LeO.bind ?_ (fun _ => ?_)
theorem laws_FnRefs.mono : ∀ a0 k, LeO (laws_FnRefs.f k a0) (laws_FnRefs.f (k + 1) a0) := by
  intro a0 k
  have ih0 := laws_FnRefs.mono_l k
  unfold laws_FnRefs.f
  repeat' first
      | (with_reducible exact ih0 _ _ _ _ _ _)
      | (with_reducible exact impl_PlaceOf.mono _ _)
      | (with_reducible exact impl_RefKind.mono _ _)
      | (with_reducible exact spec_DrawOldRef.mono _ _)
      | (with_reducible exact spec_DrawRefKind.mono _ _)
      | (with_reducible exact spec_DrawYoungRef.mono _ _)
      | (with_reducible exact spec_PlaceOf.mono _ _)
      | (with_reducible exact spec_RefKind.mono _ _)
      | (with_reducible exact LeO.refl _)
      | (with_reducible exact LeO.none _)
      | (with_reducible refine LeO.ite ?_ ?_)
      | (with_reducible refine LeO.bind ?_ (fun _ => ?_))
      | exact ih0 _ _ _ _ _ _
      | exact impl_PlaceOf.mono _ _
      | exact impl_RefKind.mono _ _
      | exact spec_DrawOldRef.mono _ _
      | exact spec_DrawRefKind.mono _ _
      | exact spec_DrawYoungRef.mono _ _
      | exact spec_PlaceOf.mono _ _
      | exact spec_RefKind.mono _ _
      | exact LeO.none _
      | refine LeO.ite ?_ ?_
      | refine LeO.bind ?_ (fun _ => ?_)
set_option maxHeartbeats 8000000 in
set_option maxRecDepth 100000 in
theorem laws_FnRefs.calls (k : Nat) (A0 : Option Addr) (c0 : Nat) (l0 : List Int) (r : Bool) (w : World) (hr0 : Kd.C (Kd.int .u8) w A0 l0.length l0) (hc0 : l0.length ≤ c0) (h : laws_FnRefs.f k l0 = some r) :
    Calls Try.prog 5 #[.slice A0 l0.length c0] w fun e w' => e = .returned (.bool r) ∧ Below w.heap.size w w' := by
  have HR0 := Aside0.mk hr0
  have HC0 := Aside0.mk hc0
  clear hr0 hc0
  have HB := Aside0.mk (Below.refl w.heap.size w)
  have H : ((laws_big.f l0).bind fun t165 => (if t165 = true then (some true) else ((spec_DrawOldRef.f k l0).bind fun t166 => ((spec_DrawYoungRef.f k l0).bind fun t167 => ((impl_OldRef.f t166).bind fun t168 => ((impl_YoungRef.f t167).bind fun t169 => ((spec_DrawRefKind.f k l0).bind fun t170 => ((spec_OldRef.f t166).bind fun t171 => (if t168 = t171 then ((spec_YoungRef.f t167).bind fun t172 => (if t169 = t172 then ((impl_RefKind.f k t170).bind fun t173 => ((spec_RefKind.f k t170).bind fun t174 => (if t173 = t174 then ((impl_PlaceOf.f k t170).bind fun t175 => ((spec_PlaceOf.f k t170).bind fun t176 => (laws_FnRefs.j0 k t166 t167 t168 t169 t170 (t175 != t176)))) else (laws_FnRefs.j0 k t166 t167 t168 t169 t170 true)))) else (laws_FnRefs.j0 k t166 t167 t168 t169 t170 true))) else (laws_FnRefs.j0 k t166 t167 t168 t169 t170 true)))))))))) = some r := h
  clear h
  replace H := Option.bind_eq_some_iff.mp H
  obtain ⟨t165, A20, H⟩ := H
  replace H : (if t165 = true then (some true) else ((spec_DrawOldRef.f k l0).bind fun t166 => ((spec_DrawYoungRef.f k l0).bind fun t167 => ((impl_OldRef.f t166).bind fun t168 => ((impl_YoungRef.f t167).bind fun t169 => ((spec_DrawRefKind.f k l0).bind fun t170 => ((spec_OldRef.f t166).bind fun t171 => (if t168 = t171 then ((spec_YoungRef.f t167).bind fun t172 => (if t169 = t172 then ((impl_RefKind.f k t170).bind fun t173 => ((spec_RefKind.f k t170).bind fun t174 => (if t173 = t174 then ((impl_PlaceOf.f k t170).bind fun t175 => ((spec_PlaceOf.f k t170).bind fun t176 => (laws_FnRefs.j0 k t166 t167 t168 t169 t170 (t175 != t176)))) else (laws_FnRefs.j0 k t166 t167 t168 t169 t170 true)))) else (laws_FnRefs.j0 k t166 t167 t168 t169 t170 true))) else (laws_FnRefs.j0 k t166 t167 t168 t169 t170 true))))))))) = some r := H
  have A2 := Aside0.mk A20
  clear A20
  by_cases c3 : t165 = true
  · subst c3
    have H1 : (some true) = some r := by rw [if_pos rfl] at H; exact H
    clear H
    have H := H1
    clear H1
    obtain rfl := Option.some.inj H
    go_enter Try.func5, Try.ntmps5
    go_wp2_with (first | ((with_reducible refine gate_callee (f := 8) rfl ?_); refine goesL_ (some 9) rfl rfl Try.func8 (by kernel_rfl) rfl #[.slice A0 l0.length c0] rfl (by (try simp only [List.map_toArray, List.map_cons, List.map_nil]); first | done | rfl | (simp only [List.length_drop, List.length_take]; rfl)) ?_; (with_reducible refine (laws_big.calls _ _ l0 true _ ?side1 ?side2 A2.out).mono ?_); (case side1 => repeat (first | exact HR0.out | (with_reducible refine Kd.C_alloc ?_ _) | (with_reducible refine Kd.C_drewN ?_ _) | (with_reducible refine Kd.C_drew ?_))); (case side2 => exact HC0.out); rintro e w' ⟨rfl, ⟨nd, rfl⟩⟩; refine ⟨_, rfl, ?_⟩))
    go_ret
    exact ⟨by first | rfl | (simp [errW_none, errW_some] <;> rfl) | (simp [*, errW_none, errW_some] <;> rfl), by repeat (first | (with_reducible first | exact HB.out | apply below_alloc | apply pw_below_drewN | apply below_drew1) | exact HB.out)⟩
  · replace c3 := Bool.eq_false_iff.mpr c3
    subst c3
    have H1 : ((spec_DrawOldRef.f k l0).bind fun t166 => ((spec_DrawYoungRef.f k l0).bind fun t167 => ((impl_OldRef.f t166).bind fun t168 => ((impl_YoungRef.f t167).bind fun t169 => ((spec_DrawRefKind.f k l0).bind fun t170 => ((spec_OldRef.f t166).bind fun t171 => (if t168 = t171 then ((spec_YoungRef.f t167).bind fun t172 => (if t169 = t172 then ((impl_RefKind.f k t170).bind fun t173 => ((spec_RefKind.f k t170).bind fun t174 => (if t173 = t174 then ((impl_PlaceOf.f k t170).bind fun t175 => ((spec_PlaceOf.f k t170).bind fun t176 => (laws_FnRefs.j0 k t166 t167 t168 t169 t170 (t175 != t176)))) else (laws_FnRefs.j0 k t166 t167 t168 t169 t170 true)))) else (laws_FnRefs.j0 k t166 t167 t168 t169 t170 true))) else (laws_FnRefs.j0 k t166 t167 t168 t169 t170 true)))))))) = some r := by rw [if_neg (show ¬ (false = true) by decide)] at H; exact H
    clear H
    have H := H1
    clear H1
    replace H := Option.bind_eq_some_iff.mp H
    obtain ⟨t166, A40, H⟩ := H
    replace H : ((spec_DrawYoungRef.f k l0).bind fun t167 => ((impl_OldRef.f t166).bind fun t168 => ((impl_YoungRef.f t167).bind fun t169 => ((spec_DrawRefKind.f k l0).bind fun t170 => ((spec_OldRef.f t166).bind fun t171 => (if t168 = t171 then ((spec_YoungRef.f t167).bind fun t172 => (if t169 = t172 then ((impl_RefKind.f k t170).bind fun t173 => ((spec_RefKind.f k t170).bind fun t174 => (if t173 = t174 then ((impl_PlaceOf.f k t170).bind fun t175 => ((spec_PlaceOf.f k t170).bind fun t176 => (laws_FnRefs.j0 k t166 t167 t168 t169 t170 (t175 != t176)))) else (laws_FnRefs.j0 k t166 t167 t168 t169 t170 true)))) else (laws_FnRefs.j0 k t166 t167 t168 t169 t170 true))) else (laws_FnRefs.j0 k t166 t167 t168 t169 t170 true))))))) = some r := H
    have A4 := Aside0.mk A40
    clear A40
    replace H := Option.bind_eq_some_iff.mp H
    obtain ⟨t167, A50, H⟩ := H
    replace H : ((impl_OldRef.f t166).bind fun t168 => ((impl_YoungRef.f t167).bind fun t169 => ((spec_DrawRefKind.f k l0).bind fun t170 => ((spec_OldRef.f t166).bind fun t171 => (if t168 = t171 then ((spec_YoungRef.f t167).bind fun t172 => (if t169 = t172 then ((impl_RefKind.f k t170).bind fun t173 => ((spec_RefKind.f k t170).bind fun t174 => (if t173 = t174 then ((impl_PlaceOf.f k t170).bind fun t175 => ((spec_PlaceOf.f k t170).bind fun t176 => (laws_FnRefs.j0 k t166 t167 t168 t169 t170 (t175 != t176)))) else (laws_FnRefs.j0 k t166 t167 t168 t169 t170 true)))) else (laws_FnRefs.j0 k t166 t167 t168 t169 t170 true))) else (laws_FnRefs.j0 k t166 t167 t168 t169 t170 true)))))) = some r := H
    have A5 := Aside0.mk A50
    clear A50
    replace H := Option.bind_eq_some_iff.mp H
    obtain ⟨t168, A60, H⟩ := H
    replace H : ((impl_YoungRef.f t167).bind fun t169 => ((spec_DrawRefKind.f k l0).bind fun t170 => ((spec_OldRef.f t166).bind fun t171 => (if t168 = t171 then ((spec_YoungRef.f t167).bind fun t172 => (if t169 = t172 then ((impl_RefKind.f k t170).bind fun t173 => ((spec_RefKind.f k t170).bind fun t174 => (if t173 = t174 then ((impl_PlaceOf.f k t170).bind fun t175 => ((spec_PlaceOf.f k t170).bind fun t176 => (laws_FnRefs.j0 k t166 t167 t168 t169 t170 (t175 != t176)))) else (laws_FnRefs.j0 k t166 t167 t168 t169 t170 true)))) else (laws_FnRefs.j0 k t166 t167 t168 t169 t170 true))) else (laws_FnRefs.j0 k t166 t167 t168 t169 t170 true))))) = some r := H
    have A6 := Aside0.mk A60
    clear A60
    replace H := Option.bind_eq_some_iff.mp H
    obtain ⟨t169, A70, H⟩ := H
    replace H : ((spec_DrawRefKind.f k l0).bind fun t170 => ((spec_OldRef.f t166).bind fun t171 => (if t168 = t171 then ((spec_YoungRef.f t167).bind fun t172 => (if t169 = t172 then ((impl_RefKind.f k t170).bind fun t173 => ((spec_RefKind.f k t170).bind fun t174 => (if t173 = t174 then ((impl_PlaceOf.f k t170).bind fun t175 => ((spec_PlaceOf.f k t170).bind fun t176 => (laws_FnRefs.j0 k t166 t167 t168 t169 t170 (t175 != t176)))) else (laws_FnRefs.j0 k t166 t167 t168 t169 t170 true)))) else (laws_FnRefs.j0 k t166 t167 t168 t169 t170 true))) else (laws_FnRefs.j0 k t166 t167 t168 t169 t170 true)))) = some r := H
    have A7 := Aside0.mk A70
    clear A70
    replace H := Option.bind_eq_some_iff.mp H
    obtain ⟨t170, A80, H⟩ := H
    replace H : ((spec_OldRef.f t166).bind fun t171 => (if t168 = t171 then ((spec_YoungRef.f t167).bind fun t172 => (if t169 = t172 then ((impl_RefKind.f k t170).bind fun t173 => ((spec_RefKind.f k t170).bind fun t174 => (if t173 = t174 then ((impl_PlaceOf.f k t170).bind fun t175 => ((spec_PlaceOf.f k t170).bind fun t176 => (laws_FnRefs.j0 k t166 t167 t168 t169 t170 (t175 != t176)))) else (laws_FnRefs.j0 k t166 t167 t168 t169 t170 true)))) else (laws_FnRefs.j0 k t166 t167 t168 t169 t170 true))) else (laws_FnRefs.j0 k t166 t167 t168 t169 t170 true))) = some r := H
    have A8 := Aside0.mk A80
    clear A80
    have HC9 := Aside0.mk H
    clear H
    go_enter Try.func5, Try.ntmps5
    go_upto_region 8 with (first | ((with_reducible refine gate_callee (f := 8) rfl ?_); refine goesL_ (some 9) rfl rfl Try.func8 (by kernel_rfl) rfl #[.slice A0 l0.length c0] rfl (by (try simp only [List.map_toArray, List.map_cons, List.map_nil]); first | done | rfl | (simp only [List.length_drop, List.length_take]; rfl)) ?_; (with_reducible refine (laws_big.calls _ _ l0 false _ ?side1 ?side2 A2.out).mono ?_); (case side1 => repeat (first | exact HR0.out | (with_reducible refine Kd.C_alloc ?_ _) | (with_reducible refine Kd.C_drewN ?_ _) | (with_reducible refine Kd.C_drew ?_))); (case side2 => exact HC0.out); rintro e w' ⟨rfl, ⟨nd, rfl⟩⟩; refine ⟨_, rfl, ?_⟩) | ((with_reducible refine gate_callee (f := 14) rfl ?_); refine goesL_ (some 11) rfl rfl Try.func14 (by kernel_rfl) rfl #[.slice A0 l0.length c0] rfl (by (try simp only [List.map_toArray, List.map_cons, List.map_nil]); first | done | rfl | (simp only [List.length_drop, List.length_take]; rfl)) ?_; (with_reducible refine (spec_DrawOldRef.calls k _ _ l0 t166 _ ?side1 ?side2 A4.out).mono ?_); (case side1 => repeat (first | exact HR0.out | (with_reducible refine Kd.C_alloc ?_ _) | (with_reducible refine Kd.C_drewN ?_ _) | (with_reducible refine Kd.C_drew ?_))); (case side2 => exact HC0.out); rintro e w10 ⟨rfl, hb⟩; refine ⟨_, rfl, ?_⟩; have n0_ := Aside0.mk (below_step (by repeat (first | (with_reducible first | exact HB.out | apply below_alloc | apply pw_below_drewN | apply below_drew1) | exact HB.out)) hb); clear HB; have HB := n0_; clear n0_; (try clear hb); (try clear hb2); (try clear hk); (try clear hi)) | ((with_reducible refine gate_callee (f := 15) rfl ?_); refine goesL_ (some 13) rfl rfl Try.func15 (by kernel_rfl) rfl #[.slice A0 l0.length c0] rfl (by (try simp only [List.map_toArray, List.map_cons, List.map_nil]); first | done | rfl | (simp only [List.length_drop, List.length_take]; rfl)) ?_; (with_reducible refine (spec_DrawYoungRef.calls k _ _ l0 t167 _ ?side1 ?side2 A5.out).mono ?_); (case side1 => repeat (first | exact (Kd.C_below HR0.out HB.out) | (with_reducible refine Kd.C_alloc ?_ _) | (with_reducible refine Kd.C_drewN ?_ _) | (with_reducible refine Kd.C_drew ?_))); (case side2 => exact HC0.out); rintro e w11 ⟨rfl, hb⟩; refine ⟨_, rfl, ?_⟩; have n0_ := Aside0.mk (below_step (by repeat (first | (with_reducible first | exact HB.out | apply below_alloc | apply pw_below_drewN | apply below_drew1) | exact HB.out)) hb); clear HB; have HB := n0_; clear n0_; (try clear hb); (try clear hb2); (try clear hk); (try clear hi)) | ((with_reducible refine gate_callee (f := 16) rfl ?_); refine goesL_ (some 15) rfl rfl Try.func16 (by kernel_rfl) rfl #[.int .i64 t166] rfl (by (try simp only [List.map_toArray, List.map_cons, List.map_nil]); first | done | rfl | (simp only [List.length_drop, List.length_take]; rfl)) ?_; (with_reducible refine (impl_OldRef.calls t166 t168 _ A6.out).mono ?_); rintro e w' ⟨rfl, ⟨nd, rfl⟩⟩; refine ⟨_, rfl, ?_⟩) | ((with_reducible refine gate_callee (f := 17) rfl ?_); refine goesL_ (some 17) rfl rfl Try.func17 (by kernel_rfl) rfl #[.int .i64 t167] rfl (by (try simp only [List.map_toArray, List.map_cons, List.map_nil]); first | done | rfl | (simp only [List.length_drop, List.length_take]; rfl)) ?_; (with_reducible refine (impl_YoungRef.calls t167 t169 _ A7.out).mono ?_); rintro e w' ⟨rfl, ⟨nd, rfl⟩⟩; refine ⟨_, rfl, ?_⟩) | ((with_reducible refine gate_callee (f := 18) rfl ?_); refine goesL_ (some 19) rfl rfl Try.func18 (by kernel_rfl) rfl #[.slice A0 l0.length c0] rfl (by (try simp only [List.map_toArray, List.map_cons, List.map_nil]); first | done | rfl | (simp only [List.length_drop, List.length_take]; rfl)) ?_; (with_reducible refine (spec_DrawRefKind.calls k _ _ l0 t170 _ ?side1 ?side2 A8.out).mono ?_); (case side1 => repeat (first | exact (Kd.C_below HR0.out (by repeat (first | (with_reducible first | exact HB.out | apply below_alloc | apply pw_below_drewN | apply below_drew1) | exact HB.out))) | (with_reducible refine Kd.C_alloc ?_ _) | (with_reducible refine Kd.C_drewN ?_ _) | (with_reducible refine Kd.C_drew ?_))); (case side2 => exact HC0.out); rintro e w12 ⟨rfl, hb⟩; refine ⟨_, rfl, ?_⟩; have n0_ := Aside0.mk (below_step (by repeat (first | (with_reducible first | exact HB.out | apply below_alloc | apply pw_below_drewN | apply below_drew1) | exact HB.out)) hb); clear HB; have HB := n0_; clear n0_; (try clear hb); (try clear hb2); (try clear hk); (try clear hi)))
    (try simp only [Act.put, List.setIfInBounds_toArray, List.set_cons_zero, List.set_cons_succ])
    go_cut [43] (fun v43 wc => ∃ (kq : Nat) (x43_8 : Bool), v43 = .bool x43_8 ∧ Aside0 (laws_FnRefs.j0 kq t166 t167 t168 t169 t170 x43_8 = some r) ∧ Aside0 (kq ≤ k) ∧ Aside0 (Below w.heap.size w wc))
    case first =>
      have H := HC9.out
      clear HC9
      replace H := Option.bind_eq_some_iff.mp H
      obtain ⟨t171, A130, H⟩ := H
      replace H : (if t168 = t171 then ((spec_YoungRef.f t167).bind fun t172 => (if t169 = t172 then ((impl_RefKind.f k t170).bind fun t173 => ((spec_RefKind.f k t170).bind fun t174 => (if t173 = t174 then ((impl_PlaceOf.f k t170).bind fun t175 => ((spec_PlaceOf.f k t170).bind fun t176 => (laws_FnRefs.j0 k t166 t167 t168 t169 t170 (t175 != t176)))) else (laws_FnRefs.j0 k t166 t167 t168 t169 t170 true)))) else (laws_FnRefs.j0 k t166 t167 t168 t169 t170 true))) else (laws_FnRefs.j0 k t166 t167 t168 t169 t170 true)) = some r := H
      have A13 := Aside0.mk A130
      clear A130
      by_cases c14 : t168 = t171
      · rw [if_pos c14] at H
        have c14b0 : (t168 == t171) = true := beq_iff_eq.mpr c14
        have c14b1 : (t168 != t171) = false := bne_eq_false_iff_eq.mpr c14
        clear c14
        (first | rw [c14b0] | (simp only [i64_w, i32_w]; rw [c14b0]) | skip)
        replace H := Option.bind_eq_some_iff.mp H
        obtain ⟨t172, A150, H⟩ := H
        replace H : (if t169 = t172 then ((impl_RefKind.f k t170).bind fun t173 => ((spec_RefKind.f k t170).bind fun t174 => (if t173 = t174 then ((impl_PlaceOf.f k t170).bind fun t175 => ((spec_PlaceOf.f k t170).bind fun t176 => (laws_FnRefs.j0 k t166 t167 t168 t169 t170 (t175 != t176)))) else (laws_FnRefs.j0 k t166 t167 t168 t169 t170 true)))) else (laws_FnRefs.j0 k t166 t167 t168 t169 t170 true)) = some r := H
        have A15 := Aside0.mk A150
        clear A150
        by_cases c16 : t169 = t172
        · rw [if_pos c16] at H
          have c16b0 : (t169 == t172) = true := beq_iff_eq.mpr c16
          have c16b1 : (t169 != t172) = false := bne_eq_false_iff_eq.mpr c16
          clear c16
          replace H := Option.bind_eq_some_iff.mp H
          obtain ⟨t173, A170, H⟩ := H
          replace H : ((spec_RefKind.f k t170).bind fun t174 => (if t173 = t174 then ((impl_PlaceOf.f k t170).bind fun t175 => ((spec_PlaceOf.f k t170).bind fun t176 => (laws_FnRefs.j0 k t166 t167 t168 t169 t170 (t175 != t176)))) else (laws_FnRefs.j0 k t166 t167 t168 t169 t170 true))) = some r := H
          have A17 := Aside0.mk A170
          clear A170
          replace H := Option.bind_eq_some_iff.mp H
          obtain ⟨t174, A180, H⟩ := H
          replace H : (if t173 = t174 then ((impl_PlaceOf.f k t170).bind fun t175 => ((spec_PlaceOf.f k t170).bind fun t176 => (laws_FnRefs.j0 k t166 t167 t168 t169 t170 (t175 != t176)))) else (laws_FnRefs.j0 k t166 t167 t168 t169 t170 true)) = some r := H
          have A18 := Aside0.mk A180
          clear A180
          by_cases c19 : t173 = t174
          · rw [if_pos c19] at H
            have c19b0 : (t173 == t174) = true := beq_iff_eq.mpr c19
            have c19b1 : (t173 != t174) = false := bne_eq_false_iff_eq.mpr c19
            clear c19
            replace H := Option.bind_eq_some_iff.mp H
            obtain ⟨t175, A200, H⟩ := H
            replace H : ((spec_PlaceOf.f k t170).bind fun t176 => (laws_FnRefs.j0 k t166 t167 t168 t169 t170 (t175 != t176))) = some r := H
            have A20 := Aside0.mk A200
            clear A200
            replace H := Option.bind_eq_some_iff.mp H
            obtain ⟨t176, A210, H⟩ := H
            replace H : (laws_FnRefs.j0 k t166 t167 t168 t169 t170 (t175 != t176)) = some r := H
            have A21 := Aside0.mk A210
            clear A210
            have H' := Aside0.mk H
            clear H
            go_wp2_with (first | ((with_reducible refine gate_callee (f := 19) rfl ?_); refine goesL_ (some 22) rfl rfl Try.func19 (by kernel_rfl) rfl #[.int .i64 t166] rfl (by (try simp only [List.map_toArray, List.map_cons, List.map_nil]); first | done | rfl | (simp only [List.length_drop, List.length_take]; rfl)) ?_; (with_reducible refine (spec_OldRef.calls t166 t171 _ A13.out).mono ?_); rintro e w' ⟨rfl, ⟨nd, rfl⟩⟩; refine ⟨_, rfl, ?_⟩) | (go_at_call 20; (with_reducible refine (spec_YoungRef.calls t167 t172 _ A15.out).mono ?_); rintro e w' ⟨rfl, ⟨nd, rfl⟩⟩) | (go_at_call 21; (with_reducible refine (impl_RefKind.calls k t170 t173 _ A17.out).mono ?_); rintro e w' ⟨rfl, ⟨nd, rfl⟩⟩) | (go_at_call 22; (with_reducible refine (spec_RefKind.calls k t170 t174 _ A18.out).mono ?_); rintro e w' ⟨rfl, ⟨nd, rfl⟩⟩) | (go_at_call 23; (with_reducible refine (impl_PlaceOf.calls k t170 t175 _ A20.out).mono ?_); rintro e w' ⟨rfl, ⟨nd, rfl⟩⟩) | (go_at_call 24; (with_reducible refine (spec_PlaceOf.calls k t170 t176 _ A21.out).mono ?_); rintro e w' ⟨rfl, ⟨nd, rfl⟩⟩))
            go_meet
            case rel => exact ⟨_, ((t175 != t176)), (by first | rfl | (simp; done) | (simp [*]; done)), H', ⟨by first | omega | exact Nat.le_refl _⟩, ⟨by repeat (first | (with_reducible first | exact HB.out | apply below_alloc | apply pw_below_drewN | apply below_drew1) | exact HB.out)⟩⟩
          · rw [if_neg c19] at H
            have c19b0 : (t173 == t174) = false := beq_eq_false_iff_ne.mpr c19
            have c19b1 : (t173 != t174) = true := bne_iff_ne.mpr c19
            have H' := Aside0.mk H
            clear H
            go_wp2_with (first | ((with_reducible refine gate_callee (f := 19) rfl ?_); refine goesL_ (some 22) rfl rfl Try.func19 (by kernel_rfl) rfl #[.int .i64 t166] rfl (by (try simp only [List.map_toArray, List.map_cons, List.map_nil]); first | done | rfl | (simp only [List.length_drop, List.length_take]; rfl)) ?_; (with_reducible refine (spec_OldRef.calls t166 t171 _ A13.out).mono ?_); rintro e w' ⟨rfl, ⟨nd, rfl⟩⟩; refine ⟨_, rfl, ?_⟩) | (go_at_call 20; (with_reducible refine (spec_YoungRef.calls t167 t172 _ A15.out).mono ?_); rintro e w' ⟨rfl, ⟨nd, rfl⟩⟩) | (go_at_call 21; (with_reducible refine (impl_RefKind.calls k t170 t173 _ A17.out).mono ?_); rintro e w' ⟨rfl, ⟨nd, rfl⟩⟩) | (go_at_call 22; (with_reducible refine (spec_RefKind.calls k t170 t174 _ A18.out).mono ?_); rintro e w' ⟨rfl, ⟨nd, rfl⟩⟩))
            go_meet
            case rel => exact ⟨_, (true), (by first | rfl | (simp; done) | (simp [*]; done)), H', ⟨by first | omega | exact Nat.le_refl _⟩, ⟨by repeat (first | (with_reducible first | exact HB.out | apply below_alloc | apply pw_below_drewN | apply below_drew1) | exact HB.out)⟩⟩
        · rw [if_neg c16] at H
          have c16b0 : (t169 == t172) = false := beq_eq_false_iff_ne.mpr c16
          have c16b1 : (t169 != t172) = true := bne_iff_ne.mpr c16
          have H' := Aside0.mk H
          clear H
          go_wp2_with (first | ((with_reducible refine gate_callee (f := 19) rfl ?_); refine goesL_ (some 22) rfl rfl Try.func19 (by kernel_rfl) rfl #[.int .i64 t166] rfl (by (try simp only [List.map_toArray, List.map_cons, List.map_nil]); first | done | rfl | (simp only [List.length_drop, List.length_take]; rfl)) ?_; (with_reducible refine (spec_OldRef.calls t166 t171 _ A13.out).mono ?_); rintro e w' ⟨rfl, ⟨nd, rfl⟩⟩; refine ⟨_, rfl, ?_⟩) | (go_at_call 20; (with_reducible refine (spec_YoungRef.calls t167 t172 _ A15.out).mono ?_); rintro e w' ⟨rfl, ⟨nd, rfl⟩⟩))
          go_meet
          case rel => exact ⟨_, (true), (by first | rfl | (simp; done) | (simp [*]; done)), H', ⟨by first | omega | exact Nat.le_refl _⟩, ⟨by repeat (first | (with_reducible first | exact HB.out | apply below_alloc | apply pw_below_drewN | apply below_drew1) | exact HB.out)⟩⟩
      · rw [if_neg c14] at H
        have c14b0 : (t168 == t171) = false := beq_eq_false_iff_ne.mpr c14
        have c14b1 : (t168 != t171) = true := bne_iff_ne.mpr c14
        (first | rw [c14b0] | (simp only [i64_w, i32_w]; rw [c14b0]) | skip)
        have H' := Aside0.mk H
        clear H
        go_wp2_with (first | ((with_reducible refine gate_callee (f := 19) rfl ?_); refine goesL_ (some 22) rfl rfl Try.func19 (by kernel_rfl) rfl #[.int .i64 t166] rfl (by (try simp only [List.map_toArray, List.map_cons, List.map_nil]); first | done | rfl | (simp only [List.length_drop, List.length_take]; rfl)) ?_; (with_reducible refine (spec_OldRef.calls t166 t171 _ A13.out).mono ?_); rintro e w' ⟨rfl, ⟨nd, rfl⟩⟩; refine ⟨_, rfl, ?_⟩))
        go_meet
        case rel => exact ⟨_, (true), (by first | rfl | (simp; done) | (simp [*]; done)), H', ⟨by first | omega | exact Nat.le_refl _⟩, ⟨by repeat (first | (with_reducible first | exact HB.out | apply below_alloc | apply pw_below_drewN | apply below_drew1) | exact HB.out)⟩⟩
    case rest =>
      clear HC9
      try clear c1
      try clear p2
      try clear c3
      try clear c5
      try clear c8
      try clear c14
      try clear c14b0
      try clear c14b1
      try clear c15
      try clear c16
      try clear c16b0
      try clear c16b1
      try clear c17
      try clear c18
      try clear c19
      try clear c19b0
      try clear c19b1
      obtain ⟨kq, x43_8, rfl, HA, HJ8, HB⟩ := hcut
      cases kq with
      | zero => exact absurd HA.out (by simp [laws_FnRefs.j0])
      | succ kj8 =>
        have H := HA.out
        clear HA
        simp only [laws_FnRefs.j0] at H
        by_cases c22 : x43_8 = true
        · subst c22
          have H1 : (some false) = some r := by rw [if_pos rfl] at H; exact H
          clear H
          have H := H1
          clear H1
          obtain rfl := Option.some.inj H
          go_wp2
          go_ret
          exact ⟨by first | rfl | (simp [errW_none, errW_some] <;> rfl) | (simp [*, errW_none, errW_some] <;> rfl), by repeat (first | (with_reducible first | exact HB.out | apply below_alloc | apply pw_below_drewN | apply below_drew1) | exact HB.out)⟩
        · replace c22 := Bool.eq_false_iff.mpr c22
          subst c22
          have H1 : (if t168 = 0 then (if t169 = 0 then ((impl_RefKind.f kj8 0).bind fun t177 => (if t177 = 0 then (if t170 = 0 then ((impl_PlaceOf.f kj8 t170).bind fun t178 => (some (t178 == (-1)))) else (some true)) else (some false))) else ((impl_RefKind.f kj8 t169).bind fun t179 => (if t179 = 2 then ((impl_PlaceOf.f kj8 t169).bind fun t180 => (if t180 = t167 then ((impl_RefKind.f kj8 0).bind fun t181 => (if t181 = 0 then (if t170 = 0 then ((impl_PlaceOf.f kj8 t170).bind fun t182 => (some (t182 == (-1)))) else (some true)) else (some false))) else (some false))) else (some false)))) else ((impl_RefKind.f kj8 t168).bind fun t183 => (if t183 = 1 then ((impl_PlaceOf.f kj8 t168).bind fun t184 => (if t184 = t166 then (if t169 = 0 then ((impl_RefKind.f kj8 0).bind fun t185 => (if t185 = 0 then (if t170 = 0 then ((impl_PlaceOf.f kj8 t170).bind fun t186 => (some (t186 == (-1)))) else (some true)) else (some false))) else ((impl_RefKind.f kj8 t169).bind fun t187 => (if t187 = 2 then ((impl_PlaceOf.f kj8 t169).bind fun t188 => (if t188 = t167 then ((impl_RefKind.f kj8 0).bind fun t189 => (if t189 = 0 then (if t170 = 0 then ((impl_PlaceOf.f kj8 t170).bind fun t190 => (some (t190 == (-1)))) else (some true)) else (some false))) else (some false))) else (some false)))) else (some false))) else (some false)))) = some r := by rw [if_neg (show ¬ (false = true) by decide)] at H; exact H
          clear H
          have H := H1
          clear H1
          by_cases c23 : t168 = 0
          · rw [if_pos c23] at H
            have c23b0 : (t168 == 0) = true := beq_iff_eq.mpr c23
            have c23b1 : (t168 != 0) = false := bne_eq_false_iff_eq.mpr c23
            clear c23
            by_cases c24 : t169 = 0
            · rw [if_pos c24] at H
              have c24b0 : (t169 == 0) = true := beq_iff_eq.mpr c24
              have c24b1 : (t169 != 0) = false := bne_eq_false_iff_eq.mpr c24
              clear c24
              replace H := Option.bind_eq_some_iff.mp H
              obtain ⟨t177, A250, H⟩ := H
              replace H : (if t177 = 0 then (if t170 = 0 then ((impl_PlaceOf.f kj8 t170).bind fun t178 => (some (t178 == (-1)))) else (some true)) else (some false)) = some r := H
              have A25 := Aside0.mk A250
              clear A250
              by_cases c26 : t177 = 0
              · rw [if_pos c26] at H
                have c26b0 : (t177 == 0) = true := beq_iff_eq.mpr c26
                have c26b1 : (t177 != 0) = false := bne_eq_false_iff_eq.mpr c26
                clear c26
                by_cases c27 : t170 = 0
                · rw [if_pos c27] at H
                  have c27b0 : (t170 == 0) = true := beq_iff_eq.mpr c27
                  have c27b1 : (t170 != 0) = false := bne_eq_false_iff_eq.mpr c27
                  clear c27
                  replace H := Option.bind_eq_some_iff.mp H
                  obtain ⟨t178, A280, H⟩ := H
                  replace H : (some (t178 == (-1))) = some r := H
                  have A28 := Aside0.mk A280
                  clear A280
                  obtain rfl := Option.some.inj H
                  go_wp2_with (first | (go_at_call 21; (with_reducible refine (impl_RefKind.calls kj8 0 t177 _ A25.out).mono ?_); rintro e w' ⟨rfl, ⟨nd, rfl⟩⟩) | (go_at_call 23; (with_reducible refine (impl_PlaceOf.calls kj8 t170 t178 _ A28.out).mono ?_); rintro e w' ⟨rfl, ⟨nd, rfl⟩⟩))
                  go_ret
                  exact ⟨by first | rfl | (simp [errW_none, errW_some] <;> rfl) | (simp [*, errW_none, errW_some] <;> rfl), by repeat (first | (with_reducible first | exact HB.out | apply below_alloc | apply pw_below_drewN | apply below_drew1) | exact HB.out)⟩
                · rw [if_neg c27] at H
                  have c27b0 : (t170 == 0) = false := beq_eq_false_iff_ne.mpr c27
                  have c27b1 : (t170 != 0) = true := bne_iff_ne.mpr c27
                  obtain rfl := Option.some.inj H
                  go_wp2_with (first | (go_at_call 21; (with_reducible refine (impl_RefKind.calls kj8 0 t177 _ A25.out).mono ?_); rintro e w' ⟨rfl, ⟨nd, rfl⟩⟩))
                  go_ret
                  exact ⟨by first | rfl | (simp [errW_none, errW_some] <;> rfl) | (simp [*, errW_none, errW_some] <;> rfl), by repeat (first | (with_reducible first | exact HB.out | apply below_alloc | apply pw_below_drewN | apply below_drew1) | exact HB.out)⟩
              · rw [if_neg c26] at H
                have c26b0 : (t177 == 0) = false := beq_eq_false_iff_ne.mpr c26
                have c26b1 : (t177 != 0) = true := bne_iff_ne.mpr c26
                obtain rfl := Option.some.inj H
                go_wp2_with (first | (go_at_call 21; (with_reducible refine (impl_RefKind.calls kj8 0 t177 _ A25.out).mono ?_); rintro e w' ⟨rfl, ⟨nd, rfl⟩⟩))
                go_ret
                exact ⟨by first | rfl | (simp [errW_none, errW_some] <;> rfl) | (simp [*, errW_none, errW_some] <;> rfl), by repeat (first | (with_reducible first | exact HB.out | apply below_alloc | apply pw_below_drewN | apply below_drew1) | exact HB.out)⟩
            · rw [if_neg c24] at H
              have c24b0 : (t169 == 0) = false := beq_eq_false_iff_ne.mpr c24
              have c24b1 : (t169 != 0) = true := bne_iff_ne.mpr c24
              replace H := Option.bind_eq_some_iff.mp H
              obtain ⟨t179, A290, H⟩ := H
              replace H : (if t179 = 2 then ((impl_PlaceOf.f kj8 t169).bind fun t180 => (if t180 = t167 then ((impl_RefKind.f kj8 0).bind fun t181 => (if t181 = 0 then (if t170 = 0 then ((impl_PlaceOf.f kj8 t170).bind fun t182 => (some (t182 == (-1)))) else (some true)) else (some false))) else (some false))) else (some false)) = some r := H
              have A29 := Aside0.mk A290
              clear A290
              by_cases c30 : t179 = 2
              · rw [if_pos c30] at H
                have c30b0 : (t179 == 2) = true := beq_iff_eq.mpr c30
                have c30b1 : (t179 != 2) = false := bne_eq_false_iff_eq.mpr c30
                clear c30
                replace H := Option.bind_eq_some_iff.mp H
                obtain ⟨t180, A310, H⟩ := H
                replace H : (if t180 = t167 then ((impl_RefKind.f kj8 0).bind fun t181 => (if t181 = 0 then (if t170 = 0 then ((impl_PlaceOf.f kj8 t170).bind fun t182 => (some (t182 == (-1)))) else (some true)) else (some false))) else (some false)) = some r := H
                have A31 := Aside0.mk A310
                clear A310
                by_cases c32 : t180 = t167
                · rw [if_pos c32] at H
                  have c32b0 : (t180 == t167) = true := beq_iff_eq.mpr c32
                  have c32b1 : (t180 != t167) = false := bne_eq_false_iff_eq.mpr c32
                  clear c32
                  replace H := Option.bind_eq_some_iff.mp H
                  obtain ⟨t181, A330, H⟩ := H
                  replace H : (if t181 = 0 then (if t170 = 0 then ((impl_PlaceOf.f kj8 t170).bind fun t182 => (some (t182 == (-1)))) else (some true)) else (some false)) = some r := H
                  have A33 := Aside0.mk A330
                  clear A330
                  by_cases c34 : t181 = 0
                  · rw [if_pos c34] at H
                    have c34b0 : (t181 == 0) = true := beq_iff_eq.mpr c34
                    have c34b1 : (t181 != 0) = false := bne_eq_false_iff_eq.mpr c34
                    clear c34
                    by_cases c35 : t170 = 0
                    · rw [if_pos c35] at H
                      have c35b0 : (t170 == 0) = true := beq_iff_eq.mpr c35
                      have c35b1 : (t170 != 0) = false := bne_eq_false_iff_eq.mpr c35
                      clear c35
                      replace H := Option.bind_eq_some_iff.mp H
                      obtain ⟨t182, A360, H⟩ := H
                      replace H : (some (t182 == (-1))) = some r := H
                      have A36 := Aside0.mk A360
                      clear A360
                      obtain rfl := Option.some.inj H
                      go_wp2_with (first | (go_at_call 21; (with_reducible refine (impl_RefKind.calls kj8 t169 t179 _ A29.out).mono ?_); rintro e w' ⟨rfl, ⟨nd, rfl⟩⟩) | (go_at_call 23; (with_reducible refine (impl_PlaceOf.calls kj8 t169 t180 _ A31.out).mono ?_); rintro e w' ⟨rfl, ⟨nd, rfl⟩⟩) | (go_at_call 21; (with_reducible refine (impl_RefKind.calls kj8 0 t181 _ A33.out).mono ?_); rintro e w' ⟨rfl, ⟨nd, rfl⟩⟩) | (go_at_call 23; (with_reducible refine (impl_PlaceOf.calls kj8 t170 t182 _ A36.out).mono ?_); rintro e w' ⟨rfl, ⟨nd, rfl⟩⟩))
                      go_ret
                      exact ⟨by first | rfl | (simp [errW_none, errW_some] <;> rfl) | (simp [*, errW_none, errW_some] <;> rfl), by repeat (first | (with_reducible first | exact HB.out | apply below_alloc | apply pw_below_drewN | apply below_drew1) | exact HB.out)⟩
                    · rw [if_neg c35] at H
                      have c35b0 : (t170 == 0) = false := beq_eq_false_iff_ne.mpr c35
                      have c35b1 : (t170 != 0) = true := bne_iff_ne.mpr c35
                      obtain rfl := Option.some.inj H
                      go_wp2_with (first | (go_at_call 21; (with_reducible refine (impl_RefKind.calls kj8 t169 t179 _ A29.out).mono ?_); rintro e w' ⟨rfl, ⟨nd, rfl⟩⟩) | (go_at_call 23; (with_reducible refine (impl_PlaceOf.calls kj8 t169 t180 _ A31.out).mono ?_); rintro e w' ⟨rfl, ⟨nd, rfl⟩⟩) | (go_at_call 21; (with_reducible refine (impl_RefKind.calls kj8 0 t181 _ A33.out).mono ?_); rintro e w' ⟨rfl, ⟨nd, rfl⟩⟩))
                      go_ret
                      exact ⟨by first | rfl | (simp [errW_none, errW_some] <;> rfl) | (simp [*, errW_none, errW_some] <;> rfl), by repeat (first | (with_reducible first | exact HB.out | apply below_alloc | apply pw_below_drewN | apply below_drew1) | exact HB.out)⟩
                  · rw [if_neg c34] at H
                    have c34b0 : (t181 == 0) = false := beq_eq_false_iff_ne.mpr c34
                    have c34b1 : (t181 != 0) = true := bne_iff_ne.mpr c34
                    obtain rfl := Option.some.inj H
                    go_wp2_with (first | (go_at_call 21; (with_reducible refine (impl_RefKind.calls kj8 t169 t179 _ A29.out).mono ?_); rintro e w' ⟨rfl, ⟨nd, rfl⟩⟩) | (go_at_call 23; (with_reducible refine (impl_PlaceOf.calls kj8 t169 t180 _ A31.out).mono ?_); rintro e w' ⟨rfl, ⟨nd, rfl⟩⟩) | (go_at_call 21; (with_reducible refine (impl_RefKind.calls kj8 0 t181 _ A33.out).mono ?_); rintro e w' ⟨rfl, ⟨nd, rfl⟩⟩))
                    go_ret
                    exact ⟨by first | rfl | (simp [errW_none, errW_some] <;> rfl) | (simp [*, errW_none, errW_some] <;> rfl), by repeat (first | (with_reducible first | exact HB.out | apply below_alloc | apply pw_below_drewN | apply below_drew1) | exact HB.out)⟩
                · rw [if_neg c32] at H
                  have c32b0 : (t180 == t167) = false := beq_eq_false_iff_ne.mpr c32
                  have c32b1 : (t180 != t167) = true := bne_iff_ne.mpr c32
                  obtain rfl := Option.some.inj H
                  go_wp2_with (first | (go_at_call 21; (with_reducible refine (impl_RefKind.calls kj8 t169 t179 _ A29.out).mono ?_); rintro e w' ⟨rfl, ⟨nd, rfl⟩⟩) | (go_at_call 23; (with_reducible refine (impl_PlaceOf.calls kj8 t169 t180 _ A31.out).mono ?_); rintro e w' ⟨rfl, ⟨nd, rfl⟩⟩))
                  go_ret
                  exact ⟨by first | rfl | (simp [errW_none, errW_some] <;> rfl) | (simp [*, errW_none, errW_some] <;> rfl), by repeat (first | (with_reducible first | exact HB.out | apply below_alloc | apply pw_below_drewN | apply below_drew1) | exact HB.out)⟩
              · rw [if_neg c30] at H
                have c30b0 : (t179 == 2) = false := beq_eq_false_iff_ne.mpr c30
                have c30b1 : (t179 != 2) = true := bne_iff_ne.mpr c30
                obtain rfl := Option.some.inj H
                go_wp2_with (first | (go_at_call 21; (with_reducible refine (impl_RefKind.calls kj8 t169 t179 _ A29.out).mono ?_); rintro e w' ⟨rfl, ⟨nd, rfl⟩⟩))
                go_ret
                exact ⟨by first | rfl | (simp [errW_none, errW_some] <;> rfl) | (simp [*, errW_none, errW_some] <;> rfl), by repeat (first | (with_reducible first | exact HB.out | apply below_alloc | apply pw_below_drewN | apply below_drew1) | exact HB.out)⟩
          · rw [if_neg c23] at H
            have c23b0 : (t168 == 0) = false := beq_eq_false_iff_ne.mpr c23
            have c23b1 : (t168 != 0) = true := bne_iff_ne.mpr c23
            replace H := Option.bind_eq_some_iff.mp H
            obtain ⟨t183, A370, H⟩ := H
            replace H : (if t183 = 1 then ((impl_PlaceOf.f kj8 t168).bind fun t184 => (if t184 = t166 then (if t169 = 0 then ((impl_RefKind.f kj8 0).bind fun t185 => (if t185 = 0 then (if t170 = 0 then ((impl_PlaceOf.f kj8 t170).bind fun t186 => (some (t186 == (-1)))) else (some true)) else (some false))) else ((impl_RefKind.f kj8 t169).bind fun t187 => (if t187 = 2 then ((impl_PlaceOf.f kj8 t169).bind fun t188 => (if t188 = t167 then ((impl_RefKind.f kj8 0).bind fun t189 => (if t189 = 0 then (if t170 = 0 then ((impl_PlaceOf.f kj8 t170).bind fun t190 => (some (t190 == (-1)))) else (some true)) else (some false))) else (some false))) else (some false)))) else (some false))) else (some false)) = some r := H
            have A37 := Aside0.mk A370
            clear A370
            by_cases c38 : t183 = 1
            · rw [if_pos c38] at H
              have c38b0 : (t183 == 1) = true := beq_iff_eq.mpr c38
              have c38b1 : (t183 != 1) = false := bne_eq_false_iff_eq.mpr c38
              clear c38
              replace H := Option.bind_eq_some_iff.mp H
              obtain ⟨t184, A390, H⟩ := H
              replace H : (if t184 = t166 then (if t169 = 0 then ((impl_RefKind.f kj8 0).bind fun t185 => (if t185 = 0 then (if t170 = 0 then ((impl_PlaceOf.f kj8 t170).bind fun t186 => (some (t186 == (-1)))) else (some true)) else (some false))) else ((impl_RefKind.f kj8 t169).bind fun t187 => (if t187 = 2 then ((impl_PlaceOf.f kj8 t169).bind fun t188 => (if t188 = t167 then ((impl_RefKind.f kj8 0).bind fun t189 => (if t189 = 0 then (if t170 = 0 then ((impl_PlaceOf.f kj8 t170).bind fun t190 => (some (t190 == (-1)))) else (some true)) else (some false))) else (some false))) else (some false)))) else (some false)) = some r := H
              have A39 := Aside0.mk A390
              clear A390
              by_cases c40 : t184 = t166
              · rw [if_pos c40] at H
                have c40b0 : (t184 == t166) = true := beq_iff_eq.mpr c40
                have c40b1 : (t184 != t166) = false := bne_eq_false_iff_eq.mpr c40
                clear c40
                by_cases c41 : t169 = 0
                · rw [if_pos c41] at H
                  have c41b0 : (t169 == 0) = true := beq_iff_eq.mpr c41
                  have c41b1 : (t169 != 0) = false := bne_eq_false_iff_eq.mpr c41
                  clear c41
                  replace H := Option.bind_eq_some_iff.mp H
                  obtain ⟨t185, A420, H⟩ := H
                  replace H : (if t185 = 0 then (if t170 = 0 then ((impl_PlaceOf.f kj8 t170).bind fun t186 => (some (t186 == (-1)))) else (some true)) else (some false)) = some r := H
                  have A42 := Aside0.mk A420
                  clear A420
                  by_cases c43 : t185 = 0
                  · rw [if_pos c43] at H
                    have c43b0 : (t185 == 0) = true := beq_iff_eq.mpr c43
                    have c43b1 : (t185 != 0) = false := bne_eq_false_iff_eq.mpr c43
                    clear c43
                    by_cases c44 : t170 = 0
                    · rw [if_pos c44] at H
                      have c44b0 : (t170 == 0) = true := beq_iff_eq.mpr c44
                      have c44b1 : (t170 != 0) = false := bne_eq_false_iff_eq.mpr c44
                      clear c44
                      replace H := Option.bind_eq_some_iff.mp H
                      obtain ⟨t186, A450, H⟩ := H
                      replace H : (some (t186 == (-1))) = some r := H
                      have A45 := Aside0.mk A450
                      clear A450
                      obtain rfl := Option.some.inj H
                      go_wp2_with (first | (go_at_call 21; (with_reducible refine (impl_RefKind.calls kj8 t168 t183 _ A37.out).mono ?_); rintro e w' ⟨rfl, ⟨nd, rfl⟩⟩) | (go_at_call 23; (with_reducible refine (impl_PlaceOf.calls kj8 t168 t184 _ A39.out).mono ?_); rintro e w' ⟨rfl, ⟨nd, rfl⟩⟩) | (go_at_call 21; (with_reducible refine (impl_RefKind.calls kj8 0 t185 _ A42.out).mono ?_); rintro e w' ⟨rfl, ⟨nd, rfl⟩⟩) | (go_at_call 23; (with_reducible refine (impl_PlaceOf.calls kj8 t170 t186 _ A45.out).mono ?_); rintro e w' ⟨rfl, ⟨nd, rfl⟩⟩))
                      go_ret
                      exact ⟨by first | rfl | (simp [errW_none, errW_some] <;> rfl) | (simp [*, errW_none, errW_some] <;> rfl), by repeat (first | (with_reducible first | exact HB.out | apply below_alloc | apply pw_below_drewN | apply below_drew1) | exact HB.out)⟩
                    · rw [if_neg c44] at H
                      have c44b0 : (t170 == 0) = false := beq_eq_false_iff_ne.mpr c44
                      have c44b1 : (t170 != 0) = true := bne_iff_ne.mpr c44
                      obtain rfl := Option.some.inj H
                      go_wp2_with (first | (go_at_call 21; (with_reducible refine (impl_RefKind.calls kj8 t168 t183 _ A37.out).mono ?_); rintro e w' ⟨rfl, ⟨nd, rfl⟩⟩) | (go_at_call 23; (with_reducible refine (impl_PlaceOf.calls kj8 t168 t184 _ A39.out).mono ?_); rintro e w' ⟨rfl, ⟨nd, rfl⟩⟩) | (go_at_call 21; (with_reducible refine (impl_RefKind.calls kj8 0 t185 _ A42.out).mono ?_); rintro e w' ⟨rfl, ⟨nd, rfl⟩⟩))
                      go_ret
                      exact ⟨by first | rfl | (simp [errW_none, errW_some] <;> rfl) | (simp [*, errW_none, errW_some] <;> rfl), by repeat (first | (with_reducible first | exact HB.out | apply below_alloc | apply pw_below_drewN | apply below_drew1) | exact HB.out)⟩
                  · rw [if_neg c43] at H
                    have c43b0 : (t185 == 0) = false := beq_eq_false_iff_ne.mpr c43
                    have c43b1 : (t185 != 0) = true := bne_iff_ne.mpr c43
                    obtain rfl := Option.some.inj H
                    go_wp2_with (first | (go_at_call 21; (with_reducible refine (impl_RefKind.calls kj8 t168 t183 _ A37.out).mono ?_); rintro e w' ⟨rfl, ⟨nd, rfl⟩⟩) | (go_at_call 23; (with_reducible refine (impl_PlaceOf.calls kj8 t168 t184 _ A39.out).mono ?_); rintro e w' ⟨rfl, ⟨nd, rfl⟩⟩) | (go_at_call 21; (with_reducible refine (impl_RefKind.calls kj8 0 t185 _ A42.out).mono ?_); rintro e w' ⟨rfl, ⟨nd, rfl⟩⟩))
                    go_ret
                    exact ⟨by first | rfl | (simp [errW_none, errW_some] <;> rfl) | (simp [*, errW_none, errW_some] <;> rfl), by repeat (first | (with_reducible first | exact HB.out | apply below_alloc | apply pw_below_drewN | apply below_drew1) | exact HB.out)⟩
                · rw [if_neg c41] at H
                  have c41b0 : (t169 == 0) = false := beq_eq_false_iff_ne.mpr c41
                  have c41b1 : (t169 != 0) = true := bne_iff_ne.mpr c41
                  replace H := Option.bind_eq_some_iff.mp H
                  obtain ⟨t187, A460, H⟩ := H
                  replace H : (if t187 = 2 then ((impl_PlaceOf.f kj8 t169).bind fun t188 => (if t188 = t167 then ((impl_RefKind.f kj8 0).bind fun t189 => (if t189 = 0 then (if t170 = 0 then ((impl_PlaceOf.f kj8 t170).bind fun t190 => (some (t190 == (-1)))) else (some true)) else (some false))) else (some false))) else (some false)) = some r := H
                  have A46 := Aside0.mk A460
                  clear A460
                  by_cases c47 : t187 = 2
                  · rw [if_pos c47] at H
                    have c47b0 : (t187 == 2) = true := beq_iff_eq.mpr c47
                    have c47b1 : (t187 != 2) = false := bne_eq_false_iff_eq.mpr c47
                    clear c47
                    replace H := Option.bind_eq_some_iff.mp H
                    obtain ⟨t188, A480, H⟩ := H
                    replace H : (if t188 = t167 then ((impl_RefKind.f kj8 0).bind fun t189 => (if t189 = 0 then (if t170 = 0 then ((impl_PlaceOf.f kj8 t170).bind fun t190 => (some (t190 == (-1)))) else (some true)) else (some false))) else (some false)) = some r := H
                    have A48 := Aside0.mk A480
                    clear A480
                    by_cases c49 : t188 = t167
                    · rw [if_pos c49] at H
                      have c49b0 : (t188 == t167) = true := beq_iff_eq.mpr c49
                      have c49b1 : (t188 != t167) = false := bne_eq_false_iff_eq.mpr c49
                      clear c49
                      replace H := Option.bind_eq_some_iff.mp H
                      obtain ⟨t189, A500, H⟩ := H
                      replace H : (if t189 = 0 then (if t170 = 0 then ((impl_PlaceOf.f kj8 t170).bind fun t190 => (some (t190 == (-1)))) else (some true)) else (some false)) = some r := H
                      have A50 := Aside0.mk A500
                      clear A500
                      by_cases c51 : t189 = 0
                      · rw [if_pos c51] at H
                        have c51b0 : (t189 == 0) = true := beq_iff_eq.mpr c51
                        have c51b1 : (t189 != 0) = false := bne_eq_false_iff_eq.mpr c51
                        clear c51
                        by_cases c52 : t170 = 0
                        · rw [if_pos c52] at H
                          have c52b0 : (t170 == 0) = true := beq_iff_eq.mpr c52
                          have c52b1 : (t170 != 0) = false := bne_eq_false_iff_eq.mpr c52
                          clear c52
                          replace H := Option.bind_eq_some_iff.mp H
                          obtain ⟨t190, A530, H⟩ := H
                          replace H : (some (t190 == (-1))) = some r := H
                          have A53 := Aside0.mk A530
                          clear A530
                          obtain rfl := Option.some.inj H
                          go_wp2_with (first | (go_at_call 21; (with_reducible refine (impl_RefKind.calls kj8 t168 t183 _ A37.out).mono ?_); rintro e w' ⟨rfl, ⟨nd, rfl⟩⟩) | (go_at_call 23; (with_reducible refine (impl_PlaceOf.calls kj8 t168 t184 _ A39.out).mono ?_); rintro e w' ⟨rfl, ⟨nd, rfl⟩⟩) | (go_at_call 21; (with_reducible refine (impl_RefKind.calls kj8 t169 t187 _ A46.out).mono ?_); rintro e w' ⟨rfl, ⟨nd, rfl⟩⟩) | (go_at_call 23; (with_reducible refine (impl_PlaceOf.calls kj8 t169 t188 _ A48.out).mono ?_); rintro e w' ⟨rfl, ⟨nd, rfl⟩⟩) | (go_at_call 21; (with_reducible refine (impl_RefKind.calls kj8 0 t189 _ A50.out).mono ?_); rintro e w' ⟨rfl, ⟨nd, rfl⟩⟩) | (go_at_call 23; (with_reducible refine (impl_PlaceOf.calls kj8 t170 t190 _ A53.out).mono ?_); rintro e w' ⟨rfl, ⟨nd, rfl⟩⟩))
                          go_ret
                          exact ⟨by first | rfl | (simp [errW_none, errW_some] <;> rfl) | (simp [*, errW_none, errW_some] <;> rfl), by repeat (first | (with_reducible first | exact HB.out | apply below_alloc | apply pw_below_drewN | apply below_drew1) | exact HB.out)⟩
                        · rw [if_neg c52] at H
                          have c52b0 : (t170 == 0) = false := beq_eq_false_iff_ne.mpr c52
                          have c52b1 : (t170 != 0) = true := bne_iff_ne.mpr c52
                          obtain rfl := Option.some.inj H
                          go_wp2_with (first | (go_at_call 21; (with_reducible refine (impl_RefKind.calls kj8 t168 t183 _ A37.out).mono ?_); rintro e w' ⟨rfl, ⟨nd, rfl⟩⟩) | (go_at_call 23; (with_reducible refine (impl_PlaceOf.calls kj8 t168 t184 _ A39.out).mono ?_); rintro e w' ⟨rfl, ⟨nd, rfl⟩⟩) | (go_at_call 21; (with_reducible refine (impl_RefKind.calls kj8 t169 t187 _ A46.out).mono ?_); rintro e w' ⟨rfl, ⟨nd, rfl⟩⟩) | (go_at_call 23; (with_reducible refine (impl_PlaceOf.calls kj8 t169 t188 _ A48.out).mono ?_); rintro e w' ⟨rfl, ⟨nd, rfl⟩⟩) | (go_at_call 21; (with_reducible refine (impl_RefKind.calls kj8 0 t189 _ A50.out).mono ?_); rintro e w' ⟨rfl, ⟨nd, rfl⟩⟩))
                          go_ret
                          exact ⟨by first | rfl | (simp [errW_none, errW_some] <;> rfl) | (simp [*, errW_none, errW_some] <;> rfl), by repeat (first | (with_reducible first | exact HB.out | apply below_alloc | apply pw_below_drewN | apply below_drew1) | exact HB.out)⟩
                      · rw [if_neg c51] at H
                        have c51b0 : (t189 == 0) = false := beq_eq_false_iff_ne.mpr c51
                        have c51b1 : (t189 != 0) = true := bne_iff_ne.mpr c51
                        obtain rfl := Option.some.inj H
                        go_wp2_with (first | (go_at_call 21; (with_reducible refine (impl_RefKind.calls kj8 t168 t183 _ A37.out).mono ?_); rintro e w' ⟨rfl, ⟨nd, rfl⟩⟩) | (go_at_call 23; (with_reducible refine (impl_PlaceOf.calls kj8 t168 t184 _ A39.out).mono ?_); rintro e w' ⟨rfl, ⟨nd, rfl⟩⟩) | (go_at_call 21; (with_reducible refine (impl_RefKind.calls kj8 t169 t187 _ A46.out).mono ?_); rintro e w' ⟨rfl, ⟨nd, rfl⟩⟩) | (go_at_call 23; (with_reducible refine (impl_PlaceOf.calls kj8 t169 t188 _ A48.out).mono ?_); rintro e w' ⟨rfl, ⟨nd, rfl⟩⟩) | (go_at_call 21; (with_reducible refine (impl_RefKind.calls kj8 0 t189 _ A50.out).mono ?_); rintro e w' ⟨rfl, ⟨nd, rfl⟩⟩))
                        go_ret
                        exact ⟨by first | rfl | (simp [errW_none, errW_some] <;> rfl) | (simp [*, errW_none, errW_some] <;> rfl), by repeat (first | (with_reducible first | exact HB.out | apply below_alloc | apply pw_below_drewN | apply below_drew1) | exact HB.out)⟩
                    · rw [if_neg c49] at H
                      have c49b0 : (t188 == t167) = false := beq_eq_false_iff_ne.mpr c49
                      have c49b1 : (t188 != t167) = true := bne_iff_ne.mpr c49
                      obtain rfl := Option.some.inj H
                      go_wp2_with (first | (go_at_call 21; (with_reducible refine (impl_RefKind.calls kj8 t168 t183 _ A37.out).mono ?_); rintro e w' ⟨rfl, ⟨nd, rfl⟩⟩) | (go_at_call 23; (with_reducible refine (impl_PlaceOf.calls kj8 t168 t184 _ A39.out).mono ?_); rintro e w' ⟨rfl, ⟨nd, rfl⟩⟩) | (go_at_call 21; (with_reducible refine (impl_RefKind.calls kj8 t169 t187 _ A46.out).mono ?_); rintro e w' ⟨rfl, ⟨nd, rfl⟩⟩) | (go_at_call 23; (with_reducible refine (impl_PlaceOf.calls kj8 t169 t188 _ A48.out).mono ?_); rintro e w' ⟨rfl, ⟨nd, rfl⟩⟩))
                      go_ret
                      exact ⟨by first | rfl | (simp [errW_none, errW_some] <;> rfl) | (simp [*, errW_none, errW_some] <;> rfl), by repeat (first | (with_reducible first | exact HB.out | apply below_alloc | apply pw_below_drewN | apply below_drew1) | exact HB.out)⟩
                  · rw [if_neg c47] at H
                    have c47b0 : (t187 == 2) = false := beq_eq_false_iff_ne.mpr c47
                    have c47b1 : (t187 != 2) = true := bne_iff_ne.mpr c47
                    obtain rfl := Option.some.inj H
                    go_wp2_with (first | (go_at_call 21; (with_reducible refine (impl_RefKind.calls kj8 t168 t183 _ A37.out).mono ?_); rintro e w' ⟨rfl, ⟨nd, rfl⟩⟩) | (go_at_call 23; (with_reducible refine (impl_PlaceOf.calls kj8 t168 t184 _ A39.out).mono ?_); rintro e w' ⟨rfl, ⟨nd, rfl⟩⟩) | (go_at_call 21; (with_reducible refine (impl_RefKind.calls kj8 t169 t187 _ A46.out).mono ?_); rintro e w' ⟨rfl, ⟨nd, rfl⟩⟩))
                    go_ret
                    exact ⟨by first | rfl | (simp [errW_none, errW_some] <;> rfl) | (simp [*, errW_none, errW_some] <;> rfl), by repeat (first | (with_reducible first | exact HB.out | apply below_alloc | apply pw_below_drewN | apply below_drew1) | exact HB.out)⟩
              · rw [if_neg c40] at H
                have c40b0 : (t184 == t166) = false := beq_eq_false_iff_ne.mpr c40
                have c40b1 : (t184 != t166) = true := bne_iff_ne.mpr c40
                obtain rfl := Option.some.inj H
                go_wp2_with (first | (go_at_call 21; (with_reducible refine (impl_RefKind.calls kj8 t168 t183 _ A37.out).mono ?_); rintro e w' ⟨rfl, ⟨nd, rfl⟩⟩) | (go_at_call 23; (with_reducible refine (impl_PlaceOf.calls kj8 t168 t184 _ A39.out).mono ?_); rintro e w' ⟨rfl, ⟨nd, rfl⟩⟩))
                go_ret
                exact ⟨by first | rfl | (simp [errW_none, errW_some] <;> rfl) | (simp [*, errW_none, errW_some] <;> rfl), by repeat (first | (with_reducible first | exact HB.out | apply below_alloc | apply pw_below_drewN | apply below_drew1) | exact HB.out)⟩
            · rw [if_neg c38] at H
              have c38b0 : (t183 == 1) = false := beq_eq_false_iff_ne.mpr c38
              have c38b1 : (t183 != 1) = true := bne_iff_ne.mpr c38
              obtain rfl := Option.some.inj H
              go_wp2_with (first | (go_at_call 21; (with_reducible refine (impl_RefKind.calls kj8 t168 t183 _ A37.out).mono ?_); rintro e w' ⟨rfl, ⟨nd, rfl⟩⟩))
              go_ret
              exact ⟨by first | rfl | (simp [errW_none, errW_some] <;> rfl) | (simp [*, errW_none, errW_some] <;> rfl), by repeat (first | (with_reducible first | exact HB.out | apply below_alloc | apply pw_below_drewN | apply below_drew1) | exact HB.out)⟩

/-- THE ONE PURE STATEMENT of laws_FnRefs: yours. -/
def laws_FnRefs.Pure : Prop := ∀ (l0 : List Int), l0.length ≤ maxLen → l0.length * 1 ≤ 140737488351232 → (∀ x ∈ l0, (Lit.int .u8 x).wf = true) → ∃ k, laws_FnRefs.f k l0 = some true
theorem laws_FnRefs.walk (P : laws_FnRefs.Pure) (a0 : Option Addr) (len0 cap0 : Nat) (z0 : List Int) (w : World) (w0 : (a0 = none ∧ len0 = 0 ∧ cap0 = 0 ∧ z0 = []) ∨ ∃ x, a0 = some x ∧ len0 ≤ cap0 ∧ cap0 ≤ maxLen ∧ z0.length = cap0 ∧ (∀ i, i < z0.length → w.cell? (x.add i) = some (.int .u8 (z0.getD i 0))) ∧ ∀ n ∈ z0, (Lit.int .u8 n).wf = true) (y0 : len0 * 1 ≤ 140737488351232) :
    Calls Try.prog 5 #[.slice a0 len0 cap0] w fun e w' => e = .returned (.bool true) ∧ Below w.heap.size w w' := by
  obtain ⟨l0, rfl, hr0, hm0, hw0, hc0⟩ := ReadsInt.ofRowC w0
  obtain ⟨k, h⟩ := P l0 hm0 y0 hw0
  refine (laws_FnRefs.calls k _ _ l0 true w (Kd.C_of_reads (d := (0 : Int)) (h1 := fun _ => rfl) hr0) hc0 h).mono ?_
  rintro e w' ⟨rfl, hd⟩
  exact ⟨rfl, hd⟩

end Go.Proofs.Ytpkekjddhkngcaa.PFnRefs
