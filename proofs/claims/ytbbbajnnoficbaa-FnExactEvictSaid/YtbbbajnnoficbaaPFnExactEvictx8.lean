-- by a patched copy of the print (wip/tools/patch_print.py)
import Derived.Test.YtbbbajnnoficbaaPFnExactEvictx0
import Derived.Test.YtbbbajnnoficbaaPFnExactEvictx1
import Derived.Test.YtbbbajnnoficbaaPFnExactEvictx2
import Derived.Test.YtbbbajnnoficbaaPFnExactEvictx3
import Derived.Test.YtbbbajnnoficbaaPFnExactEvictx5
import Derived.Test.YtbbbajnnoficbaaPFnExactEvictx7
namespace Go.Proofs.Ytbbbajnnoficbaa.PFnExactEvict
open Go.RowKit Go.Proofs.YtbbbajnnoficbaaW.PrintWords Go.Proofs.YtbbbajnnoficbaaW.PrintLast Go.Proofs.YtbbbajnnoficbaaW.PrintMore
attribute [local go_sem] max2_int min2_int max_two min_two max_three min_three max_four min_four   -- for this text's walks alone
set_option linter.unusedVariables false
set_option linter.unusedSimpArgs false

/-! ### laws_FnExactEvict: function 9 -/
mutual
def laws_FnExactEvict.j0 : Nat → Int → Bool → Bool → Bool → ByteArray → List (S92) → ByteArray → List (S67) → ByteArray → List (S67) → ByteArray → List (S67) → Option (Bool)
  | 0, _, _, _, _, _, _, _, _, _, _, _, _ => none
  | k + 1, x1, x7, x10, x44, x190000, x190001, x201000, x201001, x206000, x206001, x212000, x212001 => if x44 = true then (none) else ((laws_toDevice.f k x190000 x190001).bind fun bt213 => ((laws_eqDevice.f k x206000 x206001 bt213.1 bt213.2).bind fun t217 => (if t217 = true then ((laws_markDevice.f k x206000 x206001 1).bind fun bt218 => (if bt218.1 < 0 then (laws_FnExactEvict.j1 k x1 x7 true x190000 x190001 x201000 x201001 x212000 x212001) else ((laws_eqDevice.f k x212000 x212001 x201000 x201001).bind fun t220 => (if t220 = true then (laws_FnExactEvict.j1 k x1 x7 (x10 != x7) x190000 x190001 x201000 x201001 x212000 x212001) else (laws_FnExactEvict.j1 k x1 x7 true x190000 x190001 x201000 x201001 x212000 x212001))))) else (none))))
def laws_FnExactEvict.j1 : Nat → Int → Bool → Bool → ByteArray → List (S92) → ByteArray → List (S67) → ByteArray → List (S67) → Option (Bool)
  | 0, _, _, _, _, _, _, _, _, _ => none
  | k + 1, x1, x7, x65, x190000, x190001, x201000, x201001, x212000, x212001 => if x65 = true then (none) else ((laws_markDevice.f k x212000 x212001 1).bind fun bt221 => ((laws_heldDevice.f k x212000 bt221.2 1).bind fun t223 => (if t223 < 0 then (none) else (if t223 = bt221.1 then ((laws_toDevice.f k x190000 x190001).bind fun bt224 => ((impl_Evict.f k bt224.1 bt224.2 x1).bind fun bt228 => ((laws_eqDevice.f k bt228.1 bt228.2.1 x201000 x201001).bind fun t234 => (if t234 = true then (laws_FnExactEvict.j2 k bt221.1 (bt228.2.2 != x7) x212000 bt221.2) else (laws_FnExactEvict.j2 k bt221.1 true x212000 bt221.2))))) else (none)))))
def laws_FnExactEvict.j2 : Nat → Int → Bool → ByteArray → List (S67) → Option (Bool)
  | 0, _, _, _, _ => none
  | k + 1, x12, x92, x212000, x212001 => if x92 = true then (none) else ((laws_heldDevice.f k x212000 x212001 1).bind fun t235 => (if t235 < 0 then (none) else (if t235 = x12 then (some true) else (none))))
end
def laws_FnExactEvict.f (k : Nat) (a0_0 : ByteArray) (l0_1 : List (S92)) (a1 : Int) : Option (Bool) := (laws_szDevice.f k a0_0 l0_1 1048576).bind fun t190 => (if t190 < 0 then (some true) else ((laws_toDevice.f k a0_0 l0_1).bind fun bt191 => ((spec_Evict.f k bt191.1 bt191.2 a1).bind fun bt195 => ((laws_toDevice.f k a0_0 l0_1).bind fun bt201 => ((impl_Evict.f k bt201.1 bt201.2 a1).bind fun bt206 => ((laws_eqDevice.f k bt206.1 bt206.2.1 bt195.1 bt195.2.1).bind fun t212 => (if t212 = true then (laws_FnExactEvict.j0 k a1 bt195.2.2 bt206.2.2 (bt206.2.2 != bt195.2.2) a0_0 l0_1 bt195.1 bt195.2.1 bt201.1 bt201.2 bt206.1 bt206.2.1) else (laws_FnExactEvict.j0 k a1 bt195.2.2 bt206.2.2 true a0_0 l0_1 bt195.1 bt195.2.1 bt201.1 bt201.2 bt206.1 bt206.2.1))))))))
theorem laws_FnExactEvict.mono_l : ∀ k, (∀ y0 y1 y2 y3 y4 y5 y6 y7 y8 y9 y10 y11, LeO (laws_FnExactEvict.j0 k y0 y1 y2 y3 y4 y5 y6 y7 y8 y9 y10 y11) (laws_FnExactEvict.j0 (k + 1) y0 y1 y2 y3 y4 y5 y6 y7 y8 y9 y10 y11)) ∧ (∀ y0 y1 y2 y3 y4 y5 y6 y7 y8, LeO (laws_FnExactEvict.j1 k y0 y1 y2 y3 y4 y5 y6 y7 y8) (laws_FnExactEvict.j1 (k + 1) y0 y1 y2 y3 y4 y5 y6 y7 y8)) ∧ (∀ y0 y1 y2 y3, LeO (laws_FnExactEvict.j2 k y0 y1 y2 y3) (laws_FnExactEvict.j2 (k + 1) y0 y1 y2 y3))
  | 0 => ⟨fun _ _ _ _ _ _ _ _ _ _ _ _ r h => by simp [laws_FnExactEvict.j0] at h, fun _ _ _ _ _ _ _ _ _ r h => by simp [laws_FnExactEvict.j1] at h, fun _ _ _ _ r h => by simp [laws_FnExactEvict.j2] at h⟩
  | k + 1 => by
    obtain ⟨ih0, ih1, ih2⟩ := laws_FnExactEvict.mono_l k
    refine ⟨?_, ?_, ?_⟩
    · intro y0 y1 y2 y3 y4 y5 y6 y7 y8 y9 y10 y11
      unfold laws_FnExactEvict.j0
      repeat' first
      | (with_reducible exact ih0 _ _ _ _ _ _ _ _ _ _ _ _)
      | (with_reducible exact ih1 _ _ _ _ _ _ _ _ _)
      | (with_reducible exact ih2 _ _ _ _)
      | (with_reducible exact impl_Evict.mono _ _ _ _)
      | (with_reducible exact laws_eqDevice.mono _ _ _ _ _)
      | (with_reducible exact laws_heldDevice.mono _ _ _ _)
      | (with_reducible exact laws_markDevice.mono _ _ _ _)
      | (with_reducible exact laws_szDevice.mono _ _ _ _)
      | (with_reducible exact laws_toDevice.mono _ _ _)
      | (with_reducible exact spec_Evict.mono _ _ _ _)
      | (with_reducible exact LeO.refl _)
      | (with_reducible exact LeO.none _)
      | (with_reducible refine LeO.ite ?_ ?_)
      | (with_reducible refine LeO.bind ?_ (fun _ => ?_))
      | exact ih0 _ _ _ _ _ _ _ _ _ _ _ _
      | exact ih1 _ _ _ _ _ _ _ _ _
      | exact ih2 _ _ _ _
      | exact impl_Evict.mono _ _ _ _
      | exact laws_eqDevice.mono _ _ _ _ _
      | exact laws_heldDevice.mono _ _ _ _
      | exact laws_markDevice.mono _ _ _ _
      | exact laws_szDevice.mono _ _ _ _
      | exact laws_toDevice.mono _ _ _
      | exact spec_Evict.mono _ _ _ _
      | exact LeO.none _
      | refine LeO.ite ?_ ?_
      | refine LeO.bind ?_ (fun _ => ?_)
    · intro y0 y1 y2 y3 y4 y5 y6 y7 y8
      unfold laws_FnExactEvict.j1
      repeat' first
      | (with_reducible exact ih0 _ _ _ _ _ _ _ _ _ _ _ _)
      | (with_reducible exact ih1 _ _ _ _ _ _ _ _ _)
      | (with_reducible exact ih2 _ _ _ _)
      | (with_reducible exact impl_Evict.mono _ _ _ _)
      | (with_reducible exact laws_eqDevice.mono _ _ _ _ _)
      | (with_reducible exact laws_heldDevice.mono _ _ _ _)
      | (with_reducible exact laws_markDevice.mono _ _ _ _)
      | (with_reducible exact laws_szDevice.mono _ _ _ _)
      | (with_reducible exact laws_toDevice.mono _ _ _)
      | (with_reducible exact spec_Evict.mono _ _ _ _)
      | (with_reducible exact LeO.refl _)
      | (with_reducible exact LeO.none _)
      | (with_reducible refine LeO.ite ?_ ?_)
      | (with_reducible refine LeO.bind ?_ (fun _ => ?_))
      | exact ih0 _ _ _ _ _ _ _ _ _ _ _ _
      | exact ih1 _ _ _ _ _ _ _ _ _
      | exact ih2 _ _ _ _
      | exact impl_Evict.mono _ _ _ _
      | exact laws_eqDevice.mono _ _ _ _ _
      | exact laws_heldDevice.mono _ _ _ _
      | exact laws_markDevice.mono _ _ _ _
      | exact laws_szDevice.mono _ _ _ _
      | exact laws_toDevice.mono _ _ _
      | exact spec_Evict.mono _ _ _ _
      | exact LeO.none _
      | refine LeO.ite ?_ ?_
      | refine LeO.bind ?_ (fun _ => ?_)
    · intro y0 y1 y2 y3
      unfold laws_FnExactEvict.j2
      repeat' first
      | (with_reducible exact ih0 _ _ _ _ _ _ _ _ _ _ _ _)
      | (with_reducible exact ih1 _ _ _ _ _ _ _ _ _)
      | (with_reducible exact ih2 _ _ _ _)
      | (with_reducible exact impl_Evict.mono _ _ _ _)
      | (with_reducible exact laws_eqDevice.mono _ _ _ _ _)
      | (with_reducible exact laws_heldDevice.mono _ _ _ _)
      | (with_reducible exact laws_markDevice.mono _ _ _ _)
      | (with_reducible exact laws_szDevice.mono _ _ _ _)
      | (with_reducible exact laws_toDevice.mono _ _ _)
      | (with_reducible exact spec_Evict.mono _ _ _ _)
      | (with_reducible exact LeO.refl _)
      | (with_reducible exact LeO.none _)
      | (with_reducible refine LeO.ite ?_ ?_)
      | (with_reducible refine LeO.bind ?_ (fun _ => ?_))
      | exact ih0 _ _ _ _ _ _ _ _ _ _ _ _
      | exact ih1 _ _ _ _ _ _ _ _ _
      | exact ih2 _ _ _ _
      | exact impl_Evict.mono _ _ _ _
      | exact laws_eqDevice.mono _ _ _ _ _
      | exact laws_heldDevice.mono _ _ _ _
      | exact laws_markDevice.mono _ _ _ _
      | exact laws_szDevice.mono _ _ _ _
      | exact laws_toDevice.mono _ _ _
      | exact spec_Evict.mono _ _ _ _
      | exact LeO.none _
      | refine LeO.ite ?_ ?_
      | refine LeO.bind ?_ (fun _ => ?_)
theorem laws_FnExactEvict.mono : ∀ a0 a1 a2 k, LeO (laws_FnExactEvict.f k a0 a1 a2) (laws_FnExactEvict.f (k + 1) a0 a1 a2) := by
  intro a0 a1 a2 k
  obtain ⟨ih0, ih1, ih2⟩ := laws_FnExactEvict.mono_l k
  unfold laws_FnExactEvict.f
  repeat' first
      | (with_reducible exact ih0 _ _ _ _ _ _ _ _ _ _ _ _)
      | (with_reducible exact ih1 _ _ _ _ _ _ _ _ _)
      | (with_reducible exact ih2 _ _ _ _)
      | (with_reducible exact impl_Evict.mono _ _ _ _)
      | (with_reducible exact laws_eqDevice.mono _ _ _ _ _)
      | (with_reducible exact laws_heldDevice.mono _ _ _ _)
      | (with_reducible exact laws_markDevice.mono _ _ _ _)
      | (with_reducible exact laws_szDevice.mono _ _ _ _)
      | (with_reducible exact laws_toDevice.mono _ _ _)
      | (with_reducible exact spec_Evict.mono _ _ _ _)
      | (with_reducible exact LeO.refl _)
      | (with_reducible exact LeO.none _)
      | (with_reducible refine LeO.ite ?_ ?_)
      | (with_reducible refine LeO.bind ?_ (fun _ => ?_))
      | exact ih0 _ _ _ _ _ _ _ _ _ _ _ _
      | exact ih1 _ _ _ _ _ _ _ _ _
      | exact ih2 _ _ _ _
      | exact impl_Evict.mono _ _ _ _
      | exact laws_eqDevice.mono _ _ _ _ _
      | exact laws_heldDevice.mono _ _ _ _
      | exact laws_markDevice.mono _ _ _ _
      | exact laws_szDevice.mono _ _ _ _
      | exact laws_toDevice.mono _ _ _
      | exact spec_Evict.mono _ _ _ _
      | exact LeO.none _
      | refine LeO.ite ?_ ?_
      | refine LeO.bind ?_ (fun _ => ?_)
set_option maxHeartbeats 8000000 in
set_option maxRecDepth 100000 in
theorem laws_FnExactEvict.calls (k : Nat) (a0_0 : ByteArray) (A0_1 : Option Addr) (c0_1 : Nat) (l0_1 : List (S92)) (a1 : Int) (r : Bool) (w : World) (hr0_1 : Kd.C k92 w A0_1 l0_1.length l0_1) (hc0_1 : l0_1.length ≤ c0_1) (h : laws_FnExactEvict.f k a0_0 l0_1 a1 = some r) :
    Calls Try.prog 9 #[.agg #[.string a0_0, .slice A0_1 l0_1.length c0_1], .int .i64 a1] w fun e w' => e = .returned (.bool r) ∧ Below w.heap.size w w' := by
  have hu24 := Try.underlying24
  have hu30 := Try.underlying30
  have HR0_1 := Aside0.mk hr0_1
  have HC0_1 := Aside0.mk hc0_1
  clear hr0_1 hc0_1
  have HB := Aside0.mk (Below.refl w.heap.size w)
  have H : ((laws_szDevice.f k a0_0 l0_1 1048576).bind fun t190 => (if t190 < 0 then (some true) else ((laws_toDevice.f k a0_0 l0_1).bind fun bt191 => ((spec_Evict.f k bt191.1 bt191.2 a1).bind fun bt195 => ((laws_toDevice.f k a0_0 l0_1).bind fun bt201 => ((impl_Evict.f k bt201.1 bt201.2 a1).bind fun bt206 => ((laws_eqDevice.f k bt206.1 bt206.2.1 bt195.1 bt195.2.1).bind fun t212 => (if t212 = true then (laws_FnExactEvict.j0 k a1 bt195.2.2 bt206.2.2 (bt206.2.2 != bt195.2.2) a0_0 l0_1 bt195.1 bt195.2.1 bt201.1 bt201.2 bt206.1 bt206.2.1) else (laws_FnExactEvict.j0 k a1 bt195.2.2 bt206.2.2 true a0_0 l0_1 bt195.1 bt195.2.1 bt201.1 bt201.2 bt206.1 bt206.2.1))))))))) = some r := h
  clear h
  replace H := Option.bind_eq_some_iff.mp H
  obtain ⟨t190, A30, H⟩ := H
  replace H : (if t190 < 0 then (some true) else ((laws_toDevice.f k a0_0 l0_1).bind fun bt191 => ((spec_Evict.f k bt191.1 bt191.2 a1).bind fun bt195 => ((laws_toDevice.f k a0_0 l0_1).bind fun bt201 => ((impl_Evict.f k bt201.1 bt201.2 a1).bind fun bt206 => ((laws_eqDevice.f k bt206.1 bt206.2.1 bt195.1 bt195.2.1).bind fun t212 => (if t212 = true then (laws_FnExactEvict.j0 k a1 bt195.2.2 bt206.2.2 (bt206.2.2 != bt195.2.2) a0_0 l0_1 bt195.1 bt195.2.1 bt201.1 bt201.2 bt206.1 bt206.2.1) else (laws_FnExactEvict.j0 k a1 bt195.2.2 bt206.2.2 true a0_0 l0_1 bt195.1 bt195.2.1 bt201.1 bt201.2 bt206.1 bt206.2.1)))))))) = some r := H
  have A3 := Aside0.mk A30
  clear A30
  by_cases c4 : t190 < 0
  · rw [if_pos c4] at H
    have c4b0 : decide (t190 < 0) = true := decide_eq_true c4
    clear c4
    obtain rfl := Option.some.inj H
    go_enter Try.func9, Try.ntmps9
    go_wp2_with (first | ((with_reducible refine gate_dst (N := 2) rfl ?_); refine box_event ?hg (N := 2) ?hd (cs := #[.string a0_0, .slice A0_1 l0_1.length c0_1]) (t := 24) ?hr ?_; (case hd => rfl); (case hg => rfl); (case hr => first | (go_simp; done) | (go_simp; rfl)); intro gb189 hg w5 hbox hb; have n0_ := Aside0.mk (below_step (by repeat (first | (with_reducible first | exact HB.out | apply below_alloc | apply pw_below_drewN | apply below_drew1) | exact HB.out)) hb); have n1_ := Aside0.mk (hbox); have n2_ := Aside0.mk ((by rw [hg]; exact (below_size (by repeat (first | (with_reducible first | exact HB.out | apply below_alloc | apply pw_below_drewN | apply below_drew1) | exact HB.out))) : w.heap.size ≤ gb189)); have n3_ := Aside0.mk ((by rw [hg]; exact (below_size (by repeat (first | (with_reducible first | exact HB.out | apply below_alloc | apply pw_below_drewN | apply below_drew1) | exact HB.out))) : w.heap.size ≤ gb189)); clear HB; have HB := n0_; have BK189 := n1_; have GW189 := n2_; have GE189 := n3_; clear n0_ n1_ n2_ n3_; clear hb hbox hg; have hcz6_0 : w5.cell? ⟨gb189, 0, none⟩ = some (.string a0_0) := (blk_cell BK189.out 0).trans rfl; have hcz6_1 : w5.cell? ⟨gb189, 1, none⟩ = some (.slice A0_1 l0_1.length c0_1) := (blk_cell BK189.out 1).trans rfl; have hfz6_0 := blk_frozen BK189.out 0; have hfz6_1 := blk_frozen BK189.out 1) | ((with_reducible refine gate_callee (f := 16) rfl ?_); refine goesL_ (some 18) rfl rfl Try.func16 (by kernel_rfl) rfl #[.agg #[.string a0_0, .slice A0_1 l0_1.length c0_1], .int .i64 1048576] rfl (by (try simp only [List.map_toArray, List.map_cons, List.map_nil]); first | done | rfl | (simp only [List.length_drop, List.length_take]; rfl)) ?_; (with_reducible refine (laws_szDevice.calls k a0_0 _ _ l0_1 1048576 t190 _ ?side1 ?side2 A3.out).mono ?_); (case side1 => repeat (first | exact (Kd.C_below HR0_1.out HB.out) | (with_reducible refine Kd.C_alloc ?_ _) | (with_reducible refine Kd.C_drewN ?_ _) | (with_reducible refine Kd.C_drew ?_))); (case side2 => exact HC0_1.out); rintro e w7 ⟨rfl, hb⟩; refine ⟨_, rfl, ?_⟩; have n0_ := Aside0.mk (blk_below (g := gb189) (o := .cells #[.string a0_0, .slice A0_1 l0_1.length c0_1] 24 (0, 0)) (by (with_reducible repeat (first | refine blk_drewN ?_ _ | refine blk_drew ?_ | refine blk_alloc ?_ _)); exact BK189.out) hb); have n1_ := Aside0.mk (below_step (by repeat (first | (with_reducible first | exact HB.out | apply below_alloc | apply pw_below_drewN | apply below_drew1 | refine below_set ?_ GE189.out) | exact HB.out)) hb); clear BK189; clear HB; have BK189 := n0_; have HB := n1_; clear n0_ n1_; (try clear hb); (try clear hb2); (try clear hk); (try clear hi)))
    go_ret
    exact ⟨by first | rfl | (simp [errW_none, errW_some] <;> rfl) | (simp [*, errW_none, errW_some] <;> rfl), by repeat (first | (with_reducible first | exact HB.out | apply below_alloc | apply pw_below_drewN | apply below_drew1 | refine below_set ?_ GE189.out) | exact HB.out)⟩
  · rw [if_neg c4] at H
    have c4b0 : decide (t190 < 0) = false := decide_eq_false c4
    clear c4
    replace H := Option.bind_eq_some_iff.mp H
    obtain ⟨⟨t191, t192⟩, A80, H⟩ := H
    replace H : ((spec_Evict.f k t191 t192 a1).bind fun bt195 => ((laws_toDevice.f k a0_0 l0_1).bind fun bt201 => ((impl_Evict.f k bt201.1 bt201.2 a1).bind fun bt206 => ((laws_eqDevice.f k bt206.1 bt206.2.1 bt195.1 bt195.2.1).bind fun t212 => (if t212 = true then (laws_FnExactEvict.j0 k a1 bt195.2.2 bt206.2.2 (bt206.2.2 != bt195.2.2) a0_0 l0_1 bt195.1 bt195.2.1 bt201.1 bt201.2 bt206.1 bt206.2.1) else (laws_FnExactEvict.j0 k a1 bt195.2.2 bt206.2.2 true a0_0 l0_1 bt195.1 bt195.2.1 bt201.1 bt201.2 bt206.1 bt206.2.1)))))) = some r := H
    have A8 := Aside0.mk A80
    clear A80
    replace H := Option.bind_eq_some_iff.mp H
    obtain ⟨⟨t195, t196, t199⟩, A90, H⟩ := H
    replace H : ((laws_toDevice.f k a0_0 l0_1).bind fun bt201 => ((impl_Evict.f k bt201.1 bt201.2 a1).bind fun bt206 => ((laws_eqDevice.f k bt206.1 bt206.2.1 t195 t196).bind fun t212 => (if t212 = true then (laws_FnExactEvict.j0 k a1 t199 bt206.2.2 (bt206.2.2 != t199) a0_0 l0_1 t195 t196 bt201.1 bt201.2 bt206.1 bt206.2.1) else (laws_FnExactEvict.j0 k a1 t199 bt206.2.2 true a0_0 l0_1 t195 t196 bt201.1 bt201.2 bt206.1 bt206.2.1))))) = some r := H
    have A9 := Aside0.mk A90
    clear A90
    replace H := Option.bind_eq_some_iff.mp H
    obtain ⟨⟨t201, t202⟩, A100, H⟩ := H
    replace H : ((impl_Evict.f k t201 t202 a1).bind fun bt206 => ((laws_eqDevice.f k bt206.1 bt206.2.1 t195 t196).bind fun t212 => (if t212 = true then (laws_FnExactEvict.j0 k a1 t199 bt206.2.2 (bt206.2.2 != t199) a0_0 l0_1 t195 t196 t201 t202 bt206.1 bt206.2.1) else (laws_FnExactEvict.j0 k a1 t199 bt206.2.2 true a0_0 l0_1 t195 t196 t201 t202 bt206.1 bt206.2.1)))) = some r := H
    have A10 := Aside0.mk A100
    clear A100
    replace H := Option.bind_eq_some_iff.mp H
    obtain ⟨⟨t206, t207, t210⟩, A110, H⟩ := H
    replace H : ((laws_eqDevice.f k t206 t207 t195 t196).bind fun t212 => (if t212 = true then (laws_FnExactEvict.j0 k a1 t199 t210 (t210 != t199) a0_0 l0_1 t195 t196 t201 t202 t206 t207) else (laws_FnExactEvict.j0 k a1 t199 t210 true a0_0 l0_1 t195 t196 t201 t202 t206 t207))) = some r := H
    have A11 := Aside0.mk A110
    clear A110
    have HC12 := Aside0.mk H
    clear H
    go_enter Try.func9, Try.ntmps9
    go_upto_region 8 with (first | ((with_reducible refine gate_dst (N := 2) rfl ?_); refine box_event ?hg (N := 2) ?hd (cs := #[.string a0_0, .slice A0_1 l0_1.length c0_1]) (t := 24) ?hr ?_; (case hd => rfl); (case hg => rfl); (case hr => first | (go_simp; done) | (go_simp; rfl)); intro gb189 hg w13 hbox hb; have n0_ := Aside0.mk (below_step (by repeat (first | (with_reducible first | exact HB.out | apply below_alloc | apply pw_below_drewN | apply below_drew1) | exact HB.out)) hb); have n1_ := Aside0.mk (hbox); have n2_ := Aside0.mk ((by rw [hg]; exact (below_size (by repeat (first | (with_reducible first | exact HB.out | apply below_alloc | apply pw_below_drewN | apply below_drew1) | exact HB.out))) : w.heap.size ≤ gb189)); have n3_ := Aside0.mk ((by rw [hg]; exact (below_size (by repeat (first | (with_reducible first | exact HB.out | apply below_alloc | apply pw_below_drewN | apply below_drew1) | exact HB.out))) : w.heap.size ≤ gb189)); clear HB; have HB := n0_; have BK189 := n1_; have GW189 := n2_; have GE189 := n3_; clear n0_ n1_ n2_ n3_; clear hb hbox hg; have hcz14_0 : w13.cell? ⟨gb189, 0, none⟩ = some (.string a0_0) := (blk_cell BK189.out 0).trans rfl; have hcz14_1 : w13.cell? ⟨gb189, 1, none⟩ = some (.slice A0_1 l0_1.length c0_1) := (blk_cell BK189.out 1).trans rfl; have hfz14_0 := blk_frozen BK189.out 0; have hfz14_1 := blk_frozen BK189.out 1) | ((with_reducible refine gate_callee (f := 16) rfl ?_); refine goesL_ (some 18) rfl rfl Try.func16 (by kernel_rfl) rfl #[.agg #[.string a0_0, .slice A0_1 l0_1.length c0_1], .int .i64 1048576] rfl (by (try simp only [List.map_toArray, List.map_cons, List.map_nil]); first | done | rfl | (simp only [List.length_drop, List.length_take]; rfl)) ?_; (with_reducible refine (laws_szDevice.calls k a0_0 _ _ l0_1 1048576 t190 _ ?side1 ?side2 A3.out).mono ?_); (case side1 => repeat (first | exact (Kd.C_below HR0_1.out HB.out) | (with_reducible refine Kd.C_alloc ?_ _) | (with_reducible refine Kd.C_drewN ?_ _) | (with_reducible refine Kd.C_drew ?_))); (case side2 => exact HC0_1.out); rintro e w15 ⟨rfl, hb⟩; refine ⟨_, rfl, ?_⟩; have n0_ := Aside0.mk (blk_below (g := gb189) (o := .cells #[.string a0_0, .slice A0_1 l0_1.length c0_1] 24 (0, 0)) (by (with_reducible repeat (first | refine blk_drewN ?_ _ | refine blk_drew ?_ | refine blk_alloc ?_ _)); exact BK189.out) hb); have n1_ := Aside0.mk (below_step (by repeat (first | (with_reducible first | exact HB.out | apply below_alloc | apply pw_below_drewN | apply below_drew1 | refine below_set ?_ GE189.out) | exact HB.out)) hb); clear BK189; clear HB; have BK189 := n0_; have HB := n1_; clear n0_ n1_; (try clear hb); (try clear hb2); (try clear hk); (try clear hi); have hcz16_0 : w15.cell? ⟨gb189, 0, none⟩ = some (.string a0_0) := (blk_cell BK189.out 0).trans rfl; have hcz16_1 : w15.cell? ⟨gb189, 1, none⟩ = some (.slice A0_1 l0_1.length c0_1) := (blk_cell BK189.out 1).trans rfl; have hfz16_0 := blk_frozen BK189.out 0; have hfz16_1 := blk_frozen BK189.out 1) | ((with_reducible refine gate_callee (f := 18) rfl ?_); refine goesL_ (some 23) rfl rfl Try.func18 (by kernel_rfl) rfl #[.agg #[.string a0_0, .slice A0_1 l0_1.length c0_1]] rfl (by (try simp only [List.map_toArray, List.map_cons, List.map_nil]); first | done | rfl | (simp only [List.length_drop, List.length_take]; rfl)) ?_; (with_reducible refine (laws_toDevice.calls k a0_0 _ _ l0_1 t191 t192 _ ?side1 ?side2 A8.out).mono ?_); (case side1 => repeat (first | exact (Kd.C_below HR0_1.out HB.out) | (with_reducible refine Kd.C_alloc ?_ _) | (with_reducible refine Kd.C_drewN ?_ _) | (with_reducible refine Kd.C_drew ?_))); (case side2 => exact HC0_1.out); rintro e w17 ⟨v193, rfl, ho0, hb⟩; refine ⟨_, rfl, ?_⟩; have n0_ := Aside0.mk (Kd.R_lower ho0 (below_size (by repeat (first | (with_reducible first | exact HB.out | apply below_alloc | apply pw_below_drewN | apply below_drew1 | refine below_set ?_ GE189.out) | exact HB.out)))); have n1_ := Aside0.mk (blk_below (g := gb189) (o := .cells #[.string a0_0, .slice A0_1 l0_1.length c0_1] 24 (0, 0)) (by (with_reducible repeat (first | refine blk_drewN ?_ _ | refine blk_drew ?_ | refine blk_alloc ?_ _)); exact BK189.out) hb); have n2_ := Aside0.mk (below_step (by repeat (first | (with_reducible first | exact HB.out | apply below_alloc | apply pw_below_drewN | apply below_drew1 | refine below_set ?_ GE189.out) | exact HB.out)) hb); clear BK189; clear HB; have HO194 := n0_; have BK189 := n1_; have HB := n2_; clear n0_ n1_ n2_; (try clear hb); (try clear hb2); (try clear hk); (try clear hi); (try clear ho0); obtain ⟨Ao18, co18, eo18⟩ := Kd.R_slice HO194.out; subst eo18) | ((with_reducible refine gate_callee (f := 37) rfl ?_); refine goesL_ (some 25) rfl rfl Try.func37 (by kernel_rfl) rfl #[.agg #[.string t191, .slice Ao18 t192.length co18], .int .i64 a1] rfl (by (try simp only [List.map_toArray, List.map_cons, List.map_nil]); first | done | rfl | (simp only [List.length_drop, List.length_take]; rfl)) ?_; (with_reducible refine (spec_Evict.calls k t191 _ _ t192 a1 t195 t196 t199 _ ?side1 ?side2 A9.out).mono ?_); (case side1 => repeat (first | exact (Kd.R_reads' HO194.out).2.2 | (with_reducible refine Kd.C_alloc ?_ _) | (with_reducible refine Kd.C_drewN ?_ _) | (with_reducible refine Kd.C_drew ?_))); (case side2 => exact (Kd.R_reads' HO194.out).2.1); rintro e w19 ⟨v197, rfl, ho0, hb⟩; refine ⟨_, rfl, ?_⟩; have n0_ := Aside0.mk (Kd.R_elder' (by (with_reducible repeat (first | apply Kd.R_alloc | apply Kd.R_drewN | apply Kd.R_drew)); exact HO194.out) (Kd.R_base ho0) hb); have n1_ := Aside0.mk (Kd.R_lower (Kd.R_new' ho0 (Kd.R_lt (by (with_reducible repeat (first | apply Kd.R_alloc | apply Kd.R_drewN | apply Kd.R_drew)); exact HO194.out))) (below_size (by repeat (first | (with_reducible first | exact HB.out | apply below_alloc | apply pw_below_drewN | apply below_drew1 | refine below_set ?_ GE189.out) | exact HB.out)))); have n2_ := Aside0.mk (blk_below (g := gb189) (o := .cells #[.string a0_0, .slice A0_1 l0_1.length c0_1] 24 (0, 0)) (by (with_reducible repeat (first | refine blk_drewN ?_ _ | refine blk_drew ?_ | refine blk_alloc ?_ _)); exact BK189.out) hb); have n3_ := Aside0.mk (below_step (by repeat (first | (with_reducible first | exact HB.out | apply below_alloc | apply pw_below_drewN | apply below_drew1 | refine below_set ?_ GE189.out) | exact HB.out)) hb); clear HO194; clear BK189; clear HB; have HO194 := n0_; have HO198 := n1_; have BK189 := n2_; have HB := n3_; clear n0_ n1_ n2_ n3_; (try clear hb); (try clear hb2); (try clear hk); (try clear hi); (try clear ho0)) | ((with_reducible refine gate_dst (N := 6) rfl ?_); refine box_event ?hg (N := 6) ?hd (cs := #[.string (⟨#[]⟩ : ByteArray), .slice none 0 0]) (t := 30) ?hr ?_; (case hd => rfl); (case hg => rfl); (case hr => first | (go_simp; done) | (go_simp; rfl)); intro gb200 hg w20 hbox hb; have n0_ := Aside0.mk (Kd.R_below (by (with_reducible repeat (first | apply Kd.R_alloc | apply Kd.R_drewN | apply Kd.R_drew)); exact HO194.out) hb); have n1_ := Aside0.mk (Kd.R_below (by (with_reducible repeat (first | apply Kd.R_alloc | apply Kd.R_drewN | apply Kd.R_drew)); exact HO198.out) hb); have n2_ := Aside0.mk (blk_below (g := gb189) (o := .cells #[.string a0_0, .slice A0_1 l0_1.length c0_1] 24 (0, 0)) (by (with_reducible repeat (first | refine blk_drewN ?_ _ | refine blk_drew ?_ | refine blk_alloc ?_ _)); exact BK189.out) hb); have n3_ := Aside0.mk (below_step (by repeat (first | (with_reducible first | exact HB.out | apply below_alloc | apply pw_below_drewN | apply below_drew1 | refine below_set ?_ GE189.out) | exact HB.out)) hb); have n4_ := Aside0.mk (hbox); have n5_ := Aside0.mk ((by rw [hg]; exact (below_size (by repeat (first | (with_reducible first | exact HB.out | apply below_alloc | apply pw_below_drewN | apply below_drew1 | refine below_set ?_ GE189.out) | exact HB.out))) : w.heap.size ≤ gb200)); have n6_ := Aside0.mk ((by rw [hg]; exact (below_size (by repeat (first | (with_reducible first | exact HB.out | apply below_alloc | apply pw_below_drewN | apply below_drew1 | refine below_set ?_ GE189.out) | exact HB.out))) : w.heap.size ≤ gb200)); have n7_ := Aside0.mk ((by rw [hg]; exact Nat.ne_of_lt (blk_lt (g := gb189) (o := .cells #[.string a0_0, .slice A0_1 l0_1.length c0_1] 24 (0, 0)) (by (with_reducible repeat (first | refine blk_drewN ?_ _ | refine blk_drew ?_ | refine blk_alloc ?_ _)); exact BK189.out)) : gb189 ≠ gb200)); have n8_ := Aside0.mk ((by rw [hg]; exact Nat.ne_of_gt (blk_lt (g := gb189) (o := .cells #[.string a0_0, .slice A0_1 l0_1.length c0_1] 24 (0, 0)) (by (with_reducible repeat (first | refine blk_drewN ?_ _ | refine blk_drew ?_ | refine blk_alloc ?_ _)); exact BK189.out)) : gb200 ≠ gb189)); clear HO194; clear HO198; clear BK189; clear HB; have HO194 := n0_; have HO198 := n1_; have BK189 := n2_; have HB := n3_; have BK200 := n4_; have GW200 := n5_; have GE200 := n6_; have NB189_200 := n7_; have NB200_189 := n8_; clear n0_ n1_ n2_ n3_ n4_ n5_ n6_ n7_ n8_; clear hb hbox hg; have hnb21 := NB200_189.out; have hnc21 := NB189_200.out; have hcz22_0 : w20.cell? ⟨gb200, 0, none⟩ = some (.string (⟨#[]⟩ : ByteArray)) := (blk_cell BK200.out 0).trans rfl; have hcz22_1 : w20.cell? ⟨gb200, 1, none⟩ = some (.slice none 0 0) := (blk_cell BK200.out 1).trans rfl; have hfz22_0 := blk_frozen BK200.out 0; have hfz22_1 := blk_frozen BK200.out 1; obtain ⟨Ao23, co23, eo23⟩ := Kd.R_slice HO198.out; subst eo23; have hcz24_0 : w20.cell? ⟨gb189, 0, none⟩ = some (.string a0_0) := (blk_cell BK189.out 0).trans rfl; have hcz24_1 : w20.cell? ⟨gb189, 1, none⟩ = some (.slice A0_1 l0_1.length c0_1) := (blk_cell BK189.out 1).trans rfl; have hfz24_0 := blk_frozen BK189.out 0; have hfz24_1 := blk_frozen BK189.out 1) | ((with_reducible refine gate_callee (f := 18) rfl ?_); refine goesL_ (some 29) rfl rfl Try.func18 (by kernel_rfl) rfl #[.agg #[.string a0_0, .slice A0_1 l0_1.length c0_1]] rfl (by (try simp only [List.map_toArray, List.map_cons, List.map_nil]); first | done | rfl | (simp only [List.length_drop, List.length_take]; rfl)) ?_; (with_reducible refine (laws_toDevice.calls k a0_0 _ _ l0_1 t201 t202 _ ?side1 ?side2 A10.out).mono ?_); (case side1 => exact Kd.C_below HR0_1.out (by repeat (first | (with_reducible first | exact HB.out | apply below_alloc | apply pw_below_drewN | apply below_drew1 | refine below_set ?_ GE189.out | refine below_set ?_ GE200.out) | exact HB.out))); (case side2 => exact HC0_1.out); rintro e w25 ⟨v203, rfl, ho0, hb⟩; refine ⟨_, rfl, ?_⟩; have n0_ := Aside0.mk (Kd.R_elder' (by (with_reducible repeat (first | apply Kd.R_alloc | apply Kd.R_drewN | apply Kd.R_drew)); exact (Kd.R_mono (Kd.R_far (p := ⟨gb200, 1, none⟩) (Kd.R_far (p := ⟨gb200, 0, none⟩) (Kd.R_types HO194.out BK200.out (by decide)) (fun _ hk => hk.2) (.string t195)) (fun _ hk => hk.2) (.slice Ao23 t196.length co23)) (fun _ h_ => h_.1))) (Kd.R_base ho0) hb); have n1_ := Aside0.mk (Kd.R_elder' (by (with_reducible repeat (first | apply Kd.R_alloc | apply Kd.R_drewN | apply Kd.R_drew)); exact (Kd.R_mono (Kd.R_far (p := ⟨gb200, 1, none⟩) (Kd.R_far (p := ⟨gb200, 0, none⟩) (Kd.R_types HO198.out BK200.out (by decide)) (fun _ hk => hk.2) (.string t195)) (fun _ hk => hk.2) (.slice Ao23 t196.length co23)) (fun _ h_ => h_.1))) (Kd.R_base ho0) hb); have n2_ := Aside0.mk (Kd.R_lower (Kd.R_new' (Kd.R_new' ho0 (Kd.R_lt (by (with_reducible repeat (first | apply Kd.R_alloc | apply Kd.R_drewN | apply Kd.R_drew)); exact (Kd.R_mono (Kd.R_far (p := ⟨gb200, 1, none⟩) (Kd.R_far (p := ⟨gb200, 0, none⟩) (Kd.R_types HO194.out BK200.out (by decide)) (fun _ hk => hk.2) (.string t195)) (fun _ hk => hk.2) (.slice Ao23 t196.length co23)) (fun _ h_ => h_.1))))) (Kd.R_lt (by (with_reducible repeat (first | apply Kd.R_alloc | apply Kd.R_drewN | apply Kd.R_drew)); exact (Kd.R_mono (Kd.R_far (p := ⟨gb200, 1, none⟩) (Kd.R_far (p := ⟨gb200, 0, none⟩) (Kd.R_types HO198.out BK200.out (by decide)) (fun _ hk => hk.2) (.string t195)) (fun _ hk => hk.2) (.slice Ao23 t196.length co23)) (fun _ h_ => h_.1))))) (below_size (by repeat (first | (with_reducible first | exact HB.out | apply below_alloc | apply pw_below_drewN | apply below_drew1 | refine below_set ?_ GE189.out | refine below_set ?_ GE200.out) | exact HB.out)))); have n3_ := Aside0.mk (blk_below (g := gb189) (o := .cells #[.string a0_0, .slice A0_1 l0_1.length c0_1] 24 (0, 0)) (by (with_reducible repeat (first | refine blk_drewN ?_ _ | refine blk_drew ?_ | refine blk_alloc ?_ _)); refine blk_far ?_ NB189_200.out _; (with_reducible repeat (first | refine blk_drewN ?_ _ | refine blk_drew ?_ | refine blk_alloc ?_ _)); refine blk_far ?_ NB189_200.out _; (with_reducible repeat (first | refine blk_drewN ?_ _ | refine blk_drew ?_ | refine blk_alloc ?_ _)); exact BK189.out) hb); have n4_ := Aside0.mk (blk_below (g := gb200) (o := .cells #[.string t195, .slice Ao23 t196.length co23] 30 (0, 0)) (by (with_reducible repeat (first | refine blk_drewN ?_ _ | refine blk_drew ?_ | refine blk_alloc ?_ _)); refine blk_put (cs := #[.string t195, .slice none 0 0]) ?_ 1 _ rfl; (with_reducible repeat (first | refine blk_drewN ?_ _ | refine blk_drew ?_ | refine blk_alloc ?_ _)); refine blk_put (cs := #[.string (⟨#[]⟩ : ByteArray), .slice none 0 0]) ?_ 0 _ rfl; (with_reducible repeat (first | refine blk_drewN ?_ _ | refine blk_drew ?_ | refine blk_alloc ?_ _)); exact BK200.out) hb); have n5_ := Aside0.mk (below_step (by repeat (first | (with_reducible first | exact HB.out | apply below_alloc | apply pw_below_drewN | apply below_drew1 | refine below_set ?_ GE189.out | refine below_set ?_ GE200.out) | exact HB.out)) hb); clear HO194; clear HO198; clear BK189; clear BK200; clear HB; have HO194 := n0_; have HO198 := n1_; have HO204 := n2_; have BK189 := n3_; have BK200 := n4_; have HB := n5_; clear n0_ n1_ n2_ n3_ n4_ n5_; (try clear hb); (try clear hb2); (try clear hk); (try clear hi); (try clear ho0)) | ((with_reducible refine gate_dst (N := 8) rfl ?_); refine box_event ?hg (N := 8) ?hd (cs := #[.string (⟨#[]⟩ : ByteArray), .slice none 0 0]) (t := 30) ?hr ?_; (case hd => rfl); (case hg => rfl); (case hr => first | (go_simp; done) | (go_simp; rfl)); intro gb205 hg w26 hbox hb; have n0_ := Aside0.mk (Kd.R_below (by (with_reducible repeat (first | apply Kd.R_alloc | apply Kd.R_drewN | apply Kd.R_drew)); exact HO194.out) hb); have n1_ := Aside0.mk (Kd.R_below (by (with_reducible repeat (first | apply Kd.R_alloc | apply Kd.R_drewN | apply Kd.R_drew)); exact HO198.out) hb); have n2_ := Aside0.mk (Kd.R_below (by (with_reducible repeat (first | apply Kd.R_alloc | apply Kd.R_drewN | apply Kd.R_drew)); exact HO204.out) hb); have n3_ := Aside0.mk (blk_below (g := gb189) (o := .cells #[.string a0_0, .slice A0_1 l0_1.length c0_1] 24 (0, 0)) (by (with_reducible repeat (first | refine blk_drewN ?_ _ | refine blk_drew ?_ | refine blk_alloc ?_ _)); exact BK189.out) hb); have n4_ := Aside0.mk (blk_below (g := gb200) (o := .cells #[.string t195, .slice Ao23 t196.length co23] 30 (0, 0)) (by (with_reducible repeat (first | refine blk_drewN ?_ _ | refine blk_drew ?_ | refine blk_alloc ?_ _)); exact BK200.out) hb); have n5_ := Aside0.mk (below_step (by repeat (first | (with_reducible first | exact HB.out | apply below_alloc | apply pw_below_drewN | apply below_drew1 | refine below_set ?_ GE189.out | refine below_set ?_ GE200.out) | exact HB.out)) hb); have n6_ := Aside0.mk (hbox); have n7_ := Aside0.mk ((by rw [hg]; exact (below_size (by repeat (first | (with_reducible first | exact HB.out | apply below_alloc | apply pw_below_drewN | apply below_drew1 | refine below_set ?_ GE189.out | refine below_set ?_ GE200.out) | exact HB.out))) : w.heap.size ≤ gb205)); have n8_ := Aside0.mk ((by rw [hg]; exact (below_size (by repeat (first | (with_reducible first | exact HB.out | apply below_alloc | apply pw_below_drewN | apply below_drew1 | refine below_set ?_ GE189.out | refine below_set ?_ GE200.out) | exact HB.out))) : w.heap.size ≤ gb205)); have n9_ := Aside0.mk ((by rw [hg]; exact Nat.ne_of_lt (blk_lt (g := gb189) (o := .cells #[.string a0_0, .slice A0_1 l0_1.length c0_1] 24 (0, 0)) (by (with_reducible repeat (first | refine blk_drewN ?_ _ | refine blk_drew ?_ | refine blk_alloc ?_ _)); exact BK189.out)) : gb189 ≠ gb205)); have n10_ := Aside0.mk ((by rw [hg]; exact Nat.ne_of_gt (blk_lt (g := gb189) (o := .cells #[.string a0_0, .slice A0_1 l0_1.length c0_1] 24 (0, 0)) (by (with_reducible repeat (first | refine blk_drewN ?_ _ | refine blk_drew ?_ | refine blk_alloc ?_ _)); exact BK189.out)) : gb205 ≠ gb189)); have n11_ := Aside0.mk ((by rw [hg]; exact Nat.ne_of_lt (blk_lt (g := gb200) (o := .cells #[.string t195, .slice Ao23 t196.length co23] 30 (0, 0)) (by (with_reducible repeat (first | refine blk_drewN ?_ _ | refine blk_drew ?_ | refine blk_alloc ?_ _)); exact BK200.out)) : gb200 ≠ gb205)); have n12_ := Aside0.mk ((by rw [hg]; exact Nat.ne_of_gt (blk_lt (g := gb200) (o := .cells #[.string t195, .slice Ao23 t196.length co23] 30 (0, 0)) (by (with_reducible repeat (first | refine blk_drewN ?_ _ | refine blk_drew ?_ | refine blk_alloc ?_ _)); exact BK200.out)) : gb205 ≠ gb200)); clear HO194; clear HO198; clear HO204; clear BK189; clear BK200; clear HB; have HO194 := n0_; have HO198 := n1_; have HO204 := n2_; have BK189 := n3_; have BK200 := n4_; have HB := n5_; have BK205 := n6_; have GW205 := n7_; have GE205 := n8_; have NB189_205 := n9_; have NB205_189 := n10_; have NB200_205 := n11_; have NB205_200 := n12_; clear n0_ n1_ n2_ n3_ n4_ n5_ n6_ n7_ n8_ n9_ n10_ n11_ n12_; clear hb hbox hg; have hnb27 := NB205_189.out; have hnc27 := NB189_205.out; have hnb28 := NB205_200.out; have hnc28 := NB200_205.out; have hcz29_0 : w26.cell? ⟨gb205, 0, none⟩ = some (.string (⟨#[]⟩ : ByteArray)) := (blk_cell BK205.out 0).trans rfl; have hcz29_1 : w26.cell? ⟨gb205, 1, none⟩ = some (.slice none 0 0) := (blk_cell BK205.out 1).trans rfl; have hfz29_0 := blk_frozen BK205.out 0; have hfz29_1 := blk_frozen BK205.out 1; obtain ⟨Ao30, co30, eo30⟩ := Kd.R_slice HO204.out; subst eo30) | ((with_reducible refine gate_callee (f := 38) rfl ?_); refine goesL_ (some 33) rfl rfl Try.func38 (by kernel_rfl) rfl #[.agg #[.string t201, .slice Ao30 t202.length co30], .int .i64 a1] rfl (by (try simp only [List.map_toArray, List.map_cons, List.map_nil]); first | done | rfl | (simp only [List.length_drop, List.length_take]; rfl)) ?_; (with_reducible refine (impl_Evict.calls k t201 _ _ t202 a1 t206 t207 t210 _ ?side1 ?side2 A11.out).mono ?_); (case side1 => refine (Kd.R_reads' (e := 67) (base := w.heap.size) (ok := fun k_ => ((True ∧ some k_ ≠ (.slice Ao18 t192.length co18 : Value).ownBlock) ∧ some k_ ≠ (.slice Ao23 t196.length co23 : Value).ownBlock)) (n := t202.length) (c := co30) ?_).2.2; exact (by (with_reducible repeat (first | apply Kd.R_alloc | apply Kd.R_drewN | apply Kd.R_drew)); exact (Kd.R_mono (Kd.R_far (p := ⟨gb205, 1, none⟩) (Kd.R_far (p := ⟨gb205, 0, none⟩) (Kd.R_types HO204.out BK205.out (by decide)) (fun _ hk => hk.2) (.string t201)) (fun _ hk => hk.2) (.slice Ao30 t202.length co30)) (fun _ h_ => h_.1)))); (case side2 => exact (Kd.R_reads' HO204.out).2.1); rintro e w31 ⟨v208, rfl, ho0, hb⟩; refine ⟨_, rfl, ?_⟩; have n0_ := Aside0.mk (Kd.R_elder' (by (with_reducible repeat (first | apply Kd.R_alloc | apply Kd.R_drewN | apply Kd.R_drew)); exact (Kd.R_mono (Kd.R_far (p := ⟨gb205, 1, none⟩) (Kd.R_far (p := ⟨gb205, 0, none⟩) (Kd.R_types HO194.out BK205.out (by decide)) (fun _ hk => hk.2) (.string t201)) (fun _ hk => hk.2) (.slice Ao30 t202.length co30)) (fun _ h_ => h_.1))) (Kd.R_base ho0) hb); have n1_ := Aside0.mk (Kd.R_elder' (by (with_reducible repeat (first | apply Kd.R_alloc | apply Kd.R_drewN | apply Kd.R_drew)); exact (Kd.R_mono (Kd.R_far (p := ⟨gb205, 1, none⟩) (Kd.R_far (p := ⟨gb205, 0, none⟩) (Kd.R_types HO198.out BK205.out (by decide)) (fun _ hk => hk.2) (.string t201)) (fun _ hk => hk.2) (.slice Ao30 t202.length co30)) (fun _ h_ => h_.1))) (Kd.R_base ho0) hb); have n2_ := Aside0.mk (Kd.R_elder' (by (with_reducible repeat (first | apply Kd.R_alloc | apply Kd.R_drewN | apply Kd.R_drew)); exact (Kd.R_mono (Kd.R_far (p := ⟨gb205, 1, none⟩) (Kd.R_far (p := ⟨gb205, 0, none⟩) (Kd.R_types HO204.out BK205.out (by decide)) (fun _ hk => hk.2) (.string t201)) (fun _ hk => hk.2) (.slice Ao30 t202.length co30)) (fun _ h_ => h_.1))) (Kd.R_base ho0) hb); have n3_ := Aside0.mk (Kd.R_lower (Kd.R_new' (Kd.R_new' (Kd.R_new' ho0 (Kd.R_lt (by (with_reducible repeat (first | apply Kd.R_alloc | apply Kd.R_drewN | apply Kd.R_drew)); exact (Kd.R_mono (Kd.R_far (p := ⟨gb205, 1, none⟩) (Kd.R_far (p := ⟨gb205, 0, none⟩) (Kd.R_types HO194.out BK205.out (by decide)) (fun _ hk => hk.2) (.string t201)) (fun _ hk => hk.2) (.slice Ao30 t202.length co30)) (fun _ h_ => h_.1))))) (Kd.R_lt (by (with_reducible repeat (first | apply Kd.R_alloc | apply Kd.R_drewN | apply Kd.R_drew)); exact (Kd.R_mono (Kd.R_far (p := ⟨gb205, 1, none⟩) (Kd.R_far (p := ⟨gb205, 0, none⟩) (Kd.R_types HO198.out BK205.out (by decide)) (fun _ hk => hk.2) (.string t201)) (fun _ hk => hk.2) (.slice Ao30 t202.length co30)) (fun _ h_ => h_.1))))) (Kd.R_lt (by (with_reducible repeat (first | apply Kd.R_alloc | apply Kd.R_drewN | apply Kd.R_drew)); exact (Kd.R_mono (Kd.R_far (p := ⟨gb205, 1, none⟩) (Kd.R_far (p := ⟨gb205, 0, none⟩) (Kd.R_types HO204.out BK205.out (by decide)) (fun _ hk => hk.2) (.string t201)) (fun _ hk => hk.2) (.slice Ao30 t202.length co30)) (fun _ h_ => h_.1))))) (below_size (by repeat (first | (with_reducible first | exact HB.out | apply below_alloc | apply pw_below_drewN | apply below_drew1 | refine below_set ?_ GE189.out | refine below_set ?_ GE200.out | refine below_set ?_ GE205.out) | exact HB.out)))); have n4_ := Aside0.mk (blk_below (g := gb189) (o := .cells #[.string a0_0, .slice A0_1 l0_1.length c0_1] 24 (0, 0)) (by (with_reducible repeat (first | refine blk_drewN ?_ _ | refine blk_drew ?_ | refine blk_alloc ?_ _)); refine blk_far ?_ NB189_205.out _; (with_reducible repeat (first | refine blk_drewN ?_ _ | refine blk_drew ?_ | refine blk_alloc ?_ _)); refine blk_far ?_ NB189_205.out _; (with_reducible repeat (first | refine blk_drewN ?_ _ | refine blk_drew ?_ | refine blk_alloc ?_ _)); exact BK189.out) hb); have n5_ := Aside0.mk (blk_below (g := gb200) (o := .cells #[.string t195, .slice Ao23 t196.length co23] 30 (0, 0)) (by (with_reducible repeat (first | refine blk_drewN ?_ _ | refine blk_drew ?_ | refine blk_alloc ?_ _)); refine blk_far ?_ NB200_205.out _; (with_reducible repeat (first | refine blk_drewN ?_ _ | refine blk_drew ?_ | refine blk_alloc ?_ _)); refine blk_far ?_ NB200_205.out _; (with_reducible repeat (first | refine blk_drewN ?_ _ | refine blk_drew ?_ | refine blk_alloc ?_ _)); exact BK200.out) hb); have n6_ := Aside0.mk (blk_below (g := gb205) (o := .cells #[.string t201, .slice Ao30 t202.length co30] 30 (0, 0)) (by (with_reducible repeat (first | refine blk_drewN ?_ _ | refine blk_drew ?_ | refine blk_alloc ?_ _)); refine blk_put (cs := #[.string t201, .slice none 0 0]) ?_ 1 _ rfl; (with_reducible repeat (first | refine blk_drewN ?_ _ | refine blk_drew ?_ | refine blk_alloc ?_ _)); refine blk_put (cs := #[.string (⟨#[]⟩ : ByteArray), .slice none 0 0]) ?_ 0 _ rfl; (with_reducible repeat (first | refine blk_drewN ?_ _ | refine blk_drew ?_ | refine blk_alloc ?_ _)); exact BK205.out) hb); have n7_ := Aside0.mk (below_step (by repeat (first | (with_reducible first | exact HB.out | apply below_alloc | apply pw_below_drewN | apply below_drew1 | refine below_set ?_ GE189.out | refine below_set ?_ GE200.out | refine below_set ?_ GE205.out) | exact HB.out)) hb); clear HO194; clear HO198; clear HO204; clear BK189; clear BK200; clear BK205; clear HB; have HO194 := n0_; have HO198 := n1_; have HO204 := n2_; have HO209 := n3_; have BK189 := n4_; have BK200 := n5_; have BK205 := n6_; have HB := n7_; clear n0_ n1_ n2_ n3_ n4_ n5_ n6_ n7_; (try clear hb); (try clear hb2); (try clear hk); (try clear hi); (try clear ho0)) | ((with_reducible refine gate_dst (N := 9) rfl ?_); refine box_event ?hg (N := 9) ?hd (cs := #[.string (⟨#[]⟩ : ByteArray), .slice none 0 0]) (t := 30) ?hr ?_; (case hd => rfl); (case hg => rfl); (case hr => first | (go_simp; done) | (go_simp; rfl)); intro gb211 hg w32 hbox hb; have n0_ := Aside0.mk (Kd.R_below (by (with_reducible repeat (first | apply Kd.R_alloc | apply Kd.R_drewN | apply Kd.R_drew)); exact HO194.out) hb); have n1_ := Aside0.mk (Kd.R_below (by (with_reducible repeat (first | apply Kd.R_alloc | apply Kd.R_drewN | apply Kd.R_drew)); exact HO198.out) hb); have n2_ := Aside0.mk (Kd.R_below (by (with_reducible repeat (first | apply Kd.R_alloc | apply Kd.R_drewN | apply Kd.R_drew)); exact HO204.out) hb); have n3_ := Aside0.mk (Kd.R_below (by (with_reducible repeat (first | apply Kd.R_alloc | apply Kd.R_drewN | apply Kd.R_drew)); exact HO209.out) hb); have n4_ := Aside0.mk (blk_below (g := gb189) (o := .cells #[.string a0_0, .slice A0_1 l0_1.length c0_1] 24 (0, 0)) (by (with_reducible repeat (first | refine blk_drewN ?_ _ | refine blk_drew ?_ | refine blk_alloc ?_ _)); exact BK189.out) hb); have n5_ := Aside0.mk (blk_below (g := gb200) (o := .cells #[.string t195, .slice Ao23 t196.length co23] 30 (0, 0)) (by (with_reducible repeat (first | refine blk_drewN ?_ _ | refine blk_drew ?_ | refine blk_alloc ?_ _)); exact BK200.out) hb); have n6_ := Aside0.mk (blk_below (g := gb205) (o := .cells #[.string t201, .slice Ao30 t202.length co30] 30 (0, 0)) (by (with_reducible repeat (first | refine blk_drewN ?_ _ | refine blk_drew ?_ | refine blk_alloc ?_ _)); exact BK205.out) hb); have n7_ := Aside0.mk (below_step (by repeat (first | (with_reducible first | exact HB.out | apply below_alloc | apply pw_below_drewN | apply below_drew1 | refine below_set ?_ GE189.out | refine below_set ?_ GE200.out | refine below_set ?_ GE205.out) | exact HB.out)) hb); have n8_ := Aside0.mk (hbox); have n9_ := Aside0.mk ((by rw [hg]; exact (below_size (by repeat (first | (with_reducible first | exact HB.out | apply below_alloc | apply pw_below_drewN | apply below_drew1 | refine below_set ?_ GE189.out | refine below_set ?_ GE200.out | refine below_set ?_ GE205.out) | exact HB.out))) : w.heap.size ≤ gb211)); have n10_ := Aside0.mk ((by rw [hg]; exact (below_size (by repeat (first | (with_reducible first | exact HB.out | apply below_alloc | apply pw_below_drewN | apply below_drew1 | refine below_set ?_ GE189.out | refine below_set ?_ GE200.out | refine below_set ?_ GE205.out) | exact HB.out))) : w.heap.size ≤ gb211)); have n11_ := Aside0.mk ((by rw [hg]; exact Nat.ne_of_lt (blk_lt (g := gb189) (o := .cells #[.string a0_0, .slice A0_1 l0_1.length c0_1] 24 (0, 0)) (by (with_reducible repeat (first | refine blk_drewN ?_ _ | refine blk_drew ?_ | refine blk_alloc ?_ _)); exact BK189.out)) : gb189 ≠ gb211)); have n12_ := Aside0.mk ((by rw [hg]; exact Nat.ne_of_gt (blk_lt (g := gb189) (o := .cells #[.string a0_0, .slice A0_1 l0_1.length c0_1] 24 (0, 0)) (by (with_reducible repeat (first | refine blk_drewN ?_ _ | refine blk_drew ?_ | refine blk_alloc ?_ _)); exact BK189.out)) : gb211 ≠ gb189)); have n13_ := Aside0.mk ((by rw [hg]; exact Nat.ne_of_lt (blk_lt (g := gb200) (o := .cells #[.string t195, .slice Ao23 t196.length co23] 30 (0, 0)) (by (with_reducible repeat (first | refine blk_drewN ?_ _ | refine blk_drew ?_ | refine blk_alloc ?_ _)); exact BK200.out)) : gb200 ≠ gb211)); have n14_ := Aside0.mk ((by rw [hg]; exact Nat.ne_of_gt (blk_lt (g := gb200) (o := .cells #[.string t195, .slice Ao23 t196.length co23] 30 (0, 0)) (by (with_reducible repeat (first | refine blk_drewN ?_ _ | refine blk_drew ?_ | refine blk_alloc ?_ _)); exact BK200.out)) : gb211 ≠ gb200)); have n15_ := Aside0.mk ((by rw [hg]; exact Nat.ne_of_lt (blk_lt (g := gb205) (o := .cells #[.string t201, .slice Ao30 t202.length co30] 30 (0, 0)) (by (with_reducible repeat (first | refine blk_drewN ?_ _ | refine blk_drew ?_ | refine blk_alloc ?_ _)); exact BK205.out)) : gb205 ≠ gb211)); have n16_ := Aside0.mk ((by rw [hg]; exact Nat.ne_of_gt (blk_lt (g := gb205) (o := .cells #[.string t201, .slice Ao30 t202.length co30] 30 (0, 0)) (by (with_reducible repeat (first | refine blk_drewN ?_ _ | refine blk_drew ?_ | refine blk_alloc ?_ _)); exact BK205.out)) : gb211 ≠ gb205)); clear HO194; clear HO198; clear HO204; clear HO209; clear BK189; clear BK200; clear BK205; clear HB; have HO194 := n0_; have HO198 := n1_; have HO204 := n2_; have HO209 := n3_; have BK189 := n4_; have BK200 := n5_; have BK205 := n6_; have HB := n7_; have BK211 := n8_; have GW211 := n9_; have GE211 := n10_; have NB189_211 := n11_; have NB211_189 := n12_; have NB200_211 := n13_; have NB211_200 := n14_; have NB205_211 := n15_; have NB211_205 := n16_; clear n0_ n1_ n2_ n3_ n4_ n5_ n6_ n7_ n8_ n9_ n10_ n11_ n12_ n13_ n14_ n15_ n16_; clear hb hbox hg; have hnb33 := NB211_189.out; have hnc33 := NB189_211.out; have hnb34 := NB211_200.out; have hnc34 := NB200_211.out; have hnb35 := NB211_205.out; have hnc35 := NB205_211.out; have hcz36_0 : w32.cell? ⟨gb211, 0, none⟩ = some (.string (⟨#[]⟩ : ByteArray)) := (blk_cell BK211.out 0).trans rfl; have hcz36_1 : w32.cell? ⟨gb211, 1, none⟩ = some (.slice none 0 0) := (blk_cell BK211.out 1).trans rfl; have hfz36_0 := blk_frozen BK211.out 0; have hfz36_1 := blk_frozen BK211.out 1; obtain ⟨Ao37, co37, eo37⟩ := Kd.R_slice HO209.out; subst eo37))
    (try simp only [Act.put, List.setIfInBounds_toArray, List.set_cons_zero, List.set_cons_succ])
    go_cut [44] (fun v44 wc => ∃ (kq : Nat) (x44_11 : Bool), v44 = .bool x44_11 ∧ Aside0 (laws_FnExactEvict.j0 kq a1 t199 t210 x44_11 a0_0 l0_1 t195 t196 t201 t202 t206 t207 = some r) ∧ Aside0 (kq ≤ k) ∧ Aside0 (Kd.R k67 67 wc w.heap.size (fun k_ => some k_ ≠ ((.slice Ao30 t202.length co30) : Value).ownBlock ∧ some k_ ≠ ((.slice Ao37 t207.length co37) : Value).ownBlock) (.slice Ao23 t196.length co23) t196) ∧ Aside0 (Kd.R k67 67 wc w.heap.size (fun k_ => some k_ ≠ ((.slice Ao23 t196.length co23) : Value).ownBlock ∧ some k_ ≠ ((.slice Ao37 t207.length co37) : Value).ownBlock) (.slice Ao30 t202.length co30) t202) ∧ Aside0 (Kd.R k67 67 wc w.heap.size (fun k_ => some k_ ≠ ((.slice Ao23 t196.length co23) : Value).ownBlock ∧ some k_ ≠ ((.slice Ao30 t202.length co30) : Value).ownBlock) (.slice Ao37 t207.length co37) t207) ∧ Aside0 (wc.heap[gb189]? = some (.cells #[.string a0_0, (.slice A0_1 l0_1.length c0_1)] 24 (0, 0))) ∧ Aside0 (wc.heap[gb200]? = some (.cells #[.string t195, (.slice Ao23 t196.length co23)] 30 (0, 0))) ∧ Aside0 (wc.heap[gb205]? = some (.cells #[.string t201, (.slice Ao30 t202.length co30)] 30 (0, 0))) ∧ Aside0 (wc.heap[gb211]? = some (.cells #[.string t206, (.slice Ao37 t207.length co37)] 30 (0, 0))) ∧ Aside0 (Below w.heap.size w wc))
    case first =>
      have H := HC12.out
      clear HC12
      replace H := Option.bind_eq_some_iff.mp H
      obtain ⟨t212, A380, H⟩ := H
      replace H : (if t212 = true then (laws_FnExactEvict.j0 k a1 t199 t210 (t210 != t199) a0_0 l0_1 t195 t196 t201 t202 t206 t207) else (laws_FnExactEvict.j0 k a1 t199 t210 true a0_0 l0_1 t195 t196 t201 t202 t206 t207)) = some r := H
      have A38 := Aside0.mk A380
      clear A380
      by_cases c39 : t212 = true
      · subst c39
        have H1 : (laws_FnExactEvict.j0 k a1 t199 t210 (t210 != t199) a0_0 l0_1 t195 t196 t201 t202 t206 t207) = some r := by rw [if_pos rfl] at H; exact H
        clear H
        have H := H1
        clear H1
        have H' := Aside0.mk H
        clear H
        have hnb40 := NB211_189.out
        have hnc40 := NB189_211.out
        have hnb41 := NB211_200.out
        have hnc41 := NB200_211.out
        have hnb42 := NB211_205.out
        have hnc42 := NB205_211.out
        have hcz43_0 : w32.cell? ⟨gb211, 0, none⟩ = some (.string (⟨#[]⟩ : ByteArray)) := (blk_cell BK211.out 0).trans rfl
        have hcz43_1 : w32.cell? ⟨gb211, 1, none⟩ = some (.slice none 0 0) := (blk_cell BK211.out 1).trans rfl
        have hfz43_0 := blk_frozen BK211.out 0
        have hfz43_1 := blk_frozen BK211.out 1
        have hnb44 := NB200_189.out
        have hnc44 := NB189_200.out
        have hnb45 := NB200_205.out
        have hnc45 := NB205_200.out
        have hcz46_0 : w32.cell? ⟨gb200, 0, none⟩ = some (.string t195) := (blk_cell BK200.out 0).trans rfl
        have hcz46_1 : w32.cell? ⟨gb200, 1, none⟩ = some (.slice Ao23 t196.length co23) := (blk_cell BK200.out 1).trans rfl
        have hfz46_0 := blk_frozen BK200.out 0
        have hfz46_1 := blk_frozen BK200.out 1
        go_wp2_with (first | ((with_reducible refine gate_callee (f := 21) rfl ?_); refine goesL_ (some 38) rfl rfl Try.func21 (by kernel_rfl) rfl #[.agg #[.string t206, .slice Ao37 t207.length co37], .agg #[.string t195, .slice Ao23 t196.length co23]] rfl (by (try simp only [List.map_toArray, List.map_cons, List.map_nil]); first | done | rfl | (simp only [List.length_drop, List.length_take]; rfl)) ?_; (with_reducible refine (laws_eqDevice.calls k t206 _ _ t207 t195 _ _ t196 true _ ?side1 ?side2 ?side3 ?side4 A38.out).mono ?_); (case side1 => refine (Kd.R_reads' (e := 67) (base := w.heap.size) (ok := fun k_ => (((True ∧ some k_ ≠ (.slice Ao18 t192.length co18 : Value).ownBlock) ∧ some k_ ≠ (.slice Ao23 t196.length co23 : Value).ownBlock) ∧ some k_ ≠ (.slice Ao30 t202.length co30 : Value).ownBlock)) (n := t207.length) (c := co37) ?_).2.2; exact (by (with_reducible repeat (first | apply Kd.R_alloc | apply Kd.R_drewN | apply Kd.R_drew)); exact (Kd.R_mono (Kd.R_far (p := ⟨gb211, 1, none⟩) (Kd.R_far (p := ⟨gb211, 0, none⟩) (Kd.R_types HO209.out BK211.out (by decide)) (fun _ hk => hk.2) (.string t206)) (fun _ hk => hk.2) (.slice Ao37 t207.length co37)) (fun _ h_ => h_.1)))); (case side2 => exact (Kd.R_reads' HO209.out).2.1); (case side3 => refine (Kd.R_reads' (e := 67) (base := w.heap.size) (ok := fun k_ => (((True ∧ some k_ ≠ (.slice Ao18 t192.length co18 : Value).ownBlock) ∧ some k_ ≠ (.slice Ao30 t202.length co30 : Value).ownBlock) ∧ some k_ ≠ (.slice Ao37 t207.length co37 : Value).ownBlock)) (n := t196.length) (c := co23) ?_).2.2; exact (by (with_reducible repeat (first | apply Kd.R_alloc | apply Kd.R_drewN | apply Kd.R_drew)); exact (Kd.R_mono (Kd.R_far (p := ⟨gb211, 1, none⟩) (Kd.R_far (p := ⟨gb211, 0, none⟩) (Kd.R_types HO198.out BK211.out (by decide)) (fun _ hk => hk.2) (.string t206)) (fun _ hk => hk.2) (.slice Ao37 t207.length co37)) (fun _ h_ => h_.1)))); (case side4 => exact (Kd.R_reads' HO198.out).2.1); rintro e w47 ⟨rfl, hb⟩; refine ⟨_, rfl, ?_⟩; have n0_ := Aside0.mk (Kd.R_below (by (with_reducible repeat (first | apply Kd.R_alloc | apply Kd.R_drewN | apply Kd.R_drew)); exact (Kd.R_mono (Kd.R_far (p := ⟨gb211, 1, none⟩) (Kd.R_far (p := ⟨gb211, 0, none⟩) (Kd.R_types HO194.out BK211.out (by decide)) (fun _ hk => hk.2) (.string t206)) (fun _ hk => hk.2) (.slice Ao37 t207.length co37)) (fun _ h_ => h_.1))) hb); have n1_ := Aside0.mk (Kd.R_below (by (with_reducible repeat (first | apply Kd.R_alloc | apply Kd.R_drewN | apply Kd.R_drew)); exact (Kd.R_mono (Kd.R_far (p := ⟨gb211, 1, none⟩) (Kd.R_far (p := ⟨gb211, 0, none⟩) (Kd.R_types HO198.out BK211.out (by decide)) (fun _ hk => hk.2) (.string t206)) (fun _ hk => hk.2) (.slice Ao37 t207.length co37)) (fun _ h_ => h_.1))) hb); have n2_ := Aside0.mk (Kd.R_below (by (with_reducible repeat (first | apply Kd.R_alloc | apply Kd.R_drewN | apply Kd.R_drew)); exact (Kd.R_mono (Kd.R_far (p := ⟨gb211, 1, none⟩) (Kd.R_far (p := ⟨gb211, 0, none⟩) (Kd.R_types HO204.out BK211.out (by decide)) (fun _ hk => hk.2) (.string t206)) (fun _ hk => hk.2) (.slice Ao37 t207.length co37)) (fun _ h_ => h_.1))) hb); have n3_ := Aside0.mk (Kd.R_below (by (with_reducible repeat (first | apply Kd.R_alloc | apply Kd.R_drewN | apply Kd.R_drew)); exact (Kd.R_mono (Kd.R_far (p := ⟨gb211, 1, none⟩) (Kd.R_far (p := ⟨gb211, 0, none⟩) (Kd.R_types HO209.out BK211.out (by decide)) (fun _ hk => hk.2) (.string t206)) (fun _ hk => hk.2) (.slice Ao37 t207.length co37)) (fun _ h_ => h_.1))) hb); have n4_ := Aside0.mk (blk_below (g := gb189) (o := .cells #[.string a0_0, .slice A0_1 l0_1.length c0_1] 24 (0, 0)) (by (with_reducible repeat (first | refine blk_drewN ?_ _ | refine blk_drew ?_ | refine blk_alloc ?_ _)); refine blk_far ?_ NB189_211.out _; (with_reducible repeat (first | refine blk_drewN ?_ _ | refine blk_drew ?_ | refine blk_alloc ?_ _)); refine blk_far ?_ NB189_211.out _; (with_reducible repeat (first | refine blk_drewN ?_ _ | refine blk_drew ?_ | refine blk_alloc ?_ _)); exact BK189.out) hb); have n5_ := Aside0.mk (blk_below (g := gb200) (o := .cells #[.string t195, .slice Ao23 t196.length co23] 30 (0, 0)) (by (with_reducible repeat (first | refine blk_drewN ?_ _ | refine blk_drew ?_ | refine blk_alloc ?_ _)); refine blk_far ?_ NB200_211.out _; (with_reducible repeat (first | refine blk_drewN ?_ _ | refine blk_drew ?_ | refine blk_alloc ?_ _)); refine blk_far ?_ NB200_211.out _; (with_reducible repeat (first | refine blk_drewN ?_ _ | refine blk_drew ?_ | refine blk_alloc ?_ _)); exact BK200.out) hb); have n6_ := Aside0.mk (blk_below (g := gb205) (o := .cells #[.string t201, .slice Ao30 t202.length co30] 30 (0, 0)) (by (with_reducible repeat (first | refine blk_drewN ?_ _ | refine blk_drew ?_ | refine blk_alloc ?_ _)); refine blk_far ?_ NB205_211.out _; (with_reducible repeat (first | refine blk_drewN ?_ _ | refine blk_drew ?_ | refine blk_alloc ?_ _)); refine blk_far ?_ NB205_211.out _; (with_reducible repeat (first | refine blk_drewN ?_ _ | refine blk_drew ?_ | refine blk_alloc ?_ _)); exact BK205.out) hb); have n7_ := Aside0.mk (blk_below (g := gb211) (o := .cells #[.string t206, .slice Ao37 t207.length co37] 30 (0, 0)) (by (with_reducible repeat (first | refine blk_drewN ?_ _ | refine blk_drew ?_ | refine blk_alloc ?_ _)); refine blk_put (cs := #[.string t206, .slice none 0 0]) ?_ 1 _ rfl; (with_reducible repeat (first | refine blk_drewN ?_ _ | refine blk_drew ?_ | refine blk_alloc ?_ _)); refine blk_put (cs := #[.string (⟨#[]⟩ : ByteArray), .slice none 0 0]) ?_ 0 _ rfl; (with_reducible repeat (first | refine blk_drewN ?_ _ | refine blk_drew ?_ | refine blk_alloc ?_ _)); exact BK211.out) hb); have n8_ := Aside0.mk (below_step (by repeat (first | (with_reducible first | exact HB.out | apply below_alloc | apply pw_below_drewN | apply below_drew1 | refine below_set ?_ GE189.out | refine below_set ?_ GE200.out | refine below_set ?_ GE205.out | refine below_set ?_ GE211.out) | exact HB.out)) hb); clear HO194; clear HO198; clear HO204; clear HO209; clear BK189; clear BK200; clear BK205; clear BK211; clear HB; have HO194 := n0_; have HO198 := n1_; have HO204 := n2_; have HO209 := n3_; have BK189 := n4_; have BK200 := n5_; have BK205 := n6_; have BK211 := n7_; have HB := n8_; clear n0_ n1_ n2_ n3_ n4_ n5_ n6_ n7_ n8_; (try clear hb); (try clear hb2); (try clear hk); (try clear hi)))
        go_meet
        case rel => exact ⟨_, ((t210 != t199)), (by first | rfl | (simp; done) | (simp [*]; done)), H', ⟨by first | omega | exact Nat.le_refl _⟩, ⟨by (with_reducible repeat (first | apply Kd.R_alloc | apply Kd.R_drewN | apply Kd.R_drew)); exact Kd.R_mono HO198.out (fun _ hk => ⟨hk.1.2, hk.2⟩)⟩, ⟨by (with_reducible repeat (first | apply Kd.R_alloc | apply Kd.R_drewN | apply Kd.R_drew)); exact Kd.R_mono HO204.out (fun _ hk => ⟨hk.1.2, hk.2⟩)⟩, ⟨by (with_reducible repeat (first | apply Kd.R_alloc | apply Kd.R_drewN | apply Kd.R_drew)); exact Kd.R_mono HO209.out (fun _ hk => ⟨hk.1.2, hk.2⟩)⟩, ⟨by (with_reducible repeat (first | refine blk_drewN ?_ _ | refine blk_drew ?_ | refine blk_alloc ?_ _)); exact BK189.out⟩, ⟨by (with_reducible repeat (first | refine blk_drewN ?_ _ | refine blk_drew ?_ | refine blk_alloc ?_ _)); exact BK200.out⟩, ⟨by (with_reducible repeat (first | refine blk_drewN ?_ _ | refine blk_drew ?_ | refine blk_alloc ?_ _)); exact BK205.out⟩, ⟨by (with_reducible repeat (first | refine blk_drewN ?_ _ | refine blk_drew ?_ | refine blk_alloc ?_ _)); exact BK211.out⟩, ⟨by repeat (first | (with_reducible first | exact HB.out | apply below_alloc | apply pw_below_drewN | apply below_drew1 | refine below_set ?_ GE189.out | refine below_set ?_ GE200.out | refine below_set ?_ GE205.out | refine below_set ?_ GE211.out) | exact HB.out)⟩⟩
      · replace c39 := Bool.eq_false_iff.mpr c39
        subst c39
        have H1 : (laws_FnExactEvict.j0 k a1 t199 t210 true a0_0 l0_1 t195 t196 t201 t202 t206 t207) = some r := by rw [if_neg (show ¬ (false = true) by decide)] at H; exact H
        clear H
        have H := H1
        clear H1
        have H' := Aside0.mk H
        clear H
        have hnb48 := NB211_189.out
        have hnc48 := NB189_211.out
        have hnb49 := NB211_200.out
        have hnc49 := NB200_211.out
        have hnb50 := NB211_205.out
        have hnc50 := NB205_211.out
        have hcz51_0 : w32.cell? ⟨gb211, 0, none⟩ = some (.string (⟨#[]⟩ : ByteArray)) := (blk_cell BK211.out 0).trans rfl
        have hcz51_1 : w32.cell? ⟨gb211, 1, none⟩ = some (.slice none 0 0) := (blk_cell BK211.out 1).trans rfl
        have hfz51_0 := blk_frozen BK211.out 0
        have hfz51_1 := blk_frozen BK211.out 1
        have hnb52 := NB200_189.out
        have hnc52 := NB189_200.out
        have hnb53 := NB200_205.out
        have hnc53 := NB205_200.out
        have hcz54_0 : w32.cell? ⟨gb200, 0, none⟩ = some (.string t195) := (blk_cell BK200.out 0).trans rfl
        have hcz54_1 : w32.cell? ⟨gb200, 1, none⟩ = some (.slice Ao23 t196.length co23) := (blk_cell BK200.out 1).trans rfl
        have hfz54_0 := blk_frozen BK200.out 0
        have hfz54_1 := blk_frozen BK200.out 1
        go_wp2_with (first | ((with_reducible refine gate_callee (f := 21) rfl ?_); refine goesL_ (some 38) rfl rfl Try.func21 (by kernel_rfl) rfl #[.agg #[.string t206, .slice Ao37 t207.length co37], .agg #[.string t195, .slice Ao23 t196.length co23]] rfl (by (try simp only [List.map_toArray, List.map_cons, List.map_nil]); first | done | rfl | (simp only [List.length_drop, List.length_take]; rfl)) ?_; (with_reducible refine (laws_eqDevice.calls k t206 _ _ t207 t195 _ _ t196 false _ ?side1 ?side2 ?side3 ?side4 A38.out).mono ?_); (case side1 => refine (Kd.R_reads' (e := 67) (base := w.heap.size) (ok := fun k_ => (((True ∧ some k_ ≠ (.slice Ao18 t192.length co18 : Value).ownBlock) ∧ some k_ ≠ (.slice Ao23 t196.length co23 : Value).ownBlock) ∧ some k_ ≠ (.slice Ao30 t202.length co30 : Value).ownBlock)) (n := t207.length) (c := co37) ?_).2.2; exact (by (with_reducible repeat (first | apply Kd.R_alloc | apply Kd.R_drewN | apply Kd.R_drew)); exact (Kd.R_mono (Kd.R_far (p := ⟨gb211, 1, none⟩) (Kd.R_far (p := ⟨gb211, 0, none⟩) (Kd.R_types HO209.out BK211.out (by decide)) (fun _ hk => hk.2) (.string t206)) (fun _ hk => hk.2) (.slice Ao37 t207.length co37)) (fun _ h_ => h_.1)))); (case side2 => exact (Kd.R_reads' HO209.out).2.1); (case side3 => refine (Kd.R_reads' (e := 67) (base := w.heap.size) (ok := fun k_ => (((True ∧ some k_ ≠ (.slice Ao18 t192.length co18 : Value).ownBlock) ∧ some k_ ≠ (.slice Ao30 t202.length co30 : Value).ownBlock) ∧ some k_ ≠ (.slice Ao37 t207.length co37 : Value).ownBlock)) (n := t196.length) (c := co23) ?_).2.2; exact (by (with_reducible repeat (first | apply Kd.R_alloc | apply Kd.R_drewN | apply Kd.R_drew)); exact (Kd.R_mono (Kd.R_far (p := ⟨gb211, 1, none⟩) (Kd.R_far (p := ⟨gb211, 0, none⟩) (Kd.R_types HO198.out BK211.out (by decide)) (fun _ hk => hk.2) (.string t206)) (fun _ hk => hk.2) (.slice Ao37 t207.length co37)) (fun _ h_ => h_.1)))); (case side4 => exact (Kd.R_reads' HO198.out).2.1); rintro e w55 ⟨rfl, hb⟩; refine ⟨_, rfl, ?_⟩; have n0_ := Aside0.mk (Kd.R_below (by (with_reducible repeat (first | apply Kd.R_alloc | apply Kd.R_drewN | apply Kd.R_drew)); exact (Kd.R_mono (Kd.R_far (p := ⟨gb211, 1, none⟩) (Kd.R_far (p := ⟨gb211, 0, none⟩) (Kd.R_types HO194.out BK211.out (by decide)) (fun _ hk => hk.2) (.string t206)) (fun _ hk => hk.2) (.slice Ao37 t207.length co37)) (fun _ h_ => h_.1))) hb); have n1_ := Aside0.mk (Kd.R_below (by (with_reducible repeat (first | apply Kd.R_alloc | apply Kd.R_drewN | apply Kd.R_drew)); exact (Kd.R_mono (Kd.R_far (p := ⟨gb211, 1, none⟩) (Kd.R_far (p := ⟨gb211, 0, none⟩) (Kd.R_types HO198.out BK211.out (by decide)) (fun _ hk => hk.2) (.string t206)) (fun _ hk => hk.2) (.slice Ao37 t207.length co37)) (fun _ h_ => h_.1))) hb); have n2_ := Aside0.mk (Kd.R_below (by (with_reducible repeat (first | apply Kd.R_alloc | apply Kd.R_drewN | apply Kd.R_drew)); exact (Kd.R_mono (Kd.R_far (p := ⟨gb211, 1, none⟩) (Kd.R_far (p := ⟨gb211, 0, none⟩) (Kd.R_types HO204.out BK211.out (by decide)) (fun _ hk => hk.2) (.string t206)) (fun _ hk => hk.2) (.slice Ao37 t207.length co37)) (fun _ h_ => h_.1))) hb); have n3_ := Aside0.mk (Kd.R_below (by (with_reducible repeat (first | apply Kd.R_alloc | apply Kd.R_drewN | apply Kd.R_drew)); exact (Kd.R_mono (Kd.R_far (p := ⟨gb211, 1, none⟩) (Kd.R_far (p := ⟨gb211, 0, none⟩) (Kd.R_types HO209.out BK211.out (by decide)) (fun _ hk => hk.2) (.string t206)) (fun _ hk => hk.2) (.slice Ao37 t207.length co37)) (fun _ h_ => h_.1))) hb); have n4_ := Aside0.mk (blk_below (g := gb189) (o := .cells #[.string a0_0, .slice A0_1 l0_1.length c0_1] 24 (0, 0)) (by (with_reducible repeat (first | refine blk_drewN ?_ _ | refine blk_drew ?_ | refine blk_alloc ?_ _)); refine blk_far ?_ NB189_211.out _; (with_reducible repeat (first | refine blk_drewN ?_ _ | refine blk_drew ?_ | refine blk_alloc ?_ _)); refine blk_far ?_ NB189_211.out _; (with_reducible repeat (first | refine blk_drewN ?_ _ | refine blk_drew ?_ | refine blk_alloc ?_ _)); exact BK189.out) hb); have n5_ := Aside0.mk (blk_below (g := gb200) (o := .cells #[.string t195, .slice Ao23 t196.length co23] 30 (0, 0)) (by (with_reducible repeat (first | refine blk_drewN ?_ _ | refine blk_drew ?_ | refine blk_alloc ?_ _)); refine blk_far ?_ NB200_211.out _; (with_reducible repeat (first | refine blk_drewN ?_ _ | refine blk_drew ?_ | refine blk_alloc ?_ _)); refine blk_far ?_ NB200_211.out _; (with_reducible repeat (first | refine blk_drewN ?_ _ | refine blk_drew ?_ | refine blk_alloc ?_ _)); exact BK200.out) hb); have n6_ := Aside0.mk (blk_below (g := gb205) (o := .cells #[.string t201, .slice Ao30 t202.length co30] 30 (0, 0)) (by (with_reducible repeat (first | refine blk_drewN ?_ _ | refine blk_drew ?_ | refine blk_alloc ?_ _)); refine blk_far ?_ NB205_211.out _; (with_reducible repeat (first | refine blk_drewN ?_ _ | refine blk_drew ?_ | refine blk_alloc ?_ _)); refine blk_far ?_ NB205_211.out _; (with_reducible repeat (first | refine blk_drewN ?_ _ | refine blk_drew ?_ | refine blk_alloc ?_ _)); exact BK205.out) hb); have n7_ := Aside0.mk (blk_below (g := gb211) (o := .cells #[.string t206, .slice Ao37 t207.length co37] 30 (0, 0)) (by (with_reducible repeat (first | refine blk_drewN ?_ _ | refine blk_drew ?_ | refine blk_alloc ?_ _)); refine blk_put (cs := #[.string t206, .slice none 0 0]) ?_ 1 _ rfl; (with_reducible repeat (first | refine blk_drewN ?_ _ | refine blk_drew ?_ | refine blk_alloc ?_ _)); refine blk_put (cs := #[.string (⟨#[]⟩ : ByteArray), .slice none 0 0]) ?_ 0 _ rfl; (with_reducible repeat (first | refine blk_drewN ?_ _ | refine blk_drew ?_ | refine blk_alloc ?_ _)); exact BK211.out) hb); have n8_ := Aside0.mk (below_step (by repeat (first | (with_reducible first | exact HB.out | apply below_alloc | apply pw_below_drewN | apply below_drew1 | refine below_set ?_ GE189.out | refine below_set ?_ GE200.out | refine below_set ?_ GE205.out | refine below_set ?_ GE211.out) | exact HB.out)) hb); clear HO194; clear HO198; clear HO204; clear HO209; clear BK189; clear BK200; clear BK205; clear BK211; clear HB; have HO194 := n0_; have HO198 := n1_; have HO204 := n2_; have HO209 := n3_; have BK189 := n4_; have BK200 := n5_; have BK205 := n6_; have BK211 := n7_; have HB := n8_; clear n0_ n1_ n2_ n3_ n4_ n5_ n6_ n7_ n8_; (try clear hb); (try clear hb2); (try clear hk); (try clear hi)))
        go_meet
        case rel => exact ⟨_, (true), (by first | rfl | (simp; done) | (simp [*]; done)), H', ⟨by first | omega | exact Nat.le_refl _⟩, ⟨by (with_reducible repeat (first | apply Kd.R_alloc | apply Kd.R_drewN | apply Kd.R_drew)); exact Kd.R_mono HO198.out (fun _ hk => ⟨hk.1.2, hk.2⟩)⟩, ⟨by (with_reducible repeat (first | apply Kd.R_alloc | apply Kd.R_drewN | apply Kd.R_drew)); exact Kd.R_mono HO204.out (fun _ hk => ⟨hk.1.2, hk.2⟩)⟩, ⟨by (with_reducible repeat (first | apply Kd.R_alloc | apply Kd.R_drewN | apply Kd.R_drew)); exact Kd.R_mono HO209.out (fun _ hk => ⟨hk.1.2, hk.2⟩)⟩, ⟨by (with_reducible repeat (first | refine blk_drewN ?_ _ | refine blk_drew ?_ | refine blk_alloc ?_ _)); exact BK189.out⟩, ⟨by (with_reducible repeat (first | refine blk_drewN ?_ _ | refine blk_drew ?_ | refine blk_alloc ?_ _)); exact BK200.out⟩, ⟨by (with_reducible repeat (first | refine blk_drewN ?_ _ | refine blk_drew ?_ | refine blk_alloc ?_ _)); exact BK205.out⟩, ⟨by (with_reducible repeat (first | refine blk_drewN ?_ _ | refine blk_drew ?_ | refine blk_alloc ?_ _)); exact BK211.out⟩, ⟨by repeat (first | (with_reducible first | exact HB.out | apply below_alloc | apply pw_below_drewN | apply below_drew1 | refine below_set ?_ GE189.out | refine below_set ?_ GE200.out | refine below_set ?_ GE205.out | refine below_set ?_ GE211.out) | exact HB.out)⟩⟩
    case rest =>
      clear HC12
      try clear c1
      try clear c2
      try clear p2
      try clear c3
      try clear c4
      try clear c4b0
      try clear c5
      try clear c9
      try clear c16
      try clear c18
      try clear c21
      try clear c27
      try clear c28
      try clear c33
      try clear c34
      try clear c35
      try clear c37
      try clear c38
      try clear c39
      try clear c40
      try clear c41
      try clear c42
      try clear c44
      try clear c45
      try clear c48
      try clear c49
      try clear c50
      try clear c52
      try clear c53
      try clear hcz14_0
      try clear hcz14_1
      try clear hcz16_0
      try clear hcz16_1
      try clear hcz22_0
      try clear hcz22_1
      try clear hcz24_0
      try clear hcz24_1
      try clear hcz29_0
      try clear hcz29_1
      try clear hcz36_0
      try clear hcz36_1
      try clear hcz43_0
      try clear hcz43_1
      try clear hcz46_0
      try clear hcz46_1
      try clear hcz51_0
      try clear hcz51_1
      try clear hcz54_0
      try clear hcz54_1
      try clear hcz6_0
      try clear hcz6_1
      try clear hfz14_0
      try clear hfz14_1
      try clear hfz16_0
      try clear hfz16_1
      try clear hfz22_0
      try clear hfz22_1
      try clear hfz24_0
      try clear hfz24_1
      try clear hfz29_0
      try clear hfz29_1
      try clear hfz36_0
      try clear hfz36_1
      try clear hfz43_0
      try clear hfz43_1
      try clear hfz46_0
      try clear hfz46_1
      try clear hfz51_0
      try clear hfz51_1
      try clear hfz54_0
      try clear hfz54_1
      try clear hfz6_0
      try clear hfz6_1
      obtain ⟨kq, x44_11, rfl, HA, HJ11, HO_201001, HO_206001, HO_212001, BK189, BK200, BK205, BK211, HB⟩ := hcut
      cases kq with
      | zero => exact absurd HA.out (by simp [laws_FnExactEvict.j0])
      | succ kj11 =>
        have H := HA.out
        clear HA
        simp only [laws_FnExactEvict.j0] at H
        by_cases c56 : x44_11 = true
        · subst c56
          have H1 : (none) = some r := by rw [if_pos rfl] at H; exact H
          clear H
          have H := H1
          clear H1
          exact absurd H (by simp)
        · replace c56 := Bool.eq_false_iff.mpr c56
          subst c56
          have H1 : ((laws_toDevice.f kj11 a0_0 l0_1).bind fun bt213 => ((laws_eqDevice.f kj11 t201 t202 bt213.1 bt213.2).bind fun t217 => (if t217 = true then ((laws_markDevice.f kj11 t201 t202 1).bind fun bt218 => (if bt218.1 < 0 then (laws_FnExactEvict.j1 kj11 a1 t199 true a0_0 l0_1 t195 t196 t206 t207) else ((laws_eqDevice.f kj11 t206 t207 t195 t196).bind fun t220 => (if t220 = true then (laws_FnExactEvict.j1 kj11 a1 t199 (t210 != t199) a0_0 l0_1 t195 t196 t206 t207) else (laws_FnExactEvict.j1 kj11 a1 t199 true a0_0 l0_1 t195 t196 t206 t207))))) else (none)))) = some r := by rw [if_neg (show ¬ (false = true) by decide)] at H; exact H
          clear H
          have H := H1
          clear H1
          replace H := Option.bind_eq_some_iff.mp H
          obtain ⟨⟨t213, t214⟩, A570, H⟩ := H
          replace H : ((laws_eqDevice.f kj11 t201 t202 t213 t214).bind fun t217 => (if t217 = true then ((laws_markDevice.f kj11 t201 t202 1).bind fun bt218 => (if bt218.1 < 0 then (laws_FnExactEvict.j1 kj11 a1 t199 true a0_0 l0_1 t195 t196 t206 t207) else ((laws_eqDevice.f kj11 t206 t207 t195 t196).bind fun t220 => (if t220 = true then (laws_FnExactEvict.j1 kj11 a1 t199 (t210 != t199) a0_0 l0_1 t195 t196 t206 t207) else (laws_FnExactEvict.j1 kj11 a1 t199 true a0_0 l0_1 t195 t196 t206 t207))))) else (none))) = some r := H
          have A57 := Aside0.mk A570
          clear A570
          replace H := Option.bind_eq_some_iff.mp H
          obtain ⟨t217, A580, H⟩ := H
          replace H : (if t217 = true then ((laws_markDevice.f kj11 t201 t202 1).bind fun bt218 => (if bt218.1 < 0 then (laws_FnExactEvict.j1 kj11 a1 t199 true a0_0 l0_1 t195 t196 t206 t207) else ((laws_eqDevice.f kj11 t206 t207 t195 t196).bind fun t220 => (if t220 = true then (laws_FnExactEvict.j1 kj11 a1 t199 (t210 != t199) a0_0 l0_1 t195 t196 t206 t207) else (laws_FnExactEvict.j1 kj11 a1 t199 true a0_0 l0_1 t195 t196 t206 t207))))) else (none)) = some r := H
          have A58 := Aside0.mk A580
          clear A580
          by_cases c59 : t217 = true
          · subst c59
            have H1 : ((laws_markDevice.f kj11 t201 t202 1).bind fun bt218 => (if bt218.1 < 0 then (laws_FnExactEvict.j1 kj11 a1 t199 true a0_0 l0_1 t195 t196 t206 t207) else ((laws_eqDevice.f kj11 t206 t207 t195 t196).bind fun t220 => (if t220 = true then (laws_FnExactEvict.j1 kj11 a1 t199 (t210 != t199) a0_0 l0_1 t195 t196 t206 t207) else (laws_FnExactEvict.j1 kj11 a1 t199 true a0_0 l0_1 t195 t196 t206 t207))))) = some r := by rw [if_pos rfl] at H; exact H
            clear H
            have H := H1
            clear H1
            replace H := Option.bind_eq_some_iff.mp H
            obtain ⟨⟨t218, t219⟩, A600, H⟩ := H
            replace H : (if t218 < 0 then (laws_FnExactEvict.j1 kj11 a1 t199 true a0_0 l0_1 t195 t196 t206 t207) else ((laws_eqDevice.f kj11 t206 t207 t195 t196).bind fun t220 => (if t220 = true then (laws_FnExactEvict.j1 kj11 a1 t199 (t210 != t199) a0_0 l0_1 t195 t196 t206 t207) else (laws_FnExactEvict.j1 kj11 a1 t199 true a0_0 l0_1 t195 t196 t206 t207)))) = some r := H
            have A60 := Aside0.mk A600
            clear A600
            have HC61 := Aside0.mk H
            clear H
            try go_wp2
            have n0_ := Aside0.mk (Kd.R_drew HO_201001.out)
            have n1_ := Aside0.mk (Kd.R_drew HO_206001.out)
            have n2_ := Aside0.mk (Kd.R_drew HO_212001.out)
            have n3_ := Aside0.mk (blk_drew BK189.out)
            have n4_ := Aside0.mk (blk_drew BK200.out)
            have n5_ := Aside0.mk (blk_drew BK205.out)
            have n6_ := Aside0.mk (blk_drew BK211.out)
            have n7_ := Aside0.mk (below_drew1 HB.out)
            clear HO_201001
            clear HO_206001
            clear HO_212001
            clear BK189
            clear BK200
            clear BK205
            clear BK211
            clear HB
            have HO_201001 := n0_
            have HO_206001 := n1_
            have HO_212001 := n2_
            have BK189 := n3_
            have BK200 := n4_
            have BK205 := n5_
            have BK211 := n6_
            have HB := n7_
            clear n0_ n1_ n2_ n3_ n4_ n5_ n6_ n7_
            refine start_ (n := 5) (S := fun w' => w'.cell? ⟨gb205, 0, none⟩ = some (.string t201) ∧ w'.cell? ⟨gb205, 1, none⟩ = some (.slice Ao30 t202.length co30) ∧ w'.cell? ⟨gb189, 0, none⟩ = some (.string a0_0) ∧ w'.cell? ⟨gb189, 1, none⟩ = some (.slice A0_1 l0_1.length c0_1)) (ds := []) #[false, false, false, false, false] (by kernel_rfl) rfl rfl ⟨(blk_cell BK205.out 0).trans rfl, (blk_cell BK205.out 1).trans rfl, (blk_cell BK189.out 0).trans rfl, (blk_cell BK189.out 1).trans rfl⟩ (fun hHeld => ?_)
            generalize wc.drew = w62 at HO_201001 HO_206001 HO_212001 BK189 BK200 BK205 BK211 HB hHeld ⊢
            refine take_ (i := 0) (N := some 45) (v := ?_) (a' := ?_) #[true, false, false, false, false] rfl rfl (by kernel_rfl) (fun _ _ _ h => h) (Or.inl ⟨by rfl, ?_⟩) hHeld ?_ ?_
            rotate_left
            · rintro w' ⟨s0, s1, s2, s3⟩
              go_simp
              with_reducible rfl
            rotate_left
            · simp only [Act.put, List.setIfInBounds_toArray, List.set_cons_zero, List.set_cons_succ, i64_w, i32_w]
              rfl
            refine take_ (i := 1) (N := some 46) (v := ?_) (a' := ?_) #[true, true, false, false, false] rfl rfl (by kernel_rfl) (fun _ _ _ h => h) (Or.inl ⟨by rfl, ?_⟩) hHeld ?_ ?_
            rotate_left
            · rintro w' ⟨s0, s1, s2, s3⟩
              go_simp
              with_reducible rfl
            rotate_left
            · simp only [Act.put, List.setIfInBounds_toArray, List.set_cons_zero, List.set_cons_succ, i64_w, i32_w]
              rfl
            refine one_ (i := 2) (N := some 47) #[true, true, true, false, false] rfl rfl (by kernel_rfl) (by decide) (fun K hK => ?_)
            refine goes_ Try.func18 (by kernel_rfl) rfl #[.agg #[.string a0_0, .slice A0_1 l0_1.length c0_1]] (by rfl) rfl rfl (by (try simp only [List.map_toArray, List.map_cons, List.map_nil]); first | done | rfl | (simp only [List.length_drop, List.length_take]; rfl)) ?_
            with_reducible refine (laws_toDevice.calls kj11 a0_0 _ _ l0_1 t213 t214 _ ?side1 ?side2 A57.out).mono ?_
            (case side1 => repeat (first | exact (Kd.C_below HR0_1.out HB.out) | (with_reducible refine Kd.C_alloc ?_ _) | (with_reducible refine Kd.C_drewN ?_ _) | (with_reducible refine Kd.C_drew ?_)))
            (case side2 => exact HC0_1.out)
            rintro e w63 ⟨v215, rfl, ho0, hb⟩
            refine ⟨_, rfl, ?_⟩
            have n0_ := Aside0.mk (Kd.R_elder' (by (with_reducible repeat (first | apply Kd.R_alloc | apply Kd.R_drewN | apply Kd.R_drew)); exact HO_201001.out) (Kd.R_base ho0) hb)
            have n1_ := Aside0.mk (Kd.R_elder' (by (with_reducible repeat (first | apply Kd.R_alloc | apply Kd.R_drewN | apply Kd.R_drew)); exact HO_206001.out) (Kd.R_base ho0) hb)
            have n2_ := Aside0.mk (Kd.R_elder' (by (with_reducible repeat (first | apply Kd.R_alloc | apply Kd.R_drewN | apply Kd.R_drew)); exact HO_212001.out) (Kd.R_base ho0) hb)
            have n3_ := Aside0.mk (Kd.R_lower (Kd.R_new' (Kd.R_new' (Kd.R_new' ho0 (Kd.R_lt (by (with_reducible repeat (first | apply Kd.R_alloc | apply Kd.R_drewN | apply Kd.R_drew)); exact HO_201001.out))) (Kd.R_lt (by (with_reducible repeat (first | apply Kd.R_alloc | apply Kd.R_drewN | apply Kd.R_drew)); exact HO_206001.out))) (Kd.R_lt (by (with_reducible repeat (first | apply Kd.R_alloc | apply Kd.R_drewN | apply Kd.R_drew)); exact HO_212001.out))) (below_size (by repeat (first | (with_reducible first | exact HB.out | apply below_alloc | apply pw_below_drewN | apply below_drew1 | refine below_set ?_ GE189.out | refine below_set ?_ GE200.out | refine below_set ?_ GE205.out | refine below_set ?_ GE211.out) | exact HB.out))))
            have n4_ := Aside0.mk (blk_below (g := gb189) (o := .cells #[.string a0_0, .slice A0_1 l0_1.length c0_1] 24 (0, 0)) (by (with_reducible repeat (first | refine blk_drewN ?_ _ | refine blk_drew ?_ | refine blk_alloc ?_ _)); exact BK189.out) hb)
            have n5_ := Aside0.mk (blk_below (g := gb200) (o := .cells #[.string t195, .slice Ao23 t196.length co23] 30 (0, 0)) (by (with_reducible repeat (first | refine blk_drewN ?_ _ | refine blk_drew ?_ | refine blk_alloc ?_ _)); exact BK200.out) hb)
            have n6_ := Aside0.mk (blk_below (g := gb205) (o := .cells #[.string t201, .slice Ao30 t202.length co30] 30 (0, 0)) (by (with_reducible repeat (first | refine blk_drewN ?_ _ | refine blk_drew ?_ | refine blk_alloc ?_ _)); exact BK205.out) hb)
            have n7_ := Aside0.mk (blk_below (g := gb211) (o := .cells #[.string t206, .slice Ao37 t207.length co37] 30 (0, 0)) (by (with_reducible repeat (first | refine blk_drewN ?_ _ | refine blk_drew ?_ | refine blk_alloc ?_ _)); exact BK211.out) hb)
            have n8_ := Aside0.mk (below_step (by repeat (first | (with_reducible first | exact HB.out | apply below_alloc | apply pw_below_drewN | apply below_drew1 | refine below_set ?_ GE189.out | refine below_set ?_ GE200.out | refine below_set ?_ GE205.out | refine below_set ?_ GE211.out) | exact HB.out)) hb)
            clear HO_201001
            clear HO_206001
            clear HO_212001
            clear BK189
            clear BK200
            clear BK205
            clear BK211
            clear HB
            have HO_201001 := n0_
            have HO_206001 := n1_
            have HO_212001 := n2_
            have HO216 := n3_
            have BK189 := n4_
            have BK200 := n5_
            have BK205 := n6_
            have BK211 := n7_
            have HB := n8_
            clear n0_ n1_ n2_ n3_ n4_ n5_ n6_ n7_ n8_
            (try clear hb)
            (try clear hb2)
            (try clear hk)
            (try clear hi)
            (try clear ho0)
            obtain ⟨Ao64, co64, eo64⟩ := Kd.R_slice HO216.out
            (first | subst eo64 | (injection eo64 with f1_ f2_ f3_; have f4_ := f1_.symm; have f5_ := f3_.symm; clear f1_ f2_ f3_; subst f4_; subst f5_))
            refine hK.out _ _ ⟨(blk_cell BK205.out 0).trans rfl, (blk_cell BK205.out 1).trans rfl, (blk_cell BK189.out 0).trans rfl, (blk_cell BK189.out 1).trans rfl⟩ (fun hHeld => ?_)
            clear hK K
            refine norm_ (a' := ?_) ?_ ?_
            rotate_left
            · show Act.put _ (some 47) _ = _
              simp only [Act.put, List.setIfInBounds_toArray, List.set_cons_zero, List.set_cons_succ, i64_w, i32_w]
              rfl
            refine one_ (i := 3) (N := some 48) #[true, true, true, true, false] rfl rfl (by kernel_rfl) (by decide) (fun K hK => ?_)
            refine goes_ Try.func21 (by kernel_rfl) rfl #[.agg #[.string t201, .slice Ao30 t202.length co30], .agg #[.string t213, .slice Ao64 t214.length co64]] (by rfl) rfl rfl (by (try simp only [List.map_toArray, List.map_cons, List.map_nil]); first | done | rfl | (simp only [List.length_drop, List.length_take]; rfl)) ?_
            with_reducible refine (laws_eqDevice.calls kj11 t201 _ _ t202 t213 _ _ t214 true _ ?side1 ?side2 ?side3 ?side4 A58.out).mono ?_
            (case side1 => repeat (first | exact (Kd.R_reads' HO_206001.out).2.2 | (with_reducible refine Kd.C_alloc ?_ _) | (with_reducible refine Kd.C_drewN ?_ _) | (with_reducible refine Kd.C_drew ?_)))
            (case side2 => exact (Kd.R_reads' HO_206001.out).2.1)
            (case side3 => repeat (first | exact (Kd.R_reads' HO216.out).2.2 | (with_reducible refine Kd.C_alloc ?_ _) | (with_reducible refine Kd.C_drewN ?_ _) | (with_reducible refine Kd.C_drew ?_)))
            (case side4 => exact (Kd.R_reads' HO216.out).2.1)
            rintro e w65 ⟨rfl, hb⟩
            refine ⟨_, rfl, ?_⟩
            have n0_ := Aside0.mk (Kd.R_below (by (with_reducible repeat (first | apply Kd.R_alloc | apply Kd.R_drewN | apply Kd.R_drew)); exact HO_201001.out) hb)
            have n1_ := Aside0.mk (Kd.R_below (by (with_reducible repeat (first | apply Kd.R_alloc | apply Kd.R_drewN | apply Kd.R_drew)); exact HO_206001.out) hb)
            have n2_ := Aside0.mk (Kd.R_below (by (with_reducible repeat (first | apply Kd.R_alloc | apply Kd.R_drewN | apply Kd.R_drew)); exact HO_212001.out) hb)
            have n3_ := Aside0.mk (Kd.R_below (by (with_reducible repeat (first | apply Kd.R_alloc | apply Kd.R_drewN | apply Kd.R_drew)); exact HO216.out) hb)
            have n4_ := Aside0.mk (blk_below (g := gb189) (o := .cells #[.string a0_0, .slice A0_1 l0_1.length c0_1] 24 (0, 0)) (by (with_reducible repeat (first | refine blk_drewN ?_ _ | refine blk_drew ?_ | refine blk_alloc ?_ _)); exact BK189.out) hb)
            have n5_ := Aside0.mk (blk_below (g := gb200) (o := .cells #[.string t195, .slice Ao23 t196.length co23] 30 (0, 0)) (by (with_reducible repeat (first | refine blk_drewN ?_ _ | refine blk_drew ?_ | refine blk_alloc ?_ _)); exact BK200.out) hb)
            have n6_ := Aside0.mk (blk_below (g := gb205) (o := .cells #[.string t201, .slice Ao30 t202.length co30] 30 (0, 0)) (by (with_reducible repeat (first | refine blk_drewN ?_ _ | refine blk_drew ?_ | refine blk_alloc ?_ _)); exact BK205.out) hb)
            have n7_ := Aside0.mk (blk_below (g := gb211) (o := .cells #[.string t206, .slice Ao37 t207.length co37] 30 (0, 0)) (by (with_reducible repeat (first | refine blk_drewN ?_ _ | refine blk_drew ?_ | refine blk_alloc ?_ _)); exact BK211.out) hb)
            have n8_ := Aside0.mk (below_step (by repeat (first | (with_reducible first | exact HB.out | apply below_alloc | apply pw_below_drewN | apply below_drew1 | refine below_set ?_ GE189.out | refine below_set ?_ GE200.out | refine below_set ?_ GE205.out | refine below_set ?_ GE211.out) | exact HB.out)) hb)
            clear HO_201001
            clear HO_206001
            clear HO_212001
            clear HO216
            clear BK189
            clear BK200
            clear BK205
            clear BK211
            clear HB
            have HO_201001 := n0_
            have HO_206001 := n1_
            have HO_212001 := n2_
            have HO216 := n3_
            have BK189 := n4_
            have BK200 := n5_
            have BK205 := n6_
            have BK211 := n7_
            have HB := n8_
            clear n0_ n1_ n2_ n3_ n4_ n5_ n6_ n7_ n8_
            (try clear hb)
            (try clear hb2)
            (try clear hk)
            (try clear hi)
            refine hK.out _ _ ⟨(blk_cell BK205.out 0).trans rfl, (blk_cell BK205.out 1).trans rfl, (blk_cell BK189.out 0).trans rfl, (blk_cell BK189.out 1).trans rfl⟩ (fun hHeld => ?_)
            clear hK K
            refine norm_ (a' := ?_) ?_ ?_
            rotate_left
            · show Act.put _ (some 48) _ = _
              simp only [Act.put, List.setIfInBounds_toArray, List.set_cons_zero, List.set_cons_succ, i64_w, i32_w]
              rfl
            refine pure_ (i := 4) (N := some 49) (v := ?_) (a' := ?_) #[true, true, true, true, true] rfl rfl (by kernel_rfl) (fun _ _ _ h => h) (Or.inl ⟨by rfl, ?_⟩) ?_ ?_
            rotate_left
            · intro w'
              go_simp
              with_reducible rfl
            rotate_left
            · simp only [Act.put, List.setIfInBounds_toArray, List.set_cons_zero, List.set_cons_succ, i64_w, i32_w]
              rfl
            refine done_ (by kernel_rfl) ?_
            have hnb66 := NB205_189.out
            have hnc66 := NB189_205.out
            have hnb67 := NB205_200.out
            have hnc67 := NB200_205.out
            have hnb68 := NB205_211.out
            have hnc68 := NB211_205.out
            have hcz69_0 : w65.cell? ⟨gb205, 0, none⟩ = some (.string t201) := (blk_cell BK205.out 0).trans rfl
            have hcz69_1 : w65.cell? ⟨gb205, 1, none⟩ = some (.slice Ao30 t202.length co30) := (blk_cell BK205.out 1).trans rfl
            have hfz69_0 := blk_frozen BK205.out 0
            have hfz69_1 := blk_frozen BK205.out 1
            go_upto_region 14 with (first | ((with_reducible refine gate_callee (f := 22) rfl ?_); refine goesL_ (some 52) rfl rfl Try.func22 (by kernel_rfl) rfl #[.agg #[.string t201, .slice Ao30 t202.length co30], .int .i64 1] rfl (by (try simp only [List.map_toArray, List.map_cons, List.map_nil]); first | done | rfl | (simp only [List.length_drop, List.length_take]; rfl)) ?_; (with_reducible refine (laws_markDevice.calls kj11 t201 (fun k_ => some k_ = (.slice Ao30 t202.length co30 : Value).ownBlock) (.slice Ao30 t202.length co30) t202 1 t218 t219 w _ ?side1 ?side2 A60.out).mono ?_); (case side1 => repeat (first | (with_reducible first | exact HB.out | apply below_alloc | apply pw_below_drewN | apply below_drew1 | refine below_set ?_ GE189.out | refine below_set ?_ GE200.out | refine below_set ?_ GE205.out | refine below_set ?_ GE211.out) | exact HB.out)); (case side2 => exact Kd.R_tight rfl HO_206001.out); rintro e w70 ⟨rfl, hy0, hb, hkp⟩; refine ⟨_, rfl, ?_⟩; have n0_ := Aside0.mk (Kd.R_mono (ok' := fun k_ => some k_ ≠ (.slice Ao30 t202.length co30 : Value).ownBlock ∧ some k_ ≠ (.slice Ao37 t207.length co37 : Value).ownBlock ∧ some k_ ≠ (.slice Ao64 t214.length co64 : Value).ownBlock) (Kd.R_keptB (HO_201001.out) hkp (fun k_ hk_ hs_ => (by first | exact (hk_.1.1) hs_ | exact absurd hs_ (by simp only [ne_eq, hk_, not_false_eq_true])))) (fun k_ hk_ => (by first | exact ⟨hk_.1.1.1, hk_.1.1.2, hk_.1.2⟩ | (simp only [ne_eq, hk_, not_false_eq_true, and_self])))); have n1_ := Aside0.mk (Kd.R_reok rfl hy0 (fun k_ e_ => HO_206001.out.1 k_ e_)); have n2_ := Aside0.mk (Kd.R_mono (ok' := fun k_ => some k_ ≠ (.slice Ao23 t196.length co23 : Value).ownBlock ∧ some k_ ≠ (.slice Ao30 t202.length co30 : Value).ownBlock ∧ some k_ ≠ (.slice Ao64 t214.length co64 : Value).ownBlock) (Kd.R_keptB (HO_212001.out) hkp (fun k_ hk_ hs_ => (by first | exact (hk_.1.2) hs_ | exact absurd hs_ (by simp only [ne_eq, hk_, not_false_eq_true])))) (fun k_ hk_ => (by first | exact ⟨hk_.1.1.1, hk_.1.1.2, hk_.1.2⟩ | (simp only [ne_eq, hk_, not_false_eq_true, and_self])))); have n3_ := Aside0.mk (blk_kept (by (with_reducible repeat (first | refine blk_drewN ?_ _ | refine blk_drew ?_ | refine blk_alloc ?_ _)); exact BK189.out) hkp (fun hs_ => (fun e_ => (Kd.R_ne HO_206001.out BK189.out (by decide)) e_) hs_)); have n4_ := Aside0.mk (blk_kept (by (with_reducible repeat (first | refine blk_drewN ?_ _ | refine blk_drew ?_ | refine blk_alloc ?_ _)); exact BK200.out) hkp (fun hs_ => (fun e_ => (Kd.R_ne HO_206001.out BK200.out (by decide)) e_) hs_)); have n5_ := Aside0.mk (blk_kept (by (with_reducible repeat (first | refine blk_drewN ?_ _ | refine blk_drew ?_ | refine blk_alloc ?_ _)); exact BK205.out) hkp (fun hs_ => (fun e_ => (Kd.R_ne HO_206001.out BK205.out (by decide)) e_) hs_)); have n6_ := Aside0.mk (blk_kept (by (with_reducible repeat (first | refine blk_drewN ?_ _ | refine blk_drew ?_ | refine blk_alloc ?_ _)); exact BK211.out) hkp (fun hs_ => (fun e_ => (Kd.R_ne HO_206001.out BK211.out (by decide)) e_) hs_)); have n7_ := Aside0.mk (Kd.R_mono (ok' := fun k_ => some k_ ≠ (.slice Ao23 t196.length co23 : Value).ownBlock ∧ some k_ ≠ (.slice Ao30 t202.length co30 : Value).ownBlock ∧ some k_ ≠ (.slice Ao37 t207.length co37 : Value).ownBlock) (Kd.R_keptB (HO216.out) hkp (fun k_ hk_ hs_ => (by first | exact (hk_.1.2) hs_ | exact absurd hs_ (by simp only [ne_eq, hk_, not_false_eq_true])))) (fun k_ hk_ => (by first | exact ⟨hk_.1.1.1.2, hk_.1.1.2, hk_.1.2⟩ | (simp only [ne_eq, hk_, not_false_eq_true, and_self])))); have n8_ := Aside0.mk (hb); clear HO_201001; clear HO_206001; clear HO_212001; clear BK189; clear BK200; clear BK205; clear BK211; clear HO216; clear HB; have HO_201001 := n0_; have HO_206001 := n1_; have HO_212001 := n2_; have BK189 := n3_; have BK200 := n4_; have BK205 := n5_; have BK211 := n6_; have HO216 := n7_; have HB := n8_; clear n0_ n1_ n2_ n3_ n4_ n5_ n6_ n7_ n8_; (try clear hb); (try clear hkp); (try clear hy0)))
            (try simp only [Act.put, List.setIfInBounds_toArray, List.set_cons_zero, List.set_cons_succ])
            go_cut [65] (fun v65 wc => ∃ (kq : Nat) (x65_60 : Bool), v65 = .bool x65_60 ∧ Aside0 (laws_FnExactEvict.j1 kq a1 t199 x65_60 a0_0 l0_1 t195 t196 t206 t207 = some r) ∧ Aside0 (kq ≤ kj11) ∧ Aside0 (Kd.R k67 67 wc w.heap.size (fun k_ => some k_ ≠ ((.slice Ao30 t202.length co30) : Value).ownBlock ∧ some k_ ≠ ((.slice Ao37 t207.length co37) : Value).ownBlock) (.slice Ao23 t196.length co23) t196) ∧ Aside0 (Kd.R k67 67 wc w.heap.size (fun k_ => some k_ ≠ ((.slice Ao23 t196.length co23) : Value).ownBlock ∧ some k_ ≠ ((.slice Ao37 t207.length co37) : Value).ownBlock) (.slice Ao30 t202.length co30) t219) ∧ Aside0 (Kd.R k67 67 wc w.heap.size (fun k_ => some k_ ≠ ((.slice Ao23 t196.length co23) : Value).ownBlock ∧ some k_ ≠ ((.slice Ao30 t202.length co30) : Value).ownBlock) (.slice Ao37 t207.length co37) t207) ∧ Aside0 (wc.heap[gb189]? = some (.cells #[.string a0_0, (.slice A0_1 l0_1.length c0_1)] 24 (0, 0))) ∧ Aside0 (wc.heap[gb200]? = some (.cells #[.string t195, (.slice Ao23 t196.length co23)] 30 (0, 0))) ∧ Aside0 (wc.heap[gb205]? = some (.cells #[.string t201, (.slice Ao30 t202.length co30)] 30 (0, 0))) ∧ Aside0 (wc.heap[gb211]? = some (.cells #[.string t206, (.slice Ao37 t207.length co37)] 30 (0, 0))) ∧ Aside0 (Below w.heap.size w wc))
            case first =>
              have H := HC61.out
              clear HC61
              by_cases c71 : t218 < 0
              · rw [if_pos c71] at H
                have c71b0 : decide (t218 < 0) = true := decide_eq_true c71
                clear c71
                (first | rw [c71b0] | (simp only [i64_w, i32_w]; rw [c71b0]) | skip)
                have H' := Aside0.mk H
                clear H
                go_wp2
                go_meet
                case rel => exact ⟨_, (true), (by first | rfl | (simp; done) | (simp [*]; done)), H', ⟨by have := HJ11.out; first | omega | exact Nat.le_refl _⟩, ⟨by (with_reducible repeat (first | apply Kd.R_alloc | apply Kd.R_drewN | apply Kd.R_drew)); exact Kd.R_mono HO_201001.out (fun _ hk => ⟨hk.1, hk.2.1⟩)⟩, ⟨by (with_reducible repeat (first | apply Kd.R_alloc | apply Kd.R_drewN | apply Kd.R_drew)); exact Kd.R_mono HO_206001.out (fun _ hk => ⟨hk.1.1, hk.1.2⟩)⟩, ⟨by (with_reducible repeat (first | apply Kd.R_alloc | apply Kd.R_drewN | apply Kd.R_drew)); exact Kd.R_mono HO_212001.out (fun _ hk => ⟨hk.1, hk.2.1⟩)⟩, ⟨by (with_reducible repeat (first | refine blk_drewN ?_ _ | refine blk_drew ?_ | refine blk_alloc ?_ _)); exact BK189.out⟩, ⟨by (with_reducible repeat (first | refine blk_drewN ?_ _ | refine blk_drew ?_ | refine blk_alloc ?_ _)); exact BK200.out⟩, ⟨by (with_reducible repeat (first | refine blk_drewN ?_ _ | refine blk_drew ?_ | refine blk_alloc ?_ _)); exact BK205.out⟩, ⟨by (with_reducible repeat (first | refine blk_drewN ?_ _ | refine blk_drew ?_ | refine blk_alloc ?_ _)); exact BK211.out⟩, ⟨by repeat (first | (with_reducible first | exact HB.out | apply below_alloc | apply pw_below_drewN | apply below_drew1 | refine below_set ?_ GE189.out | refine below_set ?_ GE200.out | refine below_set ?_ GE205.out | refine below_set ?_ GE211.out) | exact HB.out)⟩⟩
              · rw [if_neg c71] at H
                have c71b0 : decide (t218 < 0) = false := decide_eq_false c71
                clear c71
                (first | rw [c71b0] | (simp only [i64_w, i32_w]; rw [c71b0]) | skip)
                replace H := Option.bind_eq_some_iff.mp H
                obtain ⟨t220, A720, H⟩ := H
                replace H : (if t220 = true then (laws_FnExactEvict.j1 kj11 a1 t199 (t210 != t199) a0_0 l0_1 t195 t196 t206 t207) else (laws_FnExactEvict.j1 kj11 a1 t199 true a0_0 l0_1 t195 t196 t206 t207)) = some r := H
                have A72 := Aside0.mk A720
                clear A720
                by_cases c73 : t220 = true
                · subst c73
                  have H1 : (laws_FnExactEvict.j1 kj11 a1 t199 (t210 != t199) a0_0 l0_1 t195 t196 t206 t207) = some r := by rw [if_pos rfl] at H; exact H
                  clear H
                  have H := H1
                  clear H1
                  have H' := Aside0.mk H
                  clear H
                  have hnb74 := NB211_189.out
                  have hnc74 := NB189_211.out
                  have hnb75 := NB211_200.out
                  have hnc75 := NB200_211.out
                  have hnb76 := NB211_205.out
                  have hnc76 := NB205_211.out
                  have hcz77_0 : w70.cell? ⟨gb211, 0, none⟩ = some (.string t206) := (blk_cell BK211.out 0).trans rfl
                  have hcz77_1 : w70.cell? ⟨gb211, 1, none⟩ = some (.slice Ao37 t207.length co37) := (blk_cell BK211.out 1).trans rfl
                  have hfz77_0 := blk_frozen BK211.out 0
                  have hfz77_1 := blk_frozen BK211.out 1
                  have hnb78 := NB200_189.out
                  have hnc78 := NB189_200.out
                  have hnb79 := NB200_205.out
                  have hnc79 := NB205_200.out
                  have hcz80_0 : w70.cell? ⟨gb200, 0, none⟩ = some (.string t195) := (blk_cell BK200.out 0).trans rfl
                  have hcz80_1 : w70.cell? ⟨gb200, 1, none⟩ = some (.slice Ao23 t196.length co23) := (blk_cell BK200.out 1).trans rfl
                  have hfz80_0 := blk_frozen BK200.out 0
                  have hfz80_1 := blk_frozen BK200.out 1
                  go_wp2_with (first | (go_at_call 21; (with_reducible refine (laws_eqDevice.calls kj11 t206 _ _ t207 t195 _ _ t196 true _ ?side1 ?side2 ?side3 ?side4 A72.out).mono ?_); (case side1 => repeat (first | exact (Kd.R_reads' HO_212001.out).2.2 | (with_reducible refine Kd.C_alloc ?_ _) | (with_reducible refine Kd.C_drewN ?_ _) | (with_reducible refine Kd.C_drew ?_))); (case side2 => exact (Kd.R_reads' HO_212001.out).2.1); (case side3 => repeat (first | exact (Kd.R_reads' HO_201001.out).2.2 | (with_reducible refine Kd.C_alloc ?_ _) | (with_reducible refine Kd.C_drewN ?_ _) | (with_reducible refine Kd.C_drew ?_))); (case side4 => exact (Kd.R_reads' HO_201001.out).2.1); rintro e w81 ⟨rfl, hb⟩; have n0_ := Aside0.mk (Kd.R_below (by (with_reducible repeat (first | apply Kd.R_alloc | apply Kd.R_drewN | apply Kd.R_drew)); exact HO_201001.out) hb); have n1_ := Aside0.mk (Kd.R_below (by (with_reducible repeat (first | apply Kd.R_alloc | apply Kd.R_drewN | apply Kd.R_drew)); exact HO_206001.out) hb); have n2_ := Aside0.mk (Kd.R_below (by (with_reducible repeat (first | apply Kd.R_alloc | apply Kd.R_drewN | apply Kd.R_drew)); exact HO_212001.out) hb); have n3_ := Aside0.mk (Kd.R_below (by (with_reducible repeat (first | apply Kd.R_alloc | apply Kd.R_drewN | apply Kd.R_drew)); exact HO216.out) hb); have n4_ := Aside0.mk (blk_below (g := gb189) (o := .cells #[.string a0_0, .slice A0_1 l0_1.length c0_1] 24 (0, 0)) (by (with_reducible repeat (first | refine blk_drewN ?_ _ | refine blk_drew ?_ | refine blk_alloc ?_ _)); exact BK189.out) hb); have n5_ := Aside0.mk (blk_below (g := gb200) (o := .cells #[.string t195, .slice Ao23 t196.length co23] 30 (0, 0)) (by (with_reducible repeat (first | refine blk_drewN ?_ _ | refine blk_drew ?_ | refine blk_alloc ?_ _)); exact BK200.out) hb); have n6_ := Aside0.mk (blk_below (g := gb205) (o := .cells #[.string t201, .slice Ao30 t202.length co30] 30 (0, 0)) (by (with_reducible repeat (first | refine blk_drewN ?_ _ | refine blk_drew ?_ | refine blk_alloc ?_ _)); exact BK205.out) hb); have n7_ := Aside0.mk (blk_below (g := gb211) (o := .cells #[.string t206, .slice Ao37 t207.length co37] 30 (0, 0)) (by (with_reducible repeat (first | refine blk_drewN ?_ _ | refine blk_drew ?_ | refine blk_alloc ?_ _)); exact BK211.out) hb); have n8_ := Aside0.mk (below_step (by repeat (first | (with_reducible first | exact HB.out | apply below_alloc | apply pw_below_drewN | apply below_drew1 | refine below_set ?_ GE189.out | refine below_set ?_ GE200.out | refine below_set ?_ GE205.out | refine below_set ?_ GE211.out) | exact HB.out)) hb); clear HO_201001; clear HO_206001; clear HO_212001; clear HO216; clear BK189; clear BK200; clear BK205; clear BK211; clear HB; have HO_201001 := n0_; have HO_206001 := n1_; have HO_212001 := n2_; have HO216 := n3_; have BK189 := n4_; have BK200 := n5_; have BK205 := n6_; have BK211 := n7_; have HB := n8_; clear n0_ n1_ n2_ n3_ n4_ n5_ n6_ n7_ n8_; (try clear hb); (try clear hb2); (try clear hk); (try clear hi)))
                  go_meet
                  case rel => exact ⟨_, ((t210 != t199)), (by first | rfl | (simp; done) | (simp [*]; done)), H', ⟨by have := HJ11.out; first | omega | exact Nat.le_refl _⟩, ⟨by (with_reducible repeat (first | apply Kd.R_alloc | apply Kd.R_drewN | apply Kd.R_drew)); exact Kd.R_mono HO_201001.out (fun _ hk => ⟨hk.1, hk.2.1⟩)⟩, ⟨by (with_reducible repeat (first | apply Kd.R_alloc | apply Kd.R_drewN | apply Kd.R_drew)); exact Kd.R_mono HO_206001.out (fun _ hk => ⟨hk.1.1, hk.1.2⟩)⟩, ⟨by (with_reducible repeat (first | apply Kd.R_alloc | apply Kd.R_drewN | apply Kd.R_drew)); exact Kd.R_mono HO_212001.out (fun _ hk => ⟨hk.1, hk.2.1⟩)⟩, ⟨by (with_reducible repeat (first | refine blk_drewN ?_ _ | refine blk_drew ?_ | refine blk_alloc ?_ _)); exact BK189.out⟩, ⟨by (with_reducible repeat (first | refine blk_drewN ?_ _ | refine blk_drew ?_ | refine blk_alloc ?_ _)); exact BK200.out⟩, ⟨by (with_reducible repeat (first | refine blk_drewN ?_ _ | refine blk_drew ?_ | refine blk_alloc ?_ _)); exact BK205.out⟩, ⟨by (with_reducible repeat (first | refine blk_drewN ?_ _ | refine blk_drew ?_ | refine blk_alloc ?_ _)); exact BK211.out⟩, ⟨by repeat (first | (with_reducible first | exact HB.out | apply below_alloc | apply pw_below_drewN | apply below_drew1 | refine below_set ?_ GE189.out | refine below_set ?_ GE200.out | refine below_set ?_ GE205.out | refine below_set ?_ GE211.out) | exact HB.out)⟩⟩
                · replace c73 := Bool.eq_false_iff.mpr c73
                  subst c73
                  have H1 : (laws_FnExactEvict.j1 kj11 a1 t199 true a0_0 l0_1 t195 t196 t206 t207) = some r := by rw [if_neg (show ¬ (false = true) by decide)] at H; exact H
                  clear H
                  have H := H1
                  clear H1
                  have H' := Aside0.mk H
                  clear H
                  have hnb82 := NB211_189.out
                  have hnc82 := NB189_211.out
                  have hnb83 := NB211_200.out
                  have hnc83 := NB200_211.out
                  have hnb84 := NB211_205.out
                  have hnc84 := NB205_211.out
                  have hcz85_0 : w70.cell? ⟨gb211, 0, none⟩ = some (.string t206) := (blk_cell BK211.out 0).trans rfl
                  have hcz85_1 : w70.cell? ⟨gb211, 1, none⟩ = some (.slice Ao37 t207.length co37) := (blk_cell BK211.out 1).trans rfl
                  have hfz85_0 := blk_frozen BK211.out 0
                  have hfz85_1 := blk_frozen BK211.out 1
                  have hnb86 := NB200_189.out
                  have hnc86 := NB189_200.out
                  have hnb87 := NB200_205.out
                  have hnc87 := NB205_200.out
                  have hcz88_0 : w70.cell? ⟨gb200, 0, none⟩ = some (.string t195) := (blk_cell BK200.out 0).trans rfl
                  have hcz88_1 : w70.cell? ⟨gb200, 1, none⟩ = some (.slice Ao23 t196.length co23) := (blk_cell BK200.out 1).trans rfl
                  have hfz88_0 := blk_frozen BK200.out 0
                  have hfz88_1 := blk_frozen BK200.out 1
                  go_wp2_with (first | (go_at_call 21; (with_reducible refine (laws_eqDevice.calls kj11 t206 _ _ t207 t195 _ _ t196 false _ ?side1 ?side2 ?side3 ?side4 A72.out).mono ?_); (case side1 => repeat (first | exact (Kd.R_reads' HO_212001.out).2.2 | (with_reducible refine Kd.C_alloc ?_ _) | (with_reducible refine Kd.C_drewN ?_ _) | (with_reducible refine Kd.C_drew ?_))); (case side2 => exact (Kd.R_reads' HO_212001.out).2.1); (case side3 => repeat (first | exact (Kd.R_reads' HO_201001.out).2.2 | (with_reducible refine Kd.C_alloc ?_ _) | (with_reducible refine Kd.C_drewN ?_ _) | (with_reducible refine Kd.C_drew ?_))); (case side4 => exact (Kd.R_reads' HO_201001.out).2.1); rintro e w89 ⟨rfl, hb⟩; have n0_ := Aside0.mk (Kd.R_below (by (with_reducible repeat (first | apply Kd.R_alloc | apply Kd.R_drewN | apply Kd.R_drew)); exact HO_201001.out) hb); have n1_ := Aside0.mk (Kd.R_below (by (with_reducible repeat (first | apply Kd.R_alloc | apply Kd.R_drewN | apply Kd.R_drew)); exact HO_206001.out) hb); have n2_ := Aside0.mk (Kd.R_below (by (with_reducible repeat (first | apply Kd.R_alloc | apply Kd.R_drewN | apply Kd.R_drew)); exact HO_212001.out) hb); have n3_ := Aside0.mk (Kd.R_below (by (with_reducible repeat (first | apply Kd.R_alloc | apply Kd.R_drewN | apply Kd.R_drew)); exact HO216.out) hb); have n4_ := Aside0.mk (blk_below (g := gb189) (o := .cells #[.string a0_0, .slice A0_1 l0_1.length c0_1] 24 (0, 0)) (by (with_reducible repeat (first | refine blk_drewN ?_ _ | refine blk_drew ?_ | refine blk_alloc ?_ _)); exact BK189.out) hb); have n5_ := Aside0.mk (blk_below (g := gb200) (o := .cells #[.string t195, .slice Ao23 t196.length co23] 30 (0, 0)) (by (with_reducible repeat (first | refine blk_drewN ?_ _ | refine blk_drew ?_ | refine blk_alloc ?_ _)); exact BK200.out) hb); have n6_ := Aside0.mk (blk_below (g := gb205) (o := .cells #[.string t201, .slice Ao30 t202.length co30] 30 (0, 0)) (by (with_reducible repeat (first | refine blk_drewN ?_ _ | refine blk_drew ?_ | refine blk_alloc ?_ _)); exact BK205.out) hb); have n7_ := Aside0.mk (blk_below (g := gb211) (o := .cells #[.string t206, .slice Ao37 t207.length co37] 30 (0, 0)) (by (with_reducible repeat (first | refine blk_drewN ?_ _ | refine blk_drew ?_ | refine blk_alloc ?_ _)); exact BK211.out) hb); have n8_ := Aside0.mk (below_step (by repeat (first | (with_reducible first | exact HB.out | apply below_alloc | apply pw_below_drewN | apply below_drew1 | refine below_set ?_ GE189.out | refine below_set ?_ GE200.out | refine below_set ?_ GE205.out | refine below_set ?_ GE211.out) | exact HB.out)) hb); clear HO_201001; clear HO_206001; clear HO_212001; clear HO216; clear BK189; clear BK200; clear BK205; clear BK211; clear HB; have HO_201001 := n0_; have HO_206001 := n1_; have HO_212001 := n2_; have HO216 := n3_; have BK189 := n4_; have BK200 := n5_; have BK205 := n6_; have BK211 := n7_; have HB := n8_; clear n0_ n1_ n2_ n3_ n4_ n5_ n6_ n7_ n8_; (try clear hb); (try clear hb2); (try clear hk); (try clear hi)))
                  go_meet
                  case rel => exact ⟨_, (true), (by first | rfl | (simp; done) | (simp [*]; done)), H', ⟨by have := HJ11.out; first | omega | exact Nat.le_refl _⟩, ⟨by (with_reducible repeat (first | apply Kd.R_alloc | apply Kd.R_drewN | apply Kd.R_drew)); exact Kd.R_mono HO_201001.out (fun _ hk => ⟨hk.1, hk.2.1⟩)⟩, ⟨by (with_reducible repeat (first | apply Kd.R_alloc | apply Kd.R_drewN | apply Kd.R_drew)); exact Kd.R_mono HO_206001.out (fun _ hk => ⟨hk.1.1, hk.1.2⟩)⟩, ⟨by (with_reducible repeat (first | apply Kd.R_alloc | apply Kd.R_drewN | apply Kd.R_drew)); exact Kd.R_mono HO_212001.out (fun _ hk => ⟨hk.1, hk.2.1⟩)⟩, ⟨by (with_reducible repeat (first | refine blk_drewN ?_ _ | refine blk_drew ?_ | refine blk_alloc ?_ _)); exact BK189.out⟩, ⟨by (with_reducible repeat (first | refine blk_drewN ?_ _ | refine blk_drew ?_ | refine blk_alloc ?_ _)); exact BK200.out⟩, ⟨by (with_reducible repeat (first | refine blk_drewN ?_ _ | refine blk_drew ?_ | refine blk_alloc ?_ _)); exact BK205.out⟩, ⟨by (with_reducible repeat (first | refine blk_drewN ?_ _ | refine blk_drew ?_ | refine blk_alloc ?_ _)); exact BK211.out⟩, ⟨by repeat (first | (with_reducible first | exact HB.out | apply below_alloc | apply pw_below_drewN | apply below_drew1 | refine below_set ?_ GE189.out | refine below_set ?_ GE200.out | refine below_set ?_ GE205.out | refine below_set ?_ GE211.out) | exact HB.out)⟩⟩
            case rest =>
              clear HC61
              try clear c1
              try clear c2
              try clear p2
              try clear c3
              try clear c4
              try clear c4b0
              try clear c5
              try clear c6
              try clear c7
              try clear c8
              try clear c9
              try clear c16
              try clear c18
              try clear c21
              try clear c22
              try clear c27
              try clear c28
              try clear c33
              try clear c34
              try clear c35
              try clear c37
              try clear c38
              try clear c39
              try clear c40
              try clear c41
              try clear c42
              try clear c44
              try clear c45
              try clear c48
              try clear c49
              try clear c50
              try clear c52
              try clear c53
              try clear c56
              try clear c59
              try clear c66
              try clear c67
              try clear c68
              try clear c71
              try clear c71b0
              try clear c73
              try clear c74
              try clear c75
              try clear c76
              try clear c78
              try clear c79
              try clear c82
              try clear c83
              try clear c84
              try clear c86
              try clear c87
              try clear hcz14_0
              try clear hcz14_1
              try clear hcz16_0
              try clear hcz16_1
              try clear hcz22_0
              try clear hcz22_1
              try clear hcz24_0
              try clear hcz24_1
              try clear hcz29_0
              try clear hcz29_1
              try clear hcz36_0
              try clear hcz36_1
              try clear hcz43_0
              try clear hcz43_1
              try clear hcz46_0
              try clear hcz46_1
              try clear hcz51_0
              try clear hcz51_1
              try clear hcz54_0
              try clear hcz54_1
              try clear hcz69_0
              try clear hcz69_1
              try clear hcz6_0
              try clear hcz6_1
              try clear hcz77_0
              try clear hcz77_1
              try clear hcz80_0
              try clear hcz80_1
              try clear hcz85_0
              try clear hcz85_1
              try clear hcz88_0
              try clear hcz88_1
              try clear hfz14_0
              try clear hfz14_1
              try clear hfz16_0
              try clear hfz16_1
              try clear hfz22_0
              try clear hfz22_1
              try clear hfz24_0
              try clear hfz24_1
              try clear hfz29_0
              try clear hfz29_1
              try clear hfz36_0
              try clear hfz36_1
              try clear hfz43_0
              try clear hfz43_1
              try clear hfz46_0
              try clear hfz46_1
              try clear hfz51_0
              try clear hfz51_1
              try clear hfz54_0
              try clear hfz54_1
              try clear hfz69_0
              try clear hfz69_1
              try clear hfz6_0
              try clear hfz6_1
              try clear hfz77_0
              try clear hfz77_1
              try clear hfz80_0
              try clear hfz80_1
              try clear hfz85_0
              try clear hfz85_1
              try clear hfz88_0
              try clear hfz88_1
              try clear p2
              obtain ⟨kq, x65_60, rfl, HA, HJ60, HO_201001, HO_206001, HO_212001, BK189, BK200, BK205, BK211, HB⟩ := hcut
              have hl206001_60 := (Kd.R_reads' HO_206001.out).1
              rw [hl206001_60] at HO_206001
              (try simp only [hl206001_60])
              (try simp only [hl206001_60] at BK189)
              (try simp only [hl206001_60] at BK200)
              (try simp only [hl206001_60] at BK205)
              (try simp only [hl206001_60] at BK211)
              (try simp only [hl206001_60] at HO_201001)
              (try simp only [hl206001_60] at HO_212001)
              cases kq with
              | zero => exact absurd HA.out (by simp [laws_FnExactEvict.j1])
              | succ kj60 =>
                have H := HA.out
                clear HA
                simp only [laws_FnExactEvict.j1] at H
                by_cases c90 : x65_60 = true
                · subst c90
                  have H1 : (none) = some r := by rw [if_pos rfl] at H; exact H
                  clear H
                  have H := H1
                  clear H1
                  exact absurd H (by simp)
                · replace c90 := Bool.eq_false_iff.mpr c90
                  subst c90
                  have H1 : ((laws_markDevice.f kj60 t206 t207 1).bind fun bt221 => ((laws_heldDevice.f kj60 t206 bt221.2 1).bind fun t223 => (if t223 < 0 then (none) else (if t223 = bt221.1 then ((laws_toDevice.f kj60 a0_0 l0_1).bind fun bt224 => ((impl_Evict.f kj60 bt224.1 bt224.2 a1).bind fun bt228 => ((laws_eqDevice.f kj60 bt228.1 bt228.2.1 t195 t196).bind fun t234 => (if t234 = true then (laws_FnExactEvict.j2 kj60 bt221.1 (bt228.2.2 != t199) t206 bt221.2) else (laws_FnExactEvict.j2 kj60 bt221.1 true t206 bt221.2))))) else (none))))) = some r := by rw [if_neg (show ¬ (false = true) by decide)] at H; exact H
                  clear H
                  have H := H1
                  clear H1
                  replace H := Option.bind_eq_some_iff.mp H
                  obtain ⟨⟨t221, t222⟩, A910, H⟩ := H
                  replace H : ((laws_heldDevice.f kj60 t206 t222 1).bind fun t223 => (if t223 < 0 then (none) else (if t223 = t221 then ((laws_toDevice.f kj60 a0_0 l0_1).bind fun bt224 => ((impl_Evict.f kj60 bt224.1 bt224.2 a1).bind fun bt228 => ((laws_eqDevice.f kj60 bt228.1 bt228.2.1 t195 t196).bind fun t234 => (if t234 = true then (laws_FnExactEvict.j2 kj60 t221 (bt228.2.2 != t199) t206 t222) else (laws_FnExactEvict.j2 kj60 t221 true t206 t222))))) else (none)))) = some r := H
                  have A91 := Aside0.mk A910
                  clear A910
                  replace H := Option.bind_eq_some_iff.mp H
                  obtain ⟨t223, A920, H⟩ := H
                  replace H : (if t223 < 0 then (none) else (if t223 = t221 then ((laws_toDevice.f kj60 a0_0 l0_1).bind fun bt224 => ((impl_Evict.f kj60 bt224.1 bt224.2 a1).bind fun bt228 => ((laws_eqDevice.f kj60 bt228.1 bt228.2.1 t195 t196).bind fun t234 => (if t234 = true then (laws_FnExactEvict.j2 kj60 t221 (bt228.2.2 != t199) t206 t222) else (laws_FnExactEvict.j2 kj60 t221 true t206 t222))))) else (none))) = some r := H
                  have A92 := Aside0.mk A920
                  clear A920
                  by_cases c93 : t223 < 0
                  · rw [if_pos c93] at H
                    exact absurd H (by simp)
                  · rw [if_neg c93] at H
                    have c93b0 : decide (t223 < 0) = false := decide_eq_false c93
                    (try simp only [hl206001_60] at c93b0)
                    clear c93
                    by_cases c94 : t223 = t221
                    · rw [if_pos c94] at H
                      have c94b0 : (t223 == t221) = true := beq_iff_eq.mpr c94
                      (try simp only [hl206001_60] at c94b0)
                      have c94b1 : (t223 != t221) = false := bne_eq_false_iff_eq.mpr c94
                      (try simp only [hl206001_60] at c94b1)
                      clear c94
                      replace H := Option.bind_eq_some_iff.mp H
                      obtain ⟨⟨t224, t225⟩, A950, H⟩ := H
                      replace H : ((impl_Evict.f kj60 t224 t225 a1).bind fun bt228 => ((laws_eqDevice.f kj60 bt228.1 bt228.2.1 t195 t196).bind fun t234 => (if t234 = true then (laws_FnExactEvict.j2 kj60 t221 (bt228.2.2 != t199) t206 t222) else (laws_FnExactEvict.j2 kj60 t221 true t206 t222)))) = some r := H
                      have A95 := Aside0.mk A950
                      clear A950
                      replace H := Option.bind_eq_some_iff.mp H
                      obtain ⟨⟨t228, t229, t232⟩, A960, H⟩ := H
                      replace H : ((laws_eqDevice.f kj60 t228 t229 t195 t196).bind fun t234 => (if t234 = true then (laws_FnExactEvict.j2 kj60 t221 (t232 != t199) t206 t222) else (laws_FnExactEvict.j2 kj60 t221 true t206 t222))) = some r := H
                      have A96 := Aside0.mk A960
                      clear A960
                      have HC97 := Aside0.mk H
                      clear H
                      have hnb98 := NB211_189.out
                      have hnc98 := NB189_211.out
                      have hnb99 := NB211_200.out
                      have hnc99 := NB200_211.out
                      have hnb100 := NB211_205.out
                      have hnc100 := NB205_211.out
                      have hcz101_0 : wc.cell? ⟨gb211, 0, none⟩ = some (.string t206) := (blk_cell BK211.out 0).trans rfl
                      have hcz101_1 : wc.cell? ⟨gb211, 1, none⟩ = some (.slice Ao37 t207.length co37) := (blk_cell BK211.out 1).trans rfl
                      have hfz101_0 := blk_frozen BK211.out 0
                      have hfz101_1 := blk_frozen BK211.out 1
                      go_upto_region 25 with (first | ((with_reducible refine gate_callee (f := 22) rfl ?_); refine goesL_ (some 68) rfl rfl Try.func22 (by kernel_rfl) rfl #[.agg #[.string t206, .slice Ao37 t207.length co37], .int .i64 1] rfl (by (try simp only [List.map_toArray, List.map_cons, List.map_nil]); first | done | rfl | (simp only [List.length_drop, List.length_take]; rfl)) ?_; (with_reducible refine (laws_markDevice.calls kj60 t206 (fun k_ => some k_ = (.slice Ao37 t207.length co37 : Value).ownBlock) (.slice Ao37 t207.length co37) t207 1 t221 t222 w _ ?side1 ?side2 A91.out).mono ?_); (case side1 => repeat (first | (with_reducible first | exact HB.out | apply below_alloc | apply pw_below_drewN | apply below_drew1 | refine below_set ?_ GE189.out | refine below_set ?_ GE200.out | refine below_set ?_ GE205.out | refine below_set ?_ GE211.out) | exact HB.out)); (case side2 => exact Kd.R_tight rfl HO_212001.out); rintro e w102 ⟨rfl, hy0, hb, hkp⟩; refine ⟨_, rfl, ?_⟩; have n0_ := Aside0.mk (Kd.R_mono (ok' := fun k_ => some k_ ≠ (.slice Ao30 t219.length co30 : Value).ownBlock ∧ some k_ ≠ (.slice Ao37 t207.length co37 : Value).ownBlock) (Kd.R_keptB (HO_201001.out) hkp (fun k_ hk_ hs_ => (by first | exact (hk_.2) hs_ | exact absurd hs_ (by simp only [ne_eq, hk_, not_false_eq_true])))) (fun k_ hk_ => (by first | exact ⟨hk_.1.1, hk_.1.2⟩ | (simp only [ne_eq, hk_, not_false_eq_true, and_self])))); have n1_ := Aside0.mk (Kd.R_mono (ok' := fun k_ => some k_ ≠ (.slice Ao23 t196.length co23 : Value).ownBlock ∧ some k_ ≠ (.slice Ao37 t207.length co37 : Value).ownBlock) (Kd.R_keptB (HO_206001.out) hkp (fun k_ hk_ hs_ => (by first | exact (hk_.2) hs_ | exact absurd hs_ (by simp only [ne_eq, hk_, not_false_eq_true])))) (fun k_ hk_ => (by first | exact ⟨hk_.1.1, hk_.1.2⟩ | (simp only [ne_eq, hk_, not_false_eq_true, and_self])))); have n2_ := Aside0.mk (Kd.R_reok rfl hy0 (fun k_ e_ => HO_212001.out.1 k_ e_)); have n3_ := Aside0.mk (blk_kept (by (with_reducible repeat (first | refine blk_drewN ?_ _ | refine blk_drew ?_ | refine blk_alloc ?_ _)); exact BK189.out) hkp (fun hs_ => (fun e_ => (Kd.R_ne HO_212001.out BK189.out (by decide)) e_) hs_)); have n4_ := Aside0.mk (blk_kept (by (with_reducible repeat (first | refine blk_drewN ?_ _ | refine blk_drew ?_ | refine blk_alloc ?_ _)); exact BK200.out) hkp (fun hs_ => (fun e_ => (Kd.R_ne HO_212001.out BK200.out (by decide)) e_) hs_)); have n5_ := Aside0.mk (blk_kept (by (with_reducible repeat (first | refine blk_drewN ?_ _ | refine blk_drew ?_ | refine blk_alloc ?_ _)); exact BK205.out) hkp (fun hs_ => (fun e_ => (Kd.R_ne HO_212001.out BK205.out (by decide)) e_) hs_)); have n6_ := Aside0.mk (blk_kept (by (with_reducible repeat (first | refine blk_drewN ?_ _ | refine blk_drew ?_ | refine blk_alloc ?_ _)); exact BK211.out) hkp (fun hs_ => (fun e_ => (Kd.R_ne HO_212001.out BK211.out (by decide)) e_) hs_)); have n7_ := Aside0.mk (hb); clear HO_201001; clear HO_206001; clear HO_212001; clear BK189; clear BK200; clear BK205; clear BK211; clear HB; have HO_201001 := n0_; have HO_206001 := n1_; have HO_212001 := n2_; have BK189 := n3_; have BK200 := n4_; have BK205 := n5_; have BK211 := n6_; have HB := n7_; clear n0_ n1_ n2_ n3_ n4_ n5_ n6_ n7_; (try clear hb); (try clear hkp); (try clear hy0); have hcz103_0 : w102.cell? ⟨gb211, 0, none⟩ = some (.string t206) := (blk_cell BK211.out 0).trans rfl; have hcz103_1 : w102.cell? ⟨gb211, 1, none⟩ = some (.slice Ao37 t207.length co37) := (blk_cell BK211.out 1).trans rfl; have hfz103_0 := blk_frozen BK211.out 0; have hfz103_1 := blk_frozen BK211.out 1) | ((with_reducible refine gate_callee (f := 28) rfl ?_); refine goesL_ (some 71) rfl rfl Try.func28 (by kernel_rfl) rfl #[.agg #[.string t206, .slice Ao37 t222.length co37], .int .i64 1] rfl (by (try simp only [List.map_toArray, List.map_cons, List.map_nil]); first | done | (rw [show t222.length = t207.length from (Kd.R_reads' HO_212001.out).1.symm] <;> rfl) | rfl | (simp only [List.length_drop, List.length_take]; rfl)) ?_; (with_reducible refine (laws_heldDevice.calls kj60 t206 _ _ t222 1 t223 _ ?side1 ?side2 A92.out).mono ?_); (case side1 => repeat (first | exact (Kd.R_reads' HO_212001.out).2.2 | (with_reducible refine Kd.C_alloc ?_ _) | (with_reducible refine Kd.C_drewN ?_ _) | (with_reducible refine Kd.C_drew ?_))); (case side2 => rw [show t222.length = t207.length from (Kd.R_reads' HO_212001.out).1.symm]; exact (Kd.R_reads' HO_212001.out).2.1); rintro e w104 ⟨rfl, hb⟩; refine ⟨_, rfl, ?_⟩; have n0_ := Aside0.mk (Kd.R_below (by (with_reducible repeat (first | apply Kd.R_alloc | apply Kd.R_drewN | apply Kd.R_drew)); exact HO_201001.out) hb); have n1_ := Aside0.mk (Kd.R_below (by (with_reducible repeat (first | apply Kd.R_alloc | apply Kd.R_drewN | apply Kd.R_drew)); exact HO_206001.out) hb); have n2_ := Aside0.mk (Kd.R_below (by (with_reducible repeat (first | apply Kd.R_alloc | apply Kd.R_drewN | apply Kd.R_drew)); exact HO_212001.out) hb); have n3_ := Aside0.mk (blk_below (g := gb189) (o := .cells #[.string a0_0, .slice A0_1 l0_1.length c0_1] 24 (0, 0)) (by (with_reducible repeat (first | refine blk_drewN ?_ _ | refine blk_drew ?_ | refine blk_alloc ?_ _)); exact BK189.out) hb); have n4_ := Aside0.mk (blk_below (g := gb200) (o := .cells #[.string t195, .slice Ao23 t196.length co23] 30 (0, 0)) (by (with_reducible repeat (first | refine blk_drewN ?_ _ | refine blk_drew ?_ | refine blk_alloc ?_ _)); exact BK200.out) hb); have n5_ := Aside0.mk (blk_below (g := gb205) (o := .cells #[.string t201, .slice Ao30 t219.length co30] 30 (0, 0)) (by (with_reducible repeat (first | refine blk_drewN ?_ _ | refine blk_drew ?_ | refine blk_alloc ?_ _)); exact BK205.out) hb); have n6_ := Aside0.mk (blk_below (g := gb211) (o := .cells #[.string t206, .slice Ao37 t207.length co37] 30 (0, 0)) (by (with_reducible repeat (first | refine blk_drewN ?_ _ | refine blk_drew ?_ | refine blk_alloc ?_ _)); exact BK211.out) hb); have n7_ := Aside0.mk (below_step (by repeat (first | (with_reducible first | exact HB.out | apply below_alloc | apply pw_below_drewN | apply below_drew1 | refine below_set ?_ GE189.out | refine below_set ?_ GE200.out | refine below_set ?_ GE205.out | refine below_set ?_ GE211.out) | exact HB.out)) hb); clear HO_201001; clear HO_206001; clear HO_212001; clear BK189; clear BK200; clear BK205; clear BK211; clear HB; have HO_201001 := n0_; have HO_206001 := n1_; have HO_212001 := n2_; have BK189 := n3_; have BK200 := n4_; have BK205 := n5_; have BK211 := n6_; have HB := n7_; clear n0_ n1_ n2_ n3_ n4_ n5_ n6_ n7_; (try clear hb); (try clear hb2); (try clear hk); (try clear hi); have hnb105 := NB189_200.out; have hnc105 := NB200_189.out; have hnb106 := NB189_205.out; have hnc106 := NB205_189.out; have hcz107_0 : w104.cell? ⟨gb189, 0, none⟩ = some (.string a0_0) := (blk_cell BK189.out 0).trans rfl; have hcz107_1 : w104.cell? ⟨gb189, 1, none⟩ = some (.slice A0_1 l0_1.length c0_1) := (blk_cell BK189.out 1).trans rfl; have hfz107_0 := blk_frozen BK189.out 0; have hfz107_1 := blk_frozen BK189.out 1) | ((with_reducible refine gate_callee (f := 18) rfl ?_); refine goesL_ (some 79) rfl rfl Try.func18 (by kernel_rfl) rfl #[.agg #[.string a0_0, .slice A0_1 l0_1.length c0_1]] rfl (by (try simp only [List.map_toArray, List.map_cons, List.map_nil]); first | done | rfl | (simp only [List.length_drop, List.length_take]; rfl)) ?_; (with_reducible refine (laws_toDevice.calls kj60 a0_0 _ _ l0_1 t224 t225 _ ?side1 ?side2 A95.out).mono ?_); (case side1 => repeat (first | exact (Kd.C_below HR0_1.out HB.out) | (with_reducible refine Kd.C_alloc ?_ _) | (with_reducible refine Kd.C_drewN ?_ _) | (with_reducible refine Kd.C_drew ?_))); (case side2 => exact HC0_1.out); rintro e w108 ⟨v226, rfl, ho0, hb⟩; refine ⟨_, rfl, ?_⟩; have n0_ := Aside0.mk (Kd.R_elder' (by (with_reducible repeat (first | apply Kd.R_alloc | apply Kd.R_drewN | apply Kd.R_drew)); exact HO_201001.out) (Kd.R_base ho0) hb); have n1_ := Aside0.mk (Kd.R_elder' (by (with_reducible repeat (first | apply Kd.R_alloc | apply Kd.R_drewN | apply Kd.R_drew)); exact HO_206001.out) (Kd.R_base ho0) hb); have n2_ := Aside0.mk (Kd.R_elder' (by (with_reducible repeat (first | apply Kd.R_alloc | apply Kd.R_drewN | apply Kd.R_drew)); exact HO_212001.out) (Kd.R_base ho0) hb); have n3_ := Aside0.mk (Kd.R_lower (Kd.R_new' (Kd.R_new' (Kd.R_new' ho0 (Kd.R_lt (by (with_reducible repeat (first | apply Kd.R_alloc | apply Kd.R_drewN | apply Kd.R_drew)); exact HO_201001.out))) (Kd.R_lt (by (with_reducible repeat (first | apply Kd.R_alloc | apply Kd.R_drewN | apply Kd.R_drew)); exact HO_206001.out))) (Kd.R_lt (by (with_reducible repeat (first | apply Kd.R_alloc | apply Kd.R_drewN | apply Kd.R_drew)); exact HO_212001.out))) (below_size (by repeat (first | (with_reducible first | exact HB.out | apply below_alloc | apply pw_below_drewN | apply below_drew1 | refine below_set ?_ GE189.out | refine below_set ?_ GE200.out | refine below_set ?_ GE205.out | refine below_set ?_ GE211.out) | exact HB.out)))); have n4_ := Aside0.mk (blk_below (g := gb189) (o := .cells #[.string a0_0, .slice A0_1 l0_1.length c0_1] 24 (0, 0)) (by (with_reducible repeat (first | refine blk_drewN ?_ _ | refine blk_drew ?_ | refine blk_alloc ?_ _)); exact BK189.out) hb); have n5_ := Aside0.mk (blk_below (g := gb200) (o := .cells #[.string t195, .slice Ao23 t196.length co23] 30 (0, 0)) (by (with_reducible repeat (first | refine blk_drewN ?_ _ | refine blk_drew ?_ | refine blk_alloc ?_ _)); exact BK200.out) hb); have n6_ := Aside0.mk (blk_below (g := gb205) (o := .cells #[.string t201, .slice Ao30 t219.length co30] 30 (0, 0)) (by (with_reducible repeat (first | refine blk_drewN ?_ _ | refine blk_drew ?_ | refine blk_alloc ?_ _)); exact BK205.out) hb); have n7_ := Aside0.mk (blk_below (g := gb211) (o := .cells #[.string t206, .slice Ao37 t207.length co37] 30 (0, 0)) (by (with_reducible repeat (first | refine blk_drewN ?_ _ | refine blk_drew ?_ | refine blk_alloc ?_ _)); exact BK211.out) hb); have n8_ := Aside0.mk (below_step (by repeat (first | (with_reducible first | exact HB.out | apply below_alloc | apply pw_below_drewN | apply below_drew1 | refine below_set ?_ GE189.out | refine below_set ?_ GE200.out | refine below_set ?_ GE205.out | refine below_set ?_ GE211.out) | exact HB.out)) hb); clear HO_201001; clear HO_206001; clear HO_212001; clear BK189; clear BK200; clear BK205; clear BK211; clear HB; have HO_201001 := n0_; have HO_206001 := n1_; have HO_212001 := n2_; have HO227 := n3_; have BK189 := n4_; have BK200 := n5_; have BK205 := n6_; have BK211 := n7_; have HB := n8_; clear n0_ n1_ n2_ n3_ n4_ n5_ n6_ n7_ n8_; (try clear hb); (try clear hb2); (try clear hk); (try clear hi); (try clear ho0); obtain ⟨Ao109, co109, eo109⟩ := Kd.R_slice HO227.out; subst eo109) | ((with_reducible refine gate_callee (f := 38) rfl ?_); refine goesL_ (some 81) rfl rfl Try.func38 (by kernel_rfl) rfl #[.agg #[.string t224, .slice Ao109 t225.length co109], .int .i64 a1] rfl (by (try simp only [List.map_toArray, List.map_cons, List.map_nil]); first | done | rfl | (simp only [List.length_drop, List.length_take]; rfl)) ?_; (with_reducible refine (impl_Evict.calls kj60 t224 _ _ t225 a1 t228 t229 t232 _ ?side1 ?side2 A96.out).mono ?_); (case side1 => repeat (first | exact (Kd.R_reads' HO227.out).2.2 | (with_reducible refine Kd.C_alloc ?_ _) | (with_reducible refine Kd.C_drewN ?_ _) | (with_reducible refine Kd.C_drew ?_))); (case side2 => exact (Kd.R_reads' HO227.out).2.1); rintro e w110 ⟨v230, rfl, ho0, hb⟩; refine ⟨_, rfl, ?_⟩; have n0_ := Aside0.mk (Kd.R_elder' (by (with_reducible repeat (first | apply Kd.R_alloc | apply Kd.R_drewN | apply Kd.R_drew)); exact HO_201001.out) (Kd.R_base ho0) hb); have n1_ := Aside0.mk (Kd.R_elder' (by (with_reducible repeat (first | apply Kd.R_alloc | apply Kd.R_drewN | apply Kd.R_drew)); exact HO_206001.out) (Kd.R_base ho0) hb); have n2_ := Aside0.mk (Kd.R_elder' (by (with_reducible repeat (first | apply Kd.R_alloc | apply Kd.R_drewN | apply Kd.R_drew)); exact HO_212001.out) (Kd.R_base ho0) hb); have n3_ := Aside0.mk (Kd.R_elder' (by (with_reducible repeat (first | apply Kd.R_alloc | apply Kd.R_drewN | apply Kd.R_drew)); exact HO227.out) (Kd.R_base ho0) hb); have n4_ := Aside0.mk (Kd.R_lower (Kd.R_new' (Kd.R_new' (Kd.R_new' (Kd.R_new' ho0 (Kd.R_lt (by (with_reducible repeat (first | apply Kd.R_alloc | apply Kd.R_drewN | apply Kd.R_drew)); exact HO_201001.out))) (Kd.R_lt (by (with_reducible repeat (first | apply Kd.R_alloc | apply Kd.R_drewN | apply Kd.R_drew)); exact HO_206001.out))) (Kd.R_lt (by (with_reducible repeat (first | apply Kd.R_alloc | apply Kd.R_drewN | apply Kd.R_drew)); exact HO_212001.out))) (Kd.R_lt (by (with_reducible repeat (first | apply Kd.R_alloc | apply Kd.R_drewN | apply Kd.R_drew)); exact HO227.out))) (below_size (by repeat (first | (with_reducible first | exact HB.out | apply below_alloc | apply pw_below_drewN | apply below_drew1 | refine below_set ?_ GE189.out | refine below_set ?_ GE200.out | refine below_set ?_ GE205.out | refine below_set ?_ GE211.out) | exact HB.out)))); have n5_ := Aside0.mk (blk_below (g := gb189) (o := .cells #[.string a0_0, .slice A0_1 l0_1.length c0_1] 24 (0, 0)) (by (with_reducible repeat (first | refine blk_drewN ?_ _ | refine blk_drew ?_ | refine blk_alloc ?_ _)); exact BK189.out) hb); have n6_ := Aside0.mk (blk_below (g := gb200) (o := .cells #[.string t195, .slice Ao23 t196.length co23] 30 (0, 0)) (by (with_reducible repeat (first | refine blk_drewN ?_ _ | refine blk_drew ?_ | refine blk_alloc ?_ _)); exact BK200.out) hb); have n7_ := Aside0.mk (blk_below (g := gb205) (o := .cells #[.string t201, .slice Ao30 t219.length co30] 30 (0, 0)) (by (with_reducible repeat (first | refine blk_drewN ?_ _ | refine blk_drew ?_ | refine blk_alloc ?_ _)); exact BK205.out) hb); have n8_ := Aside0.mk (blk_below (g := gb211) (o := .cells #[.string t206, .slice Ao37 t207.length co37] 30 (0, 0)) (by (with_reducible repeat (first | refine blk_drewN ?_ _ | refine blk_drew ?_ | refine blk_alloc ?_ _)); exact BK211.out) hb); have n9_ := Aside0.mk (below_step (by repeat (first | (with_reducible first | exact HB.out | apply below_alloc | apply pw_below_drewN | apply below_drew1 | refine below_set ?_ GE189.out | refine below_set ?_ GE200.out | refine below_set ?_ GE205.out | refine below_set ?_ GE211.out) | exact HB.out)) hb); clear HO_201001; clear HO_206001; clear HO_212001; clear HO227; clear BK189; clear BK200; clear BK205; clear BK211; clear HB; have HO_201001 := n0_; have HO_206001 := n1_; have HO_212001 := n2_; have HO227 := n3_; have HO231 := n4_; have BK189 := n5_; have BK200 := n6_; have BK205 := n7_; have BK211 := n8_; have HB := n9_; clear n0_ n1_ n2_ n3_ n4_ n5_ n6_ n7_ n8_ n9_; (try clear hb); (try clear hb2); (try clear hk); (try clear hi); (try clear ho0)) | ((with_reducible refine gate_dst (N := 14) rfl ?_); refine box_event ?hg (N := 14) ?hd (cs := #[.string (⟨#[]⟩ : ByteArray), .slice none 0 0]) (t := 30) ?hr ?_; (case hd => rfl); (case hg => rfl); (case hr => first | (go_simp; done) | (go_simp; rfl)); intro gb233 hg w111 hbox hb; have n0_ := Aside0.mk (Kd.R_below (by (with_reducible repeat (first | apply Kd.R_alloc | apply Kd.R_drewN | apply Kd.R_drew)); exact HO_201001.out) hb); have n1_ := Aside0.mk (Kd.R_below (by (with_reducible repeat (first | apply Kd.R_alloc | apply Kd.R_drewN | apply Kd.R_drew)); exact HO_206001.out) hb); have n2_ := Aside0.mk (Kd.R_below (by (with_reducible repeat (first | apply Kd.R_alloc | apply Kd.R_drewN | apply Kd.R_drew)); exact HO_212001.out) hb); have n3_ := Aside0.mk (Kd.R_below (by (with_reducible repeat (first | apply Kd.R_alloc | apply Kd.R_drewN | apply Kd.R_drew)); exact HO227.out) hb); have n4_ := Aside0.mk (Kd.R_below (by (with_reducible repeat (first | apply Kd.R_alloc | apply Kd.R_drewN | apply Kd.R_drew)); exact HO231.out) hb); have n5_ := Aside0.mk (blk_below (g := gb189) (o := .cells #[.string a0_0, .slice A0_1 l0_1.length c0_1] 24 (0, 0)) (by (with_reducible repeat (first | refine blk_drewN ?_ _ | refine blk_drew ?_ | refine blk_alloc ?_ _)); exact BK189.out) hb); have n6_ := Aside0.mk (blk_below (g := gb200) (o := .cells #[.string t195, .slice Ao23 t196.length co23] 30 (0, 0)) (by (with_reducible repeat (first | refine blk_drewN ?_ _ | refine blk_drew ?_ | refine blk_alloc ?_ _)); exact BK200.out) hb); have n7_ := Aside0.mk (blk_below (g := gb205) (o := .cells #[.string t201, .slice Ao30 t219.length co30] 30 (0, 0)) (by (with_reducible repeat (first | refine blk_drewN ?_ _ | refine blk_drew ?_ | refine blk_alloc ?_ _)); exact BK205.out) hb); have n8_ := Aside0.mk (blk_below (g := gb211) (o := .cells #[.string t206, .slice Ao37 t207.length co37] 30 (0, 0)) (by (with_reducible repeat (first | refine blk_drewN ?_ _ | refine blk_drew ?_ | refine blk_alloc ?_ _)); exact BK211.out) hb); have n9_ := Aside0.mk (below_step (by repeat (first | (with_reducible first | exact HB.out | apply below_alloc | apply pw_below_drewN | apply below_drew1 | refine below_set ?_ GE189.out | refine below_set ?_ GE200.out | refine below_set ?_ GE205.out | refine below_set ?_ GE211.out) | exact HB.out)) hb); have n10_ := Aside0.mk (hbox); have n11_ := Aside0.mk ((by rw [hg]; exact (below_size (by repeat (first | (with_reducible first | exact HB.out | apply below_alloc | apply pw_below_drewN | apply below_drew1 | refine below_set ?_ GE189.out | refine below_set ?_ GE200.out | refine below_set ?_ GE205.out | refine below_set ?_ GE211.out) | exact HB.out))) : w.heap.size ≤ gb233)); have n12_ := Aside0.mk ((by rw [hg]; exact (below_size (by repeat (first | (with_reducible first | exact HB.out | apply below_alloc | apply pw_below_drewN | apply below_drew1 | refine below_set ?_ GE189.out | refine below_set ?_ GE200.out | refine below_set ?_ GE205.out | refine below_set ?_ GE211.out) | exact HB.out))) : w.heap.size ≤ gb233)); have n13_ := Aside0.mk ((by rw [hg]; exact Nat.ne_of_lt (blk_lt (g := gb189) (o := .cells #[.string a0_0, .slice A0_1 l0_1.length c0_1] 24 (0, 0)) (by (with_reducible repeat (first | refine blk_drewN ?_ _ | refine blk_drew ?_ | refine blk_alloc ?_ _)); exact BK189.out)) : gb189 ≠ gb233)); have n14_ := Aside0.mk ((by rw [hg]; exact Nat.ne_of_gt (blk_lt (g := gb189) (o := .cells #[.string a0_0, .slice A0_1 l0_1.length c0_1] 24 (0, 0)) (by (with_reducible repeat (first | refine blk_drewN ?_ _ | refine blk_drew ?_ | refine blk_alloc ?_ _)); exact BK189.out)) : gb233 ≠ gb189)); have n15_ := Aside0.mk ((by rw [hg]; exact Nat.ne_of_lt (blk_lt (g := gb200) (o := .cells #[.string t195, .slice Ao23 t196.length co23] 30 (0, 0)) (by (with_reducible repeat (first | refine blk_drewN ?_ _ | refine blk_drew ?_ | refine blk_alloc ?_ _)); exact BK200.out)) : gb200 ≠ gb233)); have n16_ := Aside0.mk ((by rw [hg]; exact Nat.ne_of_gt (blk_lt (g := gb200) (o := .cells #[.string t195, .slice Ao23 t196.length co23] 30 (0, 0)) (by (with_reducible repeat (first | refine blk_drewN ?_ _ | refine blk_drew ?_ | refine blk_alloc ?_ _)); exact BK200.out)) : gb233 ≠ gb200)); have n17_ := Aside0.mk ((by rw [hg]; exact Nat.ne_of_lt (blk_lt (g := gb205) (o := .cells #[.string t201, .slice Ao30 t219.length co30] 30 (0, 0)) (by (with_reducible repeat (first | refine blk_drewN ?_ _ | refine blk_drew ?_ | refine blk_alloc ?_ _)); exact BK205.out)) : gb205 ≠ gb233)); have n18_ := Aside0.mk ((by rw [hg]; exact Nat.ne_of_gt (blk_lt (g := gb205) (o := .cells #[.string t201, .slice Ao30 t219.length co30] 30 (0, 0)) (by (with_reducible repeat (first | refine blk_drewN ?_ _ | refine blk_drew ?_ | refine blk_alloc ?_ _)); exact BK205.out)) : gb233 ≠ gb205)); have n19_ := Aside0.mk ((by rw [hg]; exact Nat.ne_of_lt (blk_lt (g := gb211) (o := .cells #[.string t206, .slice Ao37 t207.length co37] 30 (0, 0)) (by (with_reducible repeat (first | refine blk_drewN ?_ _ | refine blk_drew ?_ | refine blk_alloc ?_ _)); exact BK211.out)) : gb211 ≠ gb233)); have n20_ := Aside0.mk ((by rw [hg]; exact Nat.ne_of_gt (blk_lt (g := gb211) (o := .cells #[.string t206, .slice Ao37 t207.length co37] 30 (0, 0)) (by (with_reducible repeat (first | refine blk_drewN ?_ _ | refine blk_drew ?_ | refine blk_alloc ?_ _)); exact BK211.out)) : gb233 ≠ gb211)); clear HO_201001; clear HO_206001; clear HO_212001; clear HO227; clear HO231; clear BK189; clear BK200; clear BK205; clear BK211; clear HB; have HO_201001 := n0_; have HO_206001 := n1_; have HO_212001 := n2_; have HO227 := n3_; have HO231 := n4_; have BK189 := n5_; have BK200 := n6_; have BK205 := n7_; have BK211 := n8_; have HB := n9_; have BK233 := n10_; have GW233 := n11_; have GE233 := n12_; have NB189_233 := n13_; have NB233_189 := n14_; have NB200_233 := n15_; have NB233_200 := n16_; have NB205_233 := n17_; have NB233_205 := n18_; have NB211_233 := n19_; have NB233_211 := n20_; clear n0_ n1_ n2_ n3_ n4_ n5_ n6_ n7_ n8_ n9_ n10_ n11_ n12_ n13_ n14_ n15_ n16_ n17_ n18_ n19_ n20_; clear hb hbox hg; have hnb112 := NB233_189.out; have hnc112 := NB189_233.out; have hnb113 := NB233_200.out; have hnc113 := NB200_233.out; have hnb114 := NB233_205.out; have hnc114 := NB205_233.out; have hnb115 := NB233_211.out; have hnc115 := NB211_233.out; have hcz116_0 : w111.cell? ⟨gb233, 0, none⟩ = some (.string (⟨#[]⟩ : ByteArray)) := (blk_cell BK233.out 0).trans rfl; have hcz116_1 : w111.cell? ⟨gb233, 1, none⟩ = some (.slice none 0 0) := (blk_cell BK233.out 1).trans rfl; have hfz116_0 := blk_frozen BK233.out 0; have hfz116_1 := blk_frozen BK233.out 1; obtain ⟨Ao117, co117, eo117⟩ := Kd.R_slice HO231.out; subst eo117))
                      (try simp only [Act.put, List.setIfInBounds_toArray, List.set_cons_zero, List.set_cons_succ])
                      go_cut [92] (fun v92 wc => ∃ (kq : Nat) (x92_96 : Bool), v92 = .bool x92_96 ∧ Aside0 (laws_FnExactEvict.j2 kq t221 x92_96 t206 t222 = some r) ∧ Aside0 (kq ≤ kj60) ∧ Aside0 (Kd.R k67 67 wc w.heap.size (fun k_ => some k_ ≠ ((.slice Ao30 t219.length co30) : Value).ownBlock ∧ some k_ ≠ ((.slice Ao37 t207.length co37) : Value).ownBlock ∧ some k_ ≠ ((.slice Ao117 t229.length co117) : Value).ownBlock) (.slice Ao23 t196.length co23) t196) ∧ Aside0 (Kd.R k67 67 wc w.heap.size (fun k_ => some k_ ≠ ((.slice Ao23 t196.length co23) : Value).ownBlock ∧ some k_ ≠ ((.slice Ao37 t207.length co37) : Value).ownBlock ∧ some k_ ≠ ((.slice Ao117 t229.length co117) : Value).ownBlock) (.slice Ao30 t219.length co30) t219) ∧ Aside0 (Kd.R k67 67 wc w.heap.size (fun k_ => some k_ ≠ ((.slice Ao23 t196.length co23) : Value).ownBlock ∧ some k_ ≠ ((.slice Ao30 t219.length co30) : Value).ownBlock ∧ some k_ ≠ ((.slice Ao117 t229.length co117) : Value).ownBlock) (.slice Ao37 t207.length co37) t222) ∧ Aside0 (Kd.R k67 67 wc w.heap.size (fun k_ => some k_ ≠ ((.slice Ao23 t196.length co23) : Value).ownBlock ∧ some k_ ≠ ((.slice Ao30 t219.length co30) : Value).ownBlock ∧ some k_ ≠ ((.slice Ao37 t207.length co37) : Value).ownBlock) (.slice Ao117 t229.length co117) t229) ∧ Aside0 (wc.heap[gb189]? = some (.cells #[.string a0_0, (.slice A0_1 l0_1.length c0_1)] 24 (0, 0))) ∧ Aside0 (wc.heap[gb200]? = some (.cells #[.string t195, (.slice Ao23 t196.length co23)] 30 (0, 0))) ∧ Aside0 (wc.heap[gb205]? = some (.cells #[.string t201, (.slice Ao30 t219.length co30)] 30 (0, 0))) ∧ Aside0 (wc.heap[gb211]? = some (.cells #[.string t206, (.slice Ao37 t207.length co37)] 30 (0, 0))) ∧ Aside0 (wc.heap[gb233]? = some (.cells #[.string t228, (.slice Ao117 t229.length co117)] 30 (0, 0))) ∧ Aside0 (Below w.heap.size w wc))
                      case first =>
                        have H := HC97.out
                        clear HC97
                        replace H := Option.bind_eq_some_iff.mp H
                        obtain ⟨t234, A1180, H⟩ := H
                        replace H : (if t234 = true then (laws_FnExactEvict.j2 kj60 t221 (t232 != t199) t206 t222) else (laws_FnExactEvict.j2 kj60 t221 true t206 t222)) = some r := H
                        have A118 := Aside0.mk A1180
                        clear A1180
                        by_cases c119 : t234 = true
                        · subst c119
                          have H1 : (laws_FnExactEvict.j2 kj60 t221 (t232 != t199) t206 t222) = some r := by rw [if_pos rfl] at H; exact H
                          clear H
                          have H := H1
                          clear H1
                          have H' := Aside0.mk H
                          clear H
                          have hnb120 := NB233_189.out
                          have hnc120 := NB189_233.out
                          have hnb121 := NB233_200.out
                          have hnc121 := NB200_233.out
                          have hnb122 := NB233_205.out
                          have hnc122 := NB205_233.out
                          have hnb123 := NB233_211.out
                          have hnc123 := NB211_233.out
                          have hcz124_0 : w111.cell? ⟨gb233, 0, none⟩ = some (.string (⟨#[]⟩ : ByteArray)) := (blk_cell BK233.out 0).trans rfl
                          have hcz124_1 : w111.cell? ⟨gb233, 1, none⟩ = some (.slice none 0 0) := (blk_cell BK233.out 1).trans rfl
                          have hfz124_0 := blk_frozen BK233.out 0
                          have hfz124_1 := blk_frozen BK233.out 1
                          have hnb125 := NB200_189.out
                          have hnc125 := NB189_200.out
                          have hnb126 := NB200_205.out
                          have hnc126 := NB205_200.out
                          have hnb127 := NB200_211.out
                          have hnc127 := NB211_200.out
                          have hcz128_0 : w111.cell? ⟨gb200, 0, none⟩ = some (.string t195) := (blk_cell BK200.out 0).trans rfl
                          have hcz128_1 : w111.cell? ⟨gb200, 1, none⟩ = some (.slice Ao23 t196.length co23) := (blk_cell BK200.out 1).trans rfl
                          have hfz128_0 := blk_frozen BK200.out 0
                          have hfz128_1 := blk_frozen BK200.out 1
                          go_wp2_with (first | ((with_reducible refine gate_callee (f := 21) rfl ?_); refine goesL_ (some 86) rfl rfl Try.func21 (by kernel_rfl) rfl #[.agg #[.string t228, .slice Ao117 t229.length co117], .agg #[.string t195, .slice Ao23 t196.length co23]] rfl (by (try simp only [List.map_toArray, List.map_cons, List.map_nil]); first | done | rfl | (simp only [List.length_drop, List.length_take]; rfl)) ?_; (with_reducible refine (laws_eqDevice.calls kj60 t228 _ _ t229 t195 _ _ t196 true _ ?side1 ?side2 ?side3 ?side4 A118.out).mono ?_); (case side1 => refine (Kd.R_reads' (e := 67) (base := w.heap.size) (ok := fun k_ => ((((True ∧ some k_ ≠ (.slice Ao23 t196.length co23 : Value).ownBlock) ∧ some k_ ≠ (.slice Ao30 t219.length co30 : Value).ownBlock) ∧ some k_ ≠ (.slice Ao37 t207.length co37 : Value).ownBlock) ∧ some k_ ≠ (.slice Ao109 t225.length co109 : Value).ownBlock)) (n := t229.length) (c := co117) ?_).2.2; exact (by (with_reducible repeat (first | apply Kd.R_alloc | apply Kd.R_drewN | apply Kd.R_drew)); exact (Kd.R_mono (Kd.R_far (p := ⟨gb233, 1, none⟩) (Kd.R_far (p := ⟨gb233, 0, none⟩) (Kd.R_types HO231.out BK233.out (by decide)) (fun _ hk => hk.2) (.string t228)) (fun _ hk => hk.2) (.slice Ao117 t229.length co117)) (fun _ h_ => h_.1)))); (case side2 => exact (Kd.R_reads' HO231.out).2.1); (case side3 => refine (Kd.R_reads' (e := 67) (base := w.heap.size) (ok := fun k_ => (((some k_ ≠ (.slice Ao30 t219.length co30 : Value).ownBlock ∧ some k_ ≠ (.slice Ao37 t207.length co37 : Value).ownBlock) ∧ some k_ ≠ (.slice Ao109 t225.length co109 : Value).ownBlock) ∧ some k_ ≠ (.slice Ao117 t229.length co117 : Value).ownBlock)) (n := t196.length) (c := co23) ?_).2.2; exact (by (with_reducible repeat (first | apply Kd.R_alloc | apply Kd.R_drewN | apply Kd.R_drew)); exact (Kd.R_mono (Kd.R_far (p := ⟨gb233, 1, none⟩) (Kd.R_far (p := ⟨gb233, 0, none⟩) (Kd.R_types HO_201001.out BK233.out (by decide)) (fun _ hk => hk.2) (.string t228)) (fun _ hk => hk.2) (.slice Ao117 t229.length co117)) (fun _ h_ => h_.1)))); (case side4 => exact (Kd.R_reads' HO_201001.out).2.1); rintro e w129 ⟨rfl, hb⟩; refine ⟨_, rfl, ?_⟩; have n0_ := Aside0.mk (Kd.R_below (by (with_reducible repeat (first | apply Kd.R_alloc | apply Kd.R_drewN | apply Kd.R_drew)); exact (Kd.R_mono (Kd.R_far (p := ⟨gb233, 1, none⟩) (Kd.R_far (p := ⟨gb233, 0, none⟩) (Kd.R_types HO_201001.out BK233.out (by decide)) (fun _ hk => hk.2) (.string t228)) (fun _ hk => hk.2) (.slice Ao117 t229.length co117)) (fun _ h_ => h_.1))) hb); have n1_ := Aside0.mk (Kd.R_below (by (with_reducible repeat (first | apply Kd.R_alloc | apply Kd.R_drewN | apply Kd.R_drew)); exact (Kd.R_mono (Kd.R_far (p := ⟨gb233, 1, none⟩) (Kd.R_far (p := ⟨gb233, 0, none⟩) (Kd.R_types HO_206001.out BK233.out (by decide)) (fun _ hk => hk.2) (.string t228)) (fun _ hk => hk.2) (.slice Ao117 t229.length co117)) (fun _ h_ => h_.1))) hb); have n2_ := Aside0.mk (Kd.R_below (by (with_reducible repeat (first | apply Kd.R_alloc | apply Kd.R_drewN | apply Kd.R_drew)); exact (Kd.R_mono (Kd.R_far (p := ⟨gb233, 1, none⟩) (Kd.R_far (p := ⟨gb233, 0, none⟩) (Kd.R_types HO_212001.out BK233.out (by decide)) (fun _ hk => hk.2) (.string t228)) (fun _ hk => hk.2) (.slice Ao117 t229.length co117)) (fun _ h_ => h_.1))) hb); have n3_ := Aside0.mk (Kd.R_below (by (with_reducible repeat (first | apply Kd.R_alloc | apply Kd.R_drewN | apply Kd.R_drew)); exact (Kd.R_mono (Kd.R_far (p := ⟨gb233, 1, none⟩) (Kd.R_far (p := ⟨gb233, 0, none⟩) (Kd.R_types HO227.out BK233.out (by decide)) (fun _ hk => hk.2) (.string t228)) (fun _ hk => hk.2) (.slice Ao117 t229.length co117)) (fun _ h_ => h_.1))) hb); have n4_ := Aside0.mk (Kd.R_below (by (with_reducible repeat (first | apply Kd.R_alloc | apply Kd.R_drewN | apply Kd.R_drew)); exact (Kd.R_mono (Kd.R_far (p := ⟨gb233, 1, none⟩) (Kd.R_far (p := ⟨gb233, 0, none⟩) (Kd.R_types HO231.out BK233.out (by decide)) (fun _ hk => hk.2) (.string t228)) (fun _ hk => hk.2) (.slice Ao117 t229.length co117)) (fun _ h_ => h_.1))) hb); have n5_ := Aside0.mk (blk_below (g := gb189) (o := .cells #[.string a0_0, .slice A0_1 l0_1.length c0_1] 24 (0, 0)) (by (with_reducible repeat (first | refine blk_drewN ?_ _ | refine blk_drew ?_ | refine blk_alloc ?_ _)); refine blk_far ?_ NB189_233.out _; (with_reducible repeat (first | refine blk_drewN ?_ _ | refine blk_drew ?_ | refine blk_alloc ?_ _)); refine blk_far ?_ NB189_233.out _; (with_reducible repeat (first | refine blk_drewN ?_ _ | refine blk_drew ?_ | refine blk_alloc ?_ _)); exact BK189.out) hb); have n6_ := Aside0.mk (blk_below (g := gb200) (o := .cells #[.string t195, .slice Ao23 t196.length co23] 30 (0, 0)) (by (with_reducible repeat (first | refine blk_drewN ?_ _ | refine blk_drew ?_ | refine blk_alloc ?_ _)); refine blk_far ?_ NB200_233.out _; (with_reducible repeat (first | refine blk_drewN ?_ _ | refine blk_drew ?_ | refine blk_alloc ?_ _)); refine blk_far ?_ NB200_233.out _; (with_reducible repeat (first | refine blk_drewN ?_ _ | refine blk_drew ?_ | refine blk_alloc ?_ _)); exact BK200.out) hb); have n7_ := Aside0.mk (blk_below (g := gb205) (o := .cells #[.string t201, .slice Ao30 t219.length co30] 30 (0, 0)) (by (with_reducible repeat (first | refine blk_drewN ?_ _ | refine blk_drew ?_ | refine blk_alloc ?_ _)); refine blk_far ?_ NB205_233.out _; (with_reducible repeat (first | refine blk_drewN ?_ _ | refine blk_drew ?_ | refine blk_alloc ?_ _)); refine blk_far ?_ NB205_233.out _; (with_reducible repeat (first | refine blk_drewN ?_ _ | refine blk_drew ?_ | refine blk_alloc ?_ _)); exact BK205.out) hb); have n8_ := Aside0.mk (blk_below (g := gb211) (o := .cells #[.string t206, .slice Ao37 t207.length co37] 30 (0, 0)) (by (with_reducible repeat (first | refine blk_drewN ?_ _ | refine blk_drew ?_ | refine blk_alloc ?_ _)); refine blk_far ?_ NB211_233.out _; (with_reducible repeat (first | refine blk_drewN ?_ _ | refine blk_drew ?_ | refine blk_alloc ?_ _)); refine blk_far ?_ NB211_233.out _; (with_reducible repeat (first | refine blk_drewN ?_ _ | refine blk_drew ?_ | refine blk_alloc ?_ _)); exact BK211.out) hb); have n9_ := Aside0.mk (blk_below (g := gb233) (o := .cells #[.string t228, .slice Ao117 t229.length co117] 30 (0, 0)) (by (with_reducible repeat (first | refine blk_drewN ?_ _ | refine blk_drew ?_ | refine blk_alloc ?_ _)); refine blk_put (cs := #[.string t228, .slice none 0 0]) ?_ 1 _ rfl; (with_reducible repeat (first | refine blk_drewN ?_ _ | refine blk_drew ?_ | refine blk_alloc ?_ _)); refine blk_put (cs := #[.string (⟨#[]⟩ : ByteArray), .slice none 0 0]) ?_ 0 _ rfl; (with_reducible repeat (first | refine blk_drewN ?_ _ | refine blk_drew ?_ | refine blk_alloc ?_ _)); exact BK233.out) hb); have n10_ := Aside0.mk (below_step (by repeat (first | (with_reducible first | exact HB.out | apply below_alloc | apply pw_below_drewN | apply below_drew1 | refine below_set ?_ GE189.out | refine below_set ?_ GE200.out | refine below_set ?_ GE205.out | refine below_set ?_ GE211.out | refine below_set ?_ GE233.out) | exact HB.out)) hb); clear HO_201001; clear HO_206001; clear HO_212001; clear HO227; clear HO231; clear BK189; clear BK200; clear BK205; clear BK211; clear BK233; clear HB; have HO_201001 := n0_; have HO_206001 := n1_; have HO_212001 := n2_; have HO227 := n3_; have HO231 := n4_; have BK189 := n5_; have BK200 := n6_; have BK205 := n7_; have BK211 := n8_; have BK233 := n9_; have HB := n10_; clear n0_ n1_ n2_ n3_ n4_ n5_ n6_ n7_ n8_ n9_ n10_; (try clear hb); (try clear hb2); (try clear hk); (try clear hi)))
                          go_meet
                          case rel => exact ⟨_, ((t232 != t199)), (by first | rfl | (simp; done) | (simp [*]; done)), H', ⟨by have := HJ11.out; have := HJ60.out; first | omega | exact Nat.le_refl _⟩, ⟨by (try simp only [hl206001_60]); (with_reducible repeat (first | apply Kd.R_alloc | apply Kd.R_drewN | apply Kd.R_drew)); exact Kd.R_mono HO_201001.out (fun _ hk => ⟨hk.1.1.1, ⟨hk.1.1.2, hk.2⟩⟩)⟩, ⟨by (try simp only [hl206001_60]); (with_reducible repeat (first | apply Kd.R_alloc | apply Kd.R_drewN | apply Kd.R_drew)); exact Kd.R_mono HO_206001.out (fun _ hk => ⟨hk.1.1.1, ⟨hk.1.1.2, hk.2⟩⟩)⟩, ⟨by (try simp only [hl206001_60]); (with_reducible repeat (first | apply Kd.R_alloc | apply Kd.R_drewN | apply Kd.R_drew)); exact Kd.R_mono HO_212001.out (fun _ hk => ⟨hk.1.1.1, ⟨hk.1.1.2, hk.2⟩⟩)⟩, ⟨by (try simp only [hl206001_60]); (with_reducible repeat (first | apply Kd.R_alloc | apply Kd.R_drewN | apply Kd.R_drew)); exact Kd.R_mono HO231.out (fun _ hk => ⟨hk.1.1.1.2, ⟨hk.1.1.2, hk.1.2⟩⟩)⟩, ⟨by (try simp only [hl206001_60]); (with_reducible repeat (first | refine blk_drewN ?_ _ | refine blk_drew ?_ | refine blk_alloc ?_ _)); exact BK189.out⟩, ⟨by (try simp only [hl206001_60]); (with_reducible repeat (first | refine blk_drewN ?_ _ | refine blk_drew ?_ | refine blk_alloc ?_ _)); exact BK200.out⟩, ⟨by (try simp only [hl206001_60]); (with_reducible repeat (first | refine blk_drewN ?_ _ | refine blk_drew ?_ | refine blk_alloc ?_ _)); exact BK205.out⟩, ⟨by (try simp only [hl206001_60]); (with_reducible repeat (first | refine blk_drewN ?_ _ | refine blk_drew ?_ | refine blk_alloc ?_ _)); exact BK211.out⟩, ⟨by (try simp only [hl206001_60]); (with_reducible repeat (first | refine blk_drewN ?_ _ | refine blk_drew ?_ | refine blk_alloc ?_ _)); exact BK233.out⟩, ⟨by repeat (first | (with_reducible first | exact HB.out | apply below_alloc | apply pw_below_drewN | apply below_drew1 | refine below_set ?_ GE189.out | refine below_set ?_ GE200.out | refine below_set ?_ GE205.out | refine below_set ?_ GE211.out | refine below_set ?_ GE233.out) | exact HB.out)⟩⟩
                        · replace c119 := Bool.eq_false_iff.mpr c119
                          subst c119
                          have H1 : (laws_FnExactEvict.j2 kj60 t221 true t206 t222) = some r := by rw [if_neg (show ¬ (false = true) by decide)] at H; exact H
                          clear H
                          have H := H1
                          clear H1
                          have H' := Aside0.mk H
                          clear H
                          have hnb130 := NB233_189.out
                          have hnc130 := NB189_233.out
                          have hnb131 := NB233_200.out
                          have hnc131 := NB200_233.out
                          have hnb132 := NB233_205.out
                          have hnc132 := NB205_233.out
                          have hnb133 := NB233_211.out
                          have hnc133 := NB211_233.out
                          have hcz134_0 : w111.cell? ⟨gb233, 0, none⟩ = some (.string (⟨#[]⟩ : ByteArray)) := (blk_cell BK233.out 0).trans rfl
                          have hcz134_1 : w111.cell? ⟨gb233, 1, none⟩ = some (.slice none 0 0) := (blk_cell BK233.out 1).trans rfl
                          have hfz134_0 := blk_frozen BK233.out 0
                          have hfz134_1 := blk_frozen BK233.out 1
                          have hnb135 := NB200_189.out
                          have hnc135 := NB189_200.out
                          have hnb136 := NB200_205.out
                          have hnc136 := NB205_200.out
                          have hnb137 := NB200_211.out
                          have hnc137 := NB211_200.out
                          have hcz138_0 : w111.cell? ⟨gb200, 0, none⟩ = some (.string t195) := (blk_cell BK200.out 0).trans rfl
                          have hcz138_1 : w111.cell? ⟨gb200, 1, none⟩ = some (.slice Ao23 t196.length co23) := (blk_cell BK200.out 1).trans rfl
                          have hfz138_0 := blk_frozen BK200.out 0
                          have hfz138_1 := blk_frozen BK200.out 1
                          go_wp2_with (first | ((with_reducible refine gate_callee (f := 21) rfl ?_); refine goesL_ (some 86) rfl rfl Try.func21 (by kernel_rfl) rfl #[.agg #[.string t228, .slice Ao117 t229.length co117], .agg #[.string t195, .slice Ao23 t196.length co23]] rfl (by (try simp only [List.map_toArray, List.map_cons, List.map_nil]); first | done | rfl | (simp only [List.length_drop, List.length_take]; rfl)) ?_; (with_reducible refine (laws_eqDevice.calls kj60 t228 _ _ t229 t195 _ _ t196 false _ ?side1 ?side2 ?side3 ?side4 A118.out).mono ?_); (case side1 => refine (Kd.R_reads' (e := 67) (base := w.heap.size) (ok := fun k_ => ((((True ∧ some k_ ≠ (.slice Ao23 t196.length co23 : Value).ownBlock) ∧ some k_ ≠ (.slice Ao30 t219.length co30 : Value).ownBlock) ∧ some k_ ≠ (.slice Ao37 t207.length co37 : Value).ownBlock) ∧ some k_ ≠ (.slice Ao109 t225.length co109 : Value).ownBlock)) (n := t229.length) (c := co117) ?_).2.2; exact (by (with_reducible repeat (first | apply Kd.R_alloc | apply Kd.R_drewN | apply Kd.R_drew)); exact (Kd.R_mono (Kd.R_far (p := ⟨gb233, 1, none⟩) (Kd.R_far (p := ⟨gb233, 0, none⟩) (Kd.R_types HO231.out BK233.out (by decide)) (fun _ hk => hk.2) (.string t228)) (fun _ hk => hk.2) (.slice Ao117 t229.length co117)) (fun _ h_ => h_.1)))); (case side2 => exact (Kd.R_reads' HO231.out).2.1); (case side3 => refine (Kd.R_reads' (e := 67) (base := w.heap.size) (ok := fun k_ => (((some k_ ≠ (.slice Ao30 t219.length co30 : Value).ownBlock ∧ some k_ ≠ (.slice Ao37 t207.length co37 : Value).ownBlock) ∧ some k_ ≠ (.slice Ao109 t225.length co109 : Value).ownBlock) ∧ some k_ ≠ (.slice Ao117 t229.length co117 : Value).ownBlock)) (n := t196.length) (c := co23) ?_).2.2; exact (by (with_reducible repeat (first | apply Kd.R_alloc | apply Kd.R_drewN | apply Kd.R_drew)); exact (Kd.R_mono (Kd.R_far (p := ⟨gb233, 1, none⟩) (Kd.R_far (p := ⟨gb233, 0, none⟩) (Kd.R_types HO_201001.out BK233.out (by decide)) (fun _ hk => hk.2) (.string t228)) (fun _ hk => hk.2) (.slice Ao117 t229.length co117)) (fun _ h_ => h_.1)))); (case side4 => exact (Kd.R_reads' HO_201001.out).2.1); rintro e w139 ⟨rfl, hb⟩; refine ⟨_, rfl, ?_⟩; have n0_ := Aside0.mk (Kd.R_below (by (with_reducible repeat (first | apply Kd.R_alloc | apply Kd.R_drewN | apply Kd.R_drew)); exact (Kd.R_mono (Kd.R_far (p := ⟨gb233, 1, none⟩) (Kd.R_far (p := ⟨gb233, 0, none⟩) (Kd.R_types HO_201001.out BK233.out (by decide)) (fun _ hk => hk.2) (.string t228)) (fun _ hk => hk.2) (.slice Ao117 t229.length co117)) (fun _ h_ => h_.1))) hb); have n1_ := Aside0.mk (Kd.R_below (by (with_reducible repeat (first | apply Kd.R_alloc | apply Kd.R_drewN | apply Kd.R_drew)); exact (Kd.R_mono (Kd.R_far (p := ⟨gb233, 1, none⟩) (Kd.R_far (p := ⟨gb233, 0, none⟩) (Kd.R_types HO_206001.out BK233.out (by decide)) (fun _ hk => hk.2) (.string t228)) (fun _ hk => hk.2) (.slice Ao117 t229.length co117)) (fun _ h_ => h_.1))) hb); have n2_ := Aside0.mk (Kd.R_below (by (with_reducible repeat (first | apply Kd.R_alloc | apply Kd.R_drewN | apply Kd.R_drew)); exact (Kd.R_mono (Kd.R_far (p := ⟨gb233, 1, none⟩) (Kd.R_far (p := ⟨gb233, 0, none⟩) (Kd.R_types HO_212001.out BK233.out (by decide)) (fun _ hk => hk.2) (.string t228)) (fun _ hk => hk.2) (.slice Ao117 t229.length co117)) (fun _ h_ => h_.1))) hb); have n3_ := Aside0.mk (Kd.R_below (by (with_reducible repeat (first | apply Kd.R_alloc | apply Kd.R_drewN | apply Kd.R_drew)); exact (Kd.R_mono (Kd.R_far (p := ⟨gb233, 1, none⟩) (Kd.R_far (p := ⟨gb233, 0, none⟩) (Kd.R_types HO227.out BK233.out (by decide)) (fun _ hk => hk.2) (.string t228)) (fun _ hk => hk.2) (.slice Ao117 t229.length co117)) (fun _ h_ => h_.1))) hb); have n4_ := Aside0.mk (Kd.R_below (by (with_reducible repeat (first | apply Kd.R_alloc | apply Kd.R_drewN | apply Kd.R_drew)); exact (Kd.R_mono (Kd.R_far (p := ⟨gb233, 1, none⟩) (Kd.R_far (p := ⟨gb233, 0, none⟩) (Kd.R_types HO231.out BK233.out (by decide)) (fun _ hk => hk.2) (.string t228)) (fun _ hk => hk.2) (.slice Ao117 t229.length co117)) (fun _ h_ => h_.1))) hb); have n5_ := Aside0.mk (blk_below (g := gb189) (o := .cells #[.string a0_0, .slice A0_1 l0_1.length c0_1] 24 (0, 0)) (by (with_reducible repeat (first | refine blk_drewN ?_ _ | refine blk_drew ?_ | refine blk_alloc ?_ _)); refine blk_far ?_ NB189_233.out _; (with_reducible repeat (first | refine blk_drewN ?_ _ | refine blk_drew ?_ | refine blk_alloc ?_ _)); refine blk_far ?_ NB189_233.out _; (with_reducible repeat (first | refine blk_drewN ?_ _ | refine blk_drew ?_ | refine blk_alloc ?_ _)); exact BK189.out) hb); have n6_ := Aside0.mk (blk_below (g := gb200) (o := .cells #[.string t195, .slice Ao23 t196.length co23] 30 (0, 0)) (by (with_reducible repeat (first | refine blk_drewN ?_ _ | refine blk_drew ?_ | refine blk_alloc ?_ _)); refine blk_far ?_ NB200_233.out _; (with_reducible repeat (first | refine blk_drewN ?_ _ | refine blk_drew ?_ | refine blk_alloc ?_ _)); refine blk_far ?_ NB200_233.out _; (with_reducible repeat (first | refine blk_drewN ?_ _ | refine blk_drew ?_ | refine blk_alloc ?_ _)); exact BK200.out) hb); have n7_ := Aside0.mk (blk_below (g := gb205) (o := .cells #[.string t201, .slice Ao30 t219.length co30] 30 (0, 0)) (by (with_reducible repeat (first | refine blk_drewN ?_ _ | refine blk_drew ?_ | refine blk_alloc ?_ _)); refine blk_far ?_ NB205_233.out _; (with_reducible repeat (first | refine blk_drewN ?_ _ | refine blk_drew ?_ | refine blk_alloc ?_ _)); refine blk_far ?_ NB205_233.out _; (with_reducible repeat (first | refine blk_drewN ?_ _ | refine blk_drew ?_ | refine blk_alloc ?_ _)); exact BK205.out) hb); have n8_ := Aside0.mk (blk_below (g := gb211) (o := .cells #[.string t206, .slice Ao37 t207.length co37] 30 (0, 0)) (by (with_reducible repeat (first | refine blk_drewN ?_ _ | refine blk_drew ?_ | refine blk_alloc ?_ _)); refine blk_far ?_ NB211_233.out _; (with_reducible repeat (first | refine blk_drewN ?_ _ | refine blk_drew ?_ | refine blk_alloc ?_ _)); refine blk_far ?_ NB211_233.out _; (with_reducible repeat (first | refine blk_drewN ?_ _ | refine blk_drew ?_ | refine blk_alloc ?_ _)); exact BK211.out) hb); have n9_ := Aside0.mk (blk_below (g := gb233) (o := .cells #[.string t228, .slice Ao117 t229.length co117] 30 (0, 0)) (by (with_reducible repeat (first | refine blk_drewN ?_ _ | refine blk_drew ?_ | refine blk_alloc ?_ _)); refine blk_put (cs := #[.string t228, .slice none 0 0]) ?_ 1 _ rfl; (with_reducible repeat (first | refine blk_drewN ?_ _ | refine blk_drew ?_ | refine blk_alloc ?_ _)); refine blk_put (cs := #[.string (⟨#[]⟩ : ByteArray), .slice none 0 0]) ?_ 0 _ rfl; (with_reducible repeat (first | refine blk_drewN ?_ _ | refine blk_drew ?_ | refine blk_alloc ?_ _)); exact BK233.out) hb); have n10_ := Aside0.mk (below_step (by repeat (first | (with_reducible first | exact HB.out | apply below_alloc | apply pw_below_drewN | apply below_drew1 | refine below_set ?_ GE189.out | refine below_set ?_ GE200.out | refine below_set ?_ GE205.out | refine below_set ?_ GE211.out | refine below_set ?_ GE233.out) | exact HB.out)) hb); clear HO_201001; clear HO_206001; clear HO_212001; clear HO227; clear HO231; clear BK189; clear BK200; clear BK205; clear BK211; clear BK233; clear HB; have HO_201001 := n0_; have HO_206001 := n1_; have HO_212001 := n2_; have HO227 := n3_; have HO231 := n4_; have BK189 := n5_; have BK200 := n6_; have BK205 := n7_; have BK211 := n8_; have BK233 := n9_; have HB := n10_; clear n0_ n1_ n2_ n3_ n4_ n5_ n6_ n7_ n8_ n9_ n10_; (try clear hb); (try clear hb2); (try clear hk); (try clear hi)))
                          go_meet
                          case rel => exact ⟨_, (true), (by first | rfl | (simp; done) | (simp [*]; done)), H', ⟨by have := HJ11.out; have := HJ60.out; first | omega | exact Nat.le_refl _⟩, ⟨by (try simp only [hl206001_60]); (with_reducible repeat (first | apply Kd.R_alloc | apply Kd.R_drewN | apply Kd.R_drew)); exact Kd.R_mono HO_201001.out (fun _ hk => ⟨hk.1.1.1, ⟨hk.1.1.2, hk.2⟩⟩)⟩, ⟨by (try simp only [hl206001_60]); (with_reducible repeat (first | apply Kd.R_alloc | apply Kd.R_drewN | apply Kd.R_drew)); exact Kd.R_mono HO_206001.out (fun _ hk => ⟨hk.1.1.1, ⟨hk.1.1.2, hk.2⟩⟩)⟩, ⟨by (try simp only [hl206001_60]); (with_reducible repeat (first | apply Kd.R_alloc | apply Kd.R_drewN | apply Kd.R_drew)); exact Kd.R_mono HO_212001.out (fun _ hk => ⟨hk.1.1.1, ⟨hk.1.1.2, hk.2⟩⟩)⟩, ⟨by (try simp only [hl206001_60]); (with_reducible repeat (first | apply Kd.R_alloc | apply Kd.R_drewN | apply Kd.R_drew)); exact Kd.R_mono HO231.out (fun _ hk => ⟨hk.1.1.1.2, ⟨hk.1.1.2, hk.1.2⟩⟩)⟩, ⟨by (try simp only [hl206001_60]); (with_reducible repeat (first | refine blk_drewN ?_ _ | refine blk_drew ?_ | refine blk_alloc ?_ _)); exact BK189.out⟩, ⟨by (try simp only [hl206001_60]); (with_reducible repeat (first | refine blk_drewN ?_ _ | refine blk_drew ?_ | refine blk_alloc ?_ _)); exact BK200.out⟩, ⟨by (try simp only [hl206001_60]); (with_reducible repeat (first | refine blk_drewN ?_ _ | refine blk_drew ?_ | refine blk_alloc ?_ _)); exact BK205.out⟩, ⟨by (try simp only [hl206001_60]); (with_reducible repeat (first | refine blk_drewN ?_ _ | refine blk_drew ?_ | refine blk_alloc ?_ _)); exact BK211.out⟩, ⟨by (try simp only [hl206001_60]); (with_reducible repeat (first | refine blk_drewN ?_ _ | refine blk_drew ?_ | refine blk_alloc ?_ _)); exact BK233.out⟩, ⟨by repeat (first | (with_reducible first | exact HB.out | apply below_alloc | apply pw_below_drewN | apply below_drew1 | refine below_set ?_ GE189.out | refine below_set ?_ GE200.out | refine below_set ?_ GE205.out | refine below_set ?_ GE211.out | refine below_set ?_ GE233.out) | exact HB.out)⟩⟩
                      case rest =>
                        clear HC97
                        try clear c1
                        try clear c2
                        try clear p2
                        try clear c3
                        try clear c4
                        try clear c4b0
                        try clear c5
                        try clear c6
                        try clear c7
                        try clear c8
                        try clear c9
                        try clear c10
                        try clear c11
                        try clear c12
                        try clear c13
                        try clear c16
                        try clear c18
                        try clear c21
                        try clear c22
                        try clear c27
                        try clear c28
                        try clear c33
                        try clear c34
                        try clear c35
                        try clear c37
                        try clear c38
                        try clear c39
                        try clear c40
                        try clear c41
                        try clear c42
                        try clear c44
                        try clear c45
                        try clear c48
                        try clear c49
                        try clear c50
                        try clear c52
                        try clear c53
                        try clear c56
                        try clear c59
                        try clear c66
                        try clear c67
                        try clear c68
                        try clear c71
                        try clear c71b0
                        try clear c73
                        try clear c74
                        try clear c75
                        try clear c76
                        try clear c78
                        try clear c79
                        try clear c82
                        try clear c83
                        try clear c84
                        try clear c86
                        try clear c87
                        try clear c90
                        try clear c93
                        try clear c93b0
                        try clear c94
                        try clear c94b0
                        try clear c94b1
                        try clear c98
                        try clear c99
                        try clear c100
                        try clear c105
                        try clear c106
                        try clear c112
                        try clear c113
                        try clear c114
                        try clear c115
                        try clear c119
                        try clear c120
                        try clear c121
                        try clear c122
                        try clear c123
                        try clear c125
                        try clear c126
                        try clear c127
                        try clear c130
                        try clear c131
                        try clear c132
                        try clear c133
                        try clear c135
                        try clear c136
                        try clear c137
                        try clear hcz101_0
                        try clear hcz101_1
                        try clear hcz103_0
                        try clear hcz103_1
                        try clear hcz107_0
                        try clear hcz107_1
                        try clear hcz116_0
                        try clear hcz116_1
                        try clear hcz124_0
                        try clear hcz124_1
                        try clear hcz128_0
                        try clear hcz128_1
                        try clear hcz134_0
                        try clear hcz134_1
                        try clear hcz138_0
                        try clear hcz138_1
                        try clear hcz14_0
                        try clear hcz14_1
                        try clear hcz16_0
                        try clear hcz16_1
                        try clear hcz22_0
                        try clear hcz22_1
                        try clear hcz24_0
                        try clear hcz24_1
                        try clear hcz29_0
                        try clear hcz29_1
                        try clear hcz36_0
                        try clear hcz36_1
                        try clear hcz43_0
                        try clear hcz43_1
                        try clear hcz46_0
                        try clear hcz46_1
                        try clear hcz51_0
                        try clear hcz51_1
                        try clear hcz54_0
                        try clear hcz54_1
                        try clear hcz69_0
                        try clear hcz69_1
                        try clear hcz6_0
                        try clear hcz6_1
                        try clear hcz77_0
                        try clear hcz77_1
                        try clear hcz80_0
                        try clear hcz80_1
                        try clear hcz85_0
                        try clear hcz85_1
                        try clear hcz88_0
                        try clear hcz88_1
                        try clear hfz101_0
                        try clear hfz101_1
                        try clear hfz103_0
                        try clear hfz103_1
                        try clear hfz107_0
                        try clear hfz107_1
                        try clear hfz116_0
                        try clear hfz116_1
                        try clear hfz124_0
                        try clear hfz124_1
                        try clear hfz128_0
                        try clear hfz128_1
                        try clear hfz134_0
                        try clear hfz134_1
                        try clear hfz138_0
                        try clear hfz138_1
                        try clear hfz14_0
                        try clear hfz14_1
                        try clear hfz16_0
                        try clear hfz16_1
                        try clear hfz22_0
                        try clear hfz22_1
                        try clear hfz24_0
                        try clear hfz24_1
                        try clear hfz29_0
                        try clear hfz29_1
                        try clear hfz36_0
                        try clear hfz36_1
                        try clear hfz43_0
                        try clear hfz43_1
                        try clear hfz46_0
                        try clear hfz46_1
                        try clear hfz51_0
                        try clear hfz51_1
                        try clear hfz54_0
                        try clear hfz54_1
                        try clear hfz69_0
                        try clear hfz69_1
                        try clear hfz6_0
                        try clear hfz6_1
                        try clear hfz77_0
                        try clear hfz77_1
                        try clear hfz80_0
                        try clear hfz80_1
                        try clear hfz85_0
                        try clear hfz85_1
                        try clear hfz88_0
                        try clear hfz88_1
                        try clear p2
                        obtain ⟨kq, x92_96, rfl, HA, HJ96, HO_201001, HO_206001, HO_212001, HO_234001, BK189, BK200, BK205, BK211, BK233, HB⟩ := hcut
                        have hl212001_96 := (Kd.R_reads' HO_212001.out).1
                        rw [hl212001_96] at HO_212001
                        (try simp only [hl212001_96])
                        (try simp only [hl212001_96] at BK189)
                        (try simp only [hl212001_96] at BK200)
                        (try simp only [hl212001_96] at BK205)
                        (try simp only [hl212001_96] at BK211)
                        (try simp only [hl212001_96] at BK233)
                        (try simp only [hl212001_96] at HO_201001)
                        (try simp only [hl212001_96] at HO_206001)
                        (try simp only [hl212001_96] at HO_234001)
                        cases kq with
                        | zero => exact absurd HA.out (by simp [laws_FnExactEvict.j2])
                        | succ kj96 =>
                          have H := HA.out
                          clear HA
                          simp only [laws_FnExactEvict.j2] at H
                          by_cases c140 : x92_96 = true
                          · subst c140
                            have H1 : (none) = some r := by rw [if_pos rfl] at H; exact H
                            clear H
                            have H := H1
                            clear H1
                            exact absurd H (by simp)
                          · replace c140 := Bool.eq_false_iff.mpr c140
                            subst c140
                            have H1 : ((laws_heldDevice.f kj96 t206 t222 1).bind fun t235 => (if t235 < 0 then (none) else (if t235 = t221 then (some true) else (none)))) = some r := by rw [if_neg (show ¬ (false = true) by decide)] at H; exact H
                            clear H
                            have H := H1
                            clear H1
                            replace H := Option.bind_eq_some_iff.mp H
                            obtain ⟨t235, A1410, H⟩ := H
                            replace H : (if t235 < 0 then (none) else (if t235 = t221 then (some true) else (none))) = some r := H
                            have A141 := Aside0.mk A1410
                            clear A1410
                            by_cases c142 : t235 < 0
                            · rw [if_pos c142] at H
                              exact absurd H (by simp)
                            · rw [if_neg c142] at H
                              have c142b0 : decide (t235 < 0) = false := decide_eq_false c142
                              (try simp only [hl206001_60, hl212001_96] at c142b0)
                              clear c142
                              by_cases c143 : t235 = t221
                              · rw [if_pos c143] at H
                                have c143b0 : (t235 == t221) = true := beq_iff_eq.mpr c143
                                (try simp only [hl206001_60, hl212001_96] at c143b0)
                                have c143b1 : (t235 != t221) = false := bne_eq_false_iff_eq.mpr c143
                                (try simp only [hl206001_60, hl212001_96] at c143b1)
                                clear c143
                                obtain rfl := Option.some.inj H
                                have hnb144 := NB211_189.out
                                have hnc144 := NB189_211.out
                                have hnb145 := NB211_200.out
                                have hnc145 := NB200_211.out
                                have hnb146 := NB211_205.out
                                have hnc146 := NB205_211.out
                                have hnb147 := NB211_233.out
                                have hnc147 := NB233_211.out
                                have hcz148_0 : wc.cell? ⟨gb211, 0, none⟩ = some (.string t206) := (blk_cell BK211.out 0).trans rfl
                                have hcz148_1 : wc.cell? ⟨gb211, 1, none⟩ = some (.slice Ao37 t222.length co37) := (blk_cell BK211.out 1).trans rfl
                                have hfz148_0 := blk_frozen BK211.out 0
                                have hfz148_1 := blk_frozen BK211.out 1
                                go_wp2_with (first | ((with_reducible refine gate_callee (f := 28) rfl ?_); refine goesL_ (some 95) rfl rfl Try.func28 (by kernel_rfl) rfl #[.agg #[.string t206, .slice Ao37 t222.length co37], .int .i64 1] rfl (by (try simp only [List.map_toArray, List.map_cons, List.map_nil]); first | done | rfl | (simp only [List.length_drop, List.length_take]; rfl)) ?_; (with_reducible refine (laws_heldDevice.calls kj96 t206 _ _ t222 1 t235 _ ?side1 ?side2 A141.out).mono ?_); (case side1 => repeat (first | exact (Kd.R_reads' HO_212001.out).2.2 | (with_reducible refine Kd.C_alloc ?_ _) | (with_reducible refine Kd.C_drewN ?_ _) | (with_reducible refine Kd.C_drew ?_))); (case side2 => exact (Kd.R_reads' HO_212001.out).2.1); rintro e w149 ⟨rfl, hb⟩; refine ⟨_, rfl, ?_⟩; have n0_ := Aside0.mk (Kd.R_below (by (with_reducible repeat (first | apply Kd.R_alloc | apply Kd.R_drewN | apply Kd.R_drew)); exact HO_201001.out) hb); have n1_ := Aside0.mk (Kd.R_below (by (with_reducible repeat (first | apply Kd.R_alloc | apply Kd.R_drewN | apply Kd.R_drew)); exact HO_206001.out) hb); have n2_ := Aside0.mk (Kd.R_below (by (with_reducible repeat (first | apply Kd.R_alloc | apply Kd.R_drewN | apply Kd.R_drew)); exact HO_212001.out) hb); have n3_ := Aside0.mk (Kd.R_below (by (with_reducible repeat (first | apply Kd.R_alloc | apply Kd.R_drewN | apply Kd.R_drew)); exact HO_234001.out) hb); have n4_ := Aside0.mk (blk_below (g := gb189) (o := .cells #[.string a0_0, .slice A0_1 l0_1.length c0_1] 24 (0, 0)) (by (with_reducible repeat (first | refine blk_drewN ?_ _ | refine blk_drew ?_ | refine blk_alloc ?_ _)); exact BK189.out) hb); have n5_ := Aside0.mk (blk_below (g := gb200) (o := .cells #[.string t195, .slice Ao23 t196.length co23] 30 (0, 0)) (by (with_reducible repeat (first | refine blk_drewN ?_ _ | refine blk_drew ?_ | refine blk_alloc ?_ _)); exact BK200.out) hb); have n6_ := Aside0.mk (blk_below (g := gb205) (o := .cells #[.string t201, .slice Ao30 t219.length co30] 30 (0, 0)) (by (with_reducible repeat (first | refine blk_drewN ?_ _ | refine blk_drew ?_ | refine blk_alloc ?_ _)); exact BK205.out) hb); have n7_ := Aside0.mk (blk_below (g := gb211) (o := .cells #[.string t206, .slice Ao37 t222.length co37] 30 (0, 0)) (by (with_reducible repeat (first | refine blk_drewN ?_ _ | refine blk_drew ?_ | refine blk_alloc ?_ _)); exact BK211.out) hb); have n8_ := Aside0.mk (blk_below (g := gb233) (o := .cells #[.string t228, .slice Ao117 t229.length co117] 30 (0, 0)) (by (with_reducible repeat (first | refine blk_drewN ?_ _ | refine blk_drew ?_ | refine blk_alloc ?_ _)); exact BK233.out) hb); have n9_ := Aside0.mk (below_step (by repeat (first | (with_reducible first | exact HB.out | apply below_alloc | apply pw_below_drewN | apply below_drew1 | refine below_set ?_ GE189.out | refine below_set ?_ GE200.out | refine below_set ?_ GE205.out | refine below_set ?_ GE211.out | refine below_set ?_ GE233.out) | exact HB.out)) hb); clear HO_201001; clear HO_206001; clear HO_212001; clear HO_234001; clear BK189; clear BK200; clear BK205; clear BK211; clear BK233; clear HB; have HO_201001 := n0_; have HO_206001 := n1_; have HO_212001 := n2_; have HO_234001 := n3_; have BK189 := n4_; have BK200 := n5_; have BK205 := n6_; have BK211 := n7_; have BK233 := n8_; have HB := n9_; clear n0_ n1_ n2_ n3_ n4_ n5_ n6_ n7_ n8_ n9_; (try clear hb); (try clear hb2); (try clear hk); (try clear hi)))
                                go_ret
                                exact ⟨by first | rfl | (simp [errW_none, errW_some] <;> rfl) | (simp [*, errW_none, errW_some] <;> rfl), by repeat (first | (with_reducible first | exact HB.out | apply below_alloc | apply pw_below_drewN | apply below_drew1 | refine below_set ?_ GE189.out | refine below_set ?_ GE200.out | refine below_set ?_ GE205.out | refine below_set ?_ GE211.out | refine below_set ?_ GE233.out) | exact HB.out)⟩
                              · rw [if_neg c143] at H
                                exact absurd H (by simp)
                    · rw [if_neg c94] at H
                      exact absurd H (by simp)
          · replace c59 := Bool.eq_false_iff.mpr c59
            subst c59
            have H1 : (none) = some r := by rw [if_neg (show ¬ (false = true) by decide)] at H; exact H
            clear H
            have H := H1
            clear H1
            exact absurd H (by simp)

end Go.Proofs.Ytbbbajnnoficbaa.PFnExactEvict
