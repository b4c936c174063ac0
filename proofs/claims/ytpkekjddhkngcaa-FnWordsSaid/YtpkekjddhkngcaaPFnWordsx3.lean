-- by a patched copy of the print (wip/tools/patch_print.py)
import Derived.Test.YtpkekjddhkngcaaPFnWordsx0
import Derived.Test.YtpkekjddhkngcaaPFnWordsx1
import Derived.Test.YtpkekjddhkngcaaPFnWordsx2
namespace Go.Proofs.Ytpkekjddhkngcaa.PFnWords
open Go.RowKit Go.Proofs.YtpkekjddhkngcaaW.PrintWords Go.Proofs.YtpkekjddhkngcaaW.PrintLast Go.Proofs.YtpkekjddhkngcaaW.PrintMore
attribute [local go_sem] max2_int min2_int max_two min_two max_three min_three max_four min_four   -- for this text's walks alone
set_option linter.unusedVariables false
set_option linter.unusedSimpArgs false

/-! ### spec_DrawReadShort: function 27 -/
def spec_DrawReadShort.f (k : Nat) (l0 : List Int) : Option (ByteArray) := (spec_l1Open.f l0).bind fun bt188 => ((spec_l1Rd_below.f bt188.1 bt188.2 65536).bind fun bt191 => ((spec_ShortBytes.f k bt191.1).bind fun t193 => ((spec_l1Rd_once.f bt188.1 bt191.2 4).bind fun bt194 => (if bt194.1 = true then ((spec_l1Rd_hurt.f bt188.1 bt194.2 t193).bind fun bt196 => (some bt196.1)) else (some t193)))))
theorem spec_DrawReadShort.mono : ∀ a0 k, LeO (spec_DrawReadShort.f k a0) (spec_DrawReadShort.f (k + 1) a0) := by
  intro a0 k
  unfold spec_DrawReadShort.f
  repeat' first
      | (with_reducible exact spec_ShortBytes.mono _ _)
      | (with_reducible exact LeO.refl _)
      | (with_reducible exact LeO.none _)
      | (with_reducible refine LeO.ite ?_ ?_)
      | (with_reducible refine LeO.bind ?_ (fun _ => ?_))
      | exact spec_ShortBytes.mono _ _
      | exact LeO.none _
      | refine LeO.ite ?_ ?_
      | refine LeO.bind ?_ (fun _ => ?_)
set_option maxHeartbeats 8000000 in
set_option maxRecDepth 100000 in
theorem spec_DrawReadShort.calls (k : Nat) (A0 : Option Addr) (c0 : Nat) (l0 : List Int) (r : ByteArray) (w : World) (hr0 : Kd.C (Kd.int .u8) w A0 l0.length l0) (hc0 : l0.length ≤ c0) (h : spec_DrawReadShort.f k l0 = some r) :
    Calls Try.prog 27 #[.slice A0 l0.length c0] w fun e w' => e = .returned (.string r) ∧ Below w.heap.size w w' := by
  have HR0 := Aside0.mk hr0
  have HC0 := Aside0.mk hc0
  clear hr0 hc0
  have HB := Aside0.mk (Below.refl w.heap.size w)
  have H : ((spec_l1Open.f l0).bind fun bt188 => ((spec_l1Rd_below.f bt188.1 bt188.2 65536).bind fun bt191 => ((spec_ShortBytes.f k bt191.1).bind fun t193 => ((spec_l1Rd_once.f bt188.1 bt191.2 4).bind fun bt194 => (if bt194.1 = true then ((spec_l1Rd_hurt.f bt188.1 bt194.2 t193).bind fun bt196 => (some bt196.1)) else (some t193)))))) = some r := h
  clear h
  replace H := Option.bind_eq_some_iff.mp H
  obtain ⟨⟨t188, t189⟩, A20, H⟩ := H
  replace H : ((spec_l1Rd_below.f t188 t189 65536).bind fun bt191 => ((spec_ShortBytes.f k bt191.1).bind fun t193 => ((spec_l1Rd_once.f t188 bt191.2 4).bind fun bt194 => (if bt194.1 = true then ((spec_l1Rd_hurt.f t188 bt194.2 t193).bind fun bt196 => (some bt196.1)) else (some t193))))) = some r := H
  have A2 := Aside0.mk A20
  clear A20
  replace H := Option.bind_eq_some_iff.mp H
  obtain ⟨⟨t191, t192⟩, A30, H⟩ := H
  replace H : ((spec_ShortBytes.f k t191).bind fun t193 => ((spec_l1Rd_once.f t188 t192 4).bind fun bt194 => (if bt194.1 = true then ((spec_l1Rd_hurt.f t188 bt194.2 t193).bind fun bt196 => (some bt196.1)) else (some t193)))) = some r := H
  have A3 := Aside0.mk A30
  clear A30
  replace H := Option.bind_eq_some_iff.mp H
  obtain ⟨t193, A40, H⟩ := H
  replace H : ((spec_l1Rd_once.f t188 t192 4).bind fun bt194 => (if bt194.1 = true then ((spec_l1Rd_hurt.f t188 bt194.2 t193).bind fun bt196 => (some bt196.1)) else (some t193))) = some r := H
  have A4 := Aside0.mk A40
  clear A40
  replace H := Option.bind_eq_some_iff.mp H
  obtain ⟨⟨t194, t195⟩, A50, H⟩ := H
  replace H : (if t194 = true then ((spec_l1Rd_hurt.f t188 t195 t193).bind fun bt196 => (some bt196.1)) else (some t193)) = some r := H
  have A5 := Aside0.mk A50
  clear A50
  by_cases c6 : t194 = true
  · subst c6
    have H1 : ((spec_l1Rd_hurt.f t188 t195 t193).bind fun bt196 => (some bt196.1)) = some r := by rw [if_pos rfl] at H; exact H
    clear H
    have H := H1
    clear H1
    replace H := Option.bind_eq_some_iff.mp H
    obtain ⟨⟨t196, t197⟩, A70, H⟩ := H
    replace H : (some t196) = some r := H
    have A7 := Aside0.mk A70
    clear A70
    obtain rfl := Option.some.inj H
    go_enter Try.func27, Try.ntmps27
    go_wp2_with (first | ((with_reducible refine gate_callee (f := 36) rfl ?_); refine goesL_ (some 6) rfl rfl Try.func36 (by kernel_rfl) rfl #[.slice A0 l0.length c0] rfl (by (try simp only [List.map_toArray, List.map_cons, List.map_nil]); first | done | rfl | (simp only [List.length_drop, List.length_take]; rfl)) ?_; (with_reducible refine (spec_l1Open.calls _ _ l0 t188 t189 w _ ?side1 ?side2 ?side3 A2.out).mono ?_); (case side1 => repeat (first | (with_reducible first | exact HB.out | apply below_alloc | apply pw_below_drewN | apply below_drew1) | exact HB.out)); (case side2 => exact HR0.out); (case side3 => exact HC0.out); rintro e w8 ⟨g190, rfl, hi, hb, hb2⟩; refine ⟨_, rfl, ?_⟩; have n0_ := Aside0.mk (hb); have n1_ := Aside0.mk (hi); clear HB; have HB := n0_; have HI190 := n1_; clear n0_ n1_; (try clear hb); (try clear hb2); (try clear hk); (try clear hi)) | ((with_reducible refine gate_callee (f := 39) rfl ?_); refine goesL_ (some 8) rfl rfl Try.func39 (by kernel_rfl) rfl #[.pointer (some ⟨g190, 0, none⟩), .int .i64 65536] rfl (by (try simp only [List.map_toArray, List.map_cons, List.map_nil]); first | done | rfl | (simp only [List.length_drop, List.length_take]; rfl)) ?_; (with_reducible refine (spec_l1Rd_below.calls g190 t188 t189 65536 t191 t192 w _ ?side1 ?side2 A3.out).mono ?_); (case side1 => repeat (first | (with_reducible first | exact HI190.out | apply IsS66.alloc | apply IsS66.drewN | apply IsS66.drew | apply IsS66.set_1) | exact HI190.out)); (case side2 => repeat (first | (with_reducible first | exact HB.out | apply below_alloc | apply pw_below_drewN | apply below_drew1 | refine below_set ?_ (IsS66.ge HI190.out)) | exact HB.out)); rintro e w9 ⟨rfl, hi, hb, hk⟩; refine ⟨_, rfl, ?_⟩; have n0_ := Aside0.mk (hb); have n1_ := Aside0.mk (hi); clear HB; clear HI190; have HB := n0_; have HI190 := n1_; clear n0_ n1_; (try clear hb); (try clear hb2); (try clear hk); (try clear hi)) | ((with_reducible refine gate_callee (f := 50) rfl ?_); refine goesL_ (some 9) rfl rfl Try.func50 (by kernel_rfl) rfl #[.int .i64 t191] rfl (by (try simp only [List.map_toArray, List.map_cons, List.map_nil]); first | done | rfl | (simp only [List.length_drop, List.length_take]; rfl)) ?_; (with_reducible refine (spec_ShortBytes.calls k t191 t193 _ A4.out).mono ?_); rintro e w10 ⟨rfl, hb⟩; refine ⟨_, rfl, ?_⟩; have n0_ := Aside0.mk (IsS66.below (by repeat (first | (with_reducible first | exact HI190.out | apply IsS66.alloc | apply IsS66.drewN | apply IsS66.drew | apply IsS66.set_1) | exact HI190.out)) hb); have n1_ := Aside0.mk (below_step (by repeat (first | (with_reducible first | exact HB.out | apply below_alloc | apply pw_below_drewN | apply below_drew1 | refine below_set ?_ (IsS66.ge HI190.out)) | exact HB.out)) hb); clear HI190; clear HB; have HI190 := n0_; have HB := n1_; clear n0_ n1_; (try clear hb); (try clear hb2); (try clear hk); (try clear hi)) | ((with_reducible refine gate_callee (f := 48) rfl ?_); refine goesL_ (some 11) rfl rfl Try.func48 (by kernel_rfl) rfl #[.pointer (some ⟨g190, 0, none⟩), .int .i64 4] rfl (by (try simp only [List.map_toArray, List.map_cons, List.map_nil]); first | done | rfl | (simp only [List.length_drop, List.length_take]; rfl)) ?_; (with_reducible refine (spec_l1Rd_once.calls g190 t188 t192 4 true t195 w _ ?side1 ?side2 A5.out).mono ?_); (case side1 => repeat (first | (with_reducible first | exact HI190.out | apply IsS66.alloc | apply IsS66.drewN | apply IsS66.drew | apply IsS66.set_1) | exact HI190.out)); (case side2 => repeat (first | (with_reducible first | exact HB.out | apply below_alloc | apply pw_below_drewN | apply below_drew1 | refine below_set ?_ (IsS66.ge HI190.out)) | exact HB.out)); rintro e w11 ⟨rfl, hi, hb, hk⟩; refine ⟨_, rfl, ?_⟩; have n0_ := Aside0.mk (hb); have n1_ := Aside0.mk (hi); clear HB; clear HI190; have HB := n0_; have HI190 := n1_; clear n0_ n1_; (try clear hb); (try clear hb2); (try clear hk); (try clear hi)) | ((with_reducible refine gate_callee (f := 49) rfl ?_); refine goesL_ (some 14) rfl rfl Try.func49 (by kernel_rfl) rfl #[.pointer (some ⟨g190, 0, none⟩), .string t193] rfl (by (try simp only [List.map_toArray, List.map_cons, List.map_nil]); first | done | rfl | (simp only [List.length_drop, List.length_take]; rfl)) ?_; (with_reducible refine (spec_l1Rd_hurt.calls g190 t188 t195 t193 t196 t197 w _ ?side1 ?side2 A7.out).mono ?_); (case side1 => repeat (first | (with_reducible first | exact HI190.out | apply IsS66.alloc | apply IsS66.drewN | apply IsS66.drew | apply IsS66.set_1) | exact HI190.out)); (case side2 => repeat (first | (with_reducible first | exact HB.out | apply below_alloc | apply pw_below_drewN | apply below_drew1 | refine below_set ?_ (IsS66.ge HI190.out)) | exact HB.out)); rintro e w12 ⟨rfl, hi, hb, hk⟩; refine ⟨_, rfl, ?_⟩; have n0_ := Aside0.mk (hb); have n1_ := Aside0.mk (hi); clear HB; clear HI190; have HB := n0_; have HI190 := n1_; clear n0_ n1_; (try clear hb); (try clear hb2); (try clear hk); (try clear hi)))
    go_ret
    exact ⟨by first | rfl | (simp [errW_none, errW_some] <;> rfl) | (simp [*, errW_none, errW_some] <;> rfl), by repeat (first | (with_reducible first | exact HB.out | apply below_alloc | apply pw_below_drewN | apply below_drew1 | refine below_set ?_ (IsS66.ge HI190.out)) | exact HB.out)⟩
  · replace c6 := Bool.eq_false_iff.mpr c6
    subst c6
    have H1 : (some t193) = some r := by rw [if_neg (show ¬ (false = true) by decide)] at H; exact H
    clear H
    have H := H1
    clear H1
    obtain rfl := Option.some.inj H
    go_enter Try.func27, Try.ntmps27
    go_wp2_with (first | ((with_reducible refine gate_callee (f := 36) rfl ?_); refine goesL_ (some 6) rfl rfl Try.func36 (by kernel_rfl) rfl #[.slice A0 l0.length c0] rfl (by (try simp only [List.map_toArray, List.map_cons, List.map_nil]); first | done | rfl | (simp only [List.length_drop, List.length_take]; rfl)) ?_; (with_reducible refine (spec_l1Open.calls _ _ l0 t188 t189 w _ ?side1 ?side2 ?side3 A2.out).mono ?_); (case side1 => repeat (first | (with_reducible first | exact HB.out | apply below_alloc | apply pw_below_drewN | apply below_drew1) | exact HB.out)); (case side2 => exact HR0.out); (case side3 => exact HC0.out); rintro e w13 ⟨g190, rfl, hi, hb, hb2⟩; refine ⟨_, rfl, ?_⟩; have n0_ := Aside0.mk (hb); have n1_ := Aside0.mk (hi); clear HB; have HB := n0_; have HI190 := n1_; clear n0_ n1_; (try clear hb); (try clear hb2); (try clear hk); (try clear hi)) | ((with_reducible refine gate_callee (f := 39) rfl ?_); refine goesL_ (some 8) rfl rfl Try.func39 (by kernel_rfl) rfl #[.pointer (some ⟨g190, 0, none⟩), .int .i64 65536] rfl (by (try simp only [List.map_toArray, List.map_cons, List.map_nil]); first | done | rfl | (simp only [List.length_drop, List.length_take]; rfl)) ?_; (with_reducible refine (spec_l1Rd_below.calls g190 t188 t189 65536 t191 t192 w _ ?side1 ?side2 A3.out).mono ?_); (case side1 => repeat (first | (with_reducible first | exact HI190.out | apply IsS66.alloc | apply IsS66.drewN | apply IsS66.drew | apply IsS66.set_1) | exact HI190.out)); (case side2 => repeat (first | (with_reducible first | exact HB.out | apply below_alloc | apply pw_below_drewN | apply below_drew1 | refine below_set ?_ (IsS66.ge HI190.out)) | exact HB.out)); rintro e w14 ⟨rfl, hi, hb, hk⟩; refine ⟨_, rfl, ?_⟩; have n0_ := Aside0.mk (hb); have n1_ := Aside0.mk (hi); clear HB; clear HI190; have HB := n0_; have HI190 := n1_; clear n0_ n1_; (try clear hb); (try clear hb2); (try clear hk); (try clear hi)) | ((with_reducible refine gate_callee (f := 50) rfl ?_); refine goesL_ (some 9) rfl rfl Try.func50 (by kernel_rfl) rfl #[.int .i64 t191] rfl (by (try simp only [List.map_toArray, List.map_cons, List.map_nil]); first | done | rfl | (simp only [List.length_drop, List.length_take]; rfl)) ?_; (with_reducible refine (spec_ShortBytes.calls k t191 t193 _ A4.out).mono ?_); rintro e w15 ⟨rfl, hb⟩; refine ⟨_, rfl, ?_⟩; have n0_ := Aside0.mk (IsS66.below (by repeat (first | (with_reducible first | exact HI190.out | apply IsS66.alloc | apply IsS66.drewN | apply IsS66.drew | apply IsS66.set_1) | exact HI190.out)) hb); have n1_ := Aside0.mk (below_step (by repeat (first | (with_reducible first | exact HB.out | apply below_alloc | apply pw_below_drewN | apply below_drew1 | refine below_set ?_ (IsS66.ge HI190.out)) | exact HB.out)) hb); clear HI190; clear HB; have HI190 := n0_; have HB := n1_; clear n0_ n1_; (try clear hb); (try clear hb2); (try clear hk); (try clear hi)) | ((with_reducible refine gate_callee (f := 48) rfl ?_); refine goesL_ (some 11) rfl rfl Try.func48 (by kernel_rfl) rfl #[.pointer (some ⟨g190, 0, none⟩), .int .i64 4] rfl (by (try simp only [List.map_toArray, List.map_cons, List.map_nil]); first | done | rfl | (simp only [List.length_drop, List.length_take]; rfl)) ?_; (with_reducible refine (spec_l1Rd_once.calls g190 t188 t192 4 false t195 w _ ?side1 ?side2 A5.out).mono ?_); (case side1 => repeat (first | (with_reducible first | exact HI190.out | apply IsS66.alloc | apply IsS66.drewN | apply IsS66.drew | apply IsS66.set_1) | exact HI190.out)); (case side2 => repeat (first | (with_reducible first | exact HB.out | apply below_alloc | apply pw_below_drewN | apply below_drew1 | refine below_set ?_ (IsS66.ge HI190.out)) | exact HB.out)); rintro e w16 ⟨rfl, hi, hb, hk⟩; refine ⟨_, rfl, ?_⟩; have n0_ := Aside0.mk (hb); have n1_ := Aside0.mk (hi); clear HB; clear HI190; have HB := n0_; have HI190 := n1_; clear n0_ n1_; (try clear hb); (try clear hb2); (try clear hk); (try clear hi)))
    go_ret
    exact ⟨by first | rfl | (simp [errW_none, errW_some] <;> rfl) | (simp [*, errW_none, errW_some] <;> rfl), by repeat (first | (with_reducible first | exact HB.out | apply below_alloc | apply pw_below_drewN | apply below_drew1 | refine below_set ?_ (IsS66.ge HI190.out)) | exact HB.out)⟩

/-! ### impl_wordAt: function 51 -/
def impl_wordAt.l0 : Nat → ByteArray → Int → Int → Int → Option (Int)
  | 0, _, _, _, _ => none
  | k + 1, x0, x1, x5, x7 => if x7 < 8 then (if 0 ≤ (wrap64 (x1 + x7)) then (if (wrap64 (x1 + x7)) < (x0.size : Int) then (impl_wordAt.l0 k x0 x1 (Go.bits .or .i64 (wrap64 (x5 * 256)) (wrap64 (bt x0 (wrap64 (x1 + x7))))) (wrap64 (x7 + 1))) else (none)) else (none)) else (some x5)
def impl_wordAt.f (k : Nat) (a0 : ByteArray) (a1 : Int) : Option (Int) := impl_wordAt.l0 k a0 a1 0 0
theorem impl_wordAt.mono_l : ∀ k, (∀ y0 y1 y2 y3, LeO (impl_wordAt.l0 k y0 y1 y2 y3) (impl_wordAt.l0 (k + 1) y0 y1 y2 y3))
  | 0 => fun _ _ _ _ r h => by simp [impl_wordAt.l0] at h
  | k + 1 => by
    have ih0 := impl_wordAt.mono_l k
    · intro y0 y1 y2 y3
      unfold impl_wordAt.l0
      repeat' first
      | (with_reducible exact ih0 _ _ _ _)
      | (with_reducible exact LeO.refl _)
      | (with_reducible exact LeO.none _)
      | (with_reducible refine LeO.ite ?_ ?_)
      | (with_reducible refine LeO.bind ?_ (fun _ => ?_))
      | exact ih0 _ _ _ _
      | exact LeO.none _
      | refine LeO.ite ?_ ?_
      | refine LeO.bind ?_ (fun _ => ?_)
theorem impl_wordAt.mono : ∀ a0 a1 k, LeO (impl_wordAt.f k a0 a1) (impl_wordAt.f (k + 1) a0 a1) := by
  intro a0 a1 k
  have ih0 := impl_wordAt.mono_l k
  unfold impl_wordAt.f
  repeat' first
      | (with_reducible exact ih0 _ _ _ _)
      | (with_reducible exact LeO.refl _)
      | (with_reducible exact LeO.none _)
      | (with_reducible refine LeO.ite ?_ ?_)
      | (with_reducible refine LeO.bind ?_ (fun _ => ?_))
      | exact ih0 _ _ _ _
      | exact LeO.none _
      | refine LeO.ite ?_ ?_
      | refine LeO.bind ?_ (fun _ => ?_)
set_option maxHeartbeats 8000000 in
set_option maxRecDepth 100000 in
theorem impl_wordAt.calls (k : Nat) (a0 : ByteArray) (a1 : Int) (r : Int) (w : World) (h : impl_wordAt.f k a0 a1 = some r) :
    Calls Try.prog 51 #[.string a0, .int .i64 a1] w fun e w' => e = .returned (.int .i64 r) ∧ Drawn0 w w' := by
  have H : (impl_wordAt.l0 k a0 a1 0 0) = some r := h
  clear h
  have H' := Aside0.mk H
  clear H
  go_enter Try.func51, Try.ntmps51
  go_wp2
  go_loopg [5, 7] k (fun kq v5 v7 w' => ∃ (x5_1 : Int) (x7_1 : Int), v5 = .int .i64 x5_1 ∧ v7 = .int .i64 x7_1 ∧ Aside0 (impl_wordAt.l0 kq a0 a1 x5_1 x7_1 = some r) ∧ Aside0 (kq ≤ k) ∧ Drawn0 w w')
  case atStart => exact ⟨(0), (0), (by first | rfl | (simp; done) | (simp [*]; done)), (by first | rfl | (simp; done) | (simp [*]; done)), H', ⟨Nat.le_refl _⟩, by repeat (first | exact Drawn0.refl _ | apply Drawn0.step)⟩
  case round =>
    clear H'
    try clear p2
    obtain ⟨x5_1, x7_1, rfl, rfl, HA, HK1, ⟨m1, rfl⟩⟩ := hrel
    cases gk with
    | zero => exact absurd HA.out (by simp [impl_wordAt.l0])
    | succ k1 =>
      have H := HA.out
      clear HA
      simp only [impl_wordAt.l0] at H
      by_cases c3 : x7_1 < 8
      · rw [if_pos c3] at H
        have c3b0 : decide (x7_1 < 8) = true := decide_eq_true c3
        clear c3
        obtain ⟨ji4, hji4⟩ : ∃ j_ : Int, (wrap64 (a1 + x7_1)) = j_ := ⟨_, rfl⟩
        replace H : (if 0 ≤ (ji4) then (if (ji4) < (a0.size : Int) then (impl_wordAt.l0 k1 a0 a1 (Go.bits .or .i64 (wrap64 (x5_1 * 256)) (wrap64 (bt a0 (ji4)))) (wrap64 (x7_1 + 1))) else (none)) else (none)) = some r := by first | (rw [hji4] at H; exact H) | (simp only [hji4] at H ⊢; exact H)
        have hji4w : (IntKind.i64.wrap (a1 + x7_1)) = ji4 := (i64_w _).trans hji4
        by_cases c5 : 0 ≤ (ji4)
        · rw [if_pos c5] at H
          have c5b0 : decide (0 ≤ (ji4)) = true := decide_eq_true c5
          clear c5
          by_cases c6 : (ji4) < (a0.size : Int)
          · rw [if_pos c6] at H
            have c6b0 : decide ((ji4) < (a0.size : Int)) = true := decide_eq_true c6
            clear c6
            have H' := Aside0.mk H
            clear H
            have p7 : 0 ≤ ((ji4) : Int) := of_decide_eq_true (by first | (with_reducible assumption) | assumption)
            have q7 : (ji4) < (a0.size : Int) := of_decide_eq_true (by first | (with_reducible assumption) | assumption)
            have hx7 := bt_at a0 (ji4)
            replace p7 := eq_true p7
            replace q7 := eq_true q7
            go_wp2
            go_roundg k1
            case measure => have := HK1.out; omega
            case rel => exact ⟨(Go.bits .or .i64 (wrap64 (x5_1 * 256)) (wrap64 (bt a0 (ji4)))), (wrap64 (x7_1 + 1)), (by first | rfl | (simp; done) | (simp only [← hji4] <;> (first | rfl | simp)) | (simp [*]; done)), (by first | rfl | (simp; done) | (simp [*]; done)), H', ⟨by have := HK1.out; omega⟩, by repeat (first | exact Drawn0.refl _ | apply Drawn0.step)⟩
          · rw [if_neg c6] at H
            exact absurd H (by simp)
        · rw [if_neg c5] at H
          exact absurd H (by simp)
      · rw [if_neg c3] at H
        have c3b0 : decide (x7_1 < 8) = false := decide_eq_false c3
        clear c3
        obtain rfl := Option.some.inj H
        go_wp2
        go_ret
        exact ⟨by first | rfl | (simp; done) | (simp [*]; done), by repeat (first | exact Drawn0.refl _ | apply Drawn0.step)⟩

/-! ### impl_ReadWord: function 28 -/
def impl_ReadWord.f (k : Nat) (a0 : ByteArray) : Option (Int × Bool) := if (a0.size : Int) = 8 then ((impl_wordAt.f k a0 0).bind fun t198 => (some (t198, true))) else (some (0, false))
theorem impl_ReadWord.mono : ∀ a0 k, LeO (impl_ReadWord.f k a0) (impl_ReadWord.f (k + 1) a0) := by
  intro a0 k
  unfold impl_ReadWord.f
  repeat' first
      | (with_reducible exact impl_wordAt.mono _ _ _)
      | (with_reducible exact LeO.refl _)
      | (with_reducible exact LeO.none _)
      | (with_reducible refine LeO.ite ?_ ?_)
      | (with_reducible refine LeO.bind ?_ (fun _ => ?_))
      | exact impl_wordAt.mono _ _ _
      | exact LeO.none _
      | refine LeO.ite ?_ ?_
      | refine LeO.bind ?_ (fun _ => ?_)
set_option maxHeartbeats 8000000 in
set_option maxRecDepth 100000 in
theorem impl_ReadWord.calls (k : Nat) (a0 : ByteArray) (r1 : Int) (r2 : Bool) (w : World) (h : impl_ReadWord.f k a0 = some (r1, r2)) :
    Calls Try.prog 28 #[.string a0] w fun e w' => e = .returned (.tuple #[.int .i64 r1, .bool r2]) ∧ Drawn0 w w' := by
  have H : (if (a0.size : Int) = 8 then ((impl_wordAt.f k a0 0).bind fun t198 => (some (t198, true))) else (some (0, false))) = some (r1, r2) := h
  clear h
  by_cases c2 : (a0.size : Int) = 8
  · rw [if_pos c2] at H
    have c2b0 : ((a0.size : Int) == 8) = true := beq_iff_eq.mpr c2
    have c2b1 : ((a0.size : Int) != 8) = false := bne_eq_false_iff_eq.mpr c2
    clear c2
    replace H := Option.bind_eq_some_iff.mp H
    obtain ⟨t198, A30, H⟩ := H
    replace H : (some (t198, true)) = some (r1, r2) := H
    have A3 := Aside0.mk A30
    clear A30
    simp only [Option.some.injEq, Prod.mk.injEq] at H
    obtain ⟨rfl, rfl⟩ := H
    go_enter Try.func28, Try.ntmps28
    go_wp2_with (first | ((with_reducible refine gate_callee (f := 51) rfl ?_); refine goesL_ (some 8) rfl rfl Try.func51 (by kernel_rfl) rfl #[.string a0, .int .i64 0] rfl (by (try simp only [List.map_toArray, List.map_cons, List.map_nil]); first | done | rfl | (simp only [List.length_drop, List.length_take]; rfl)) ?_; (with_reducible refine (impl_wordAt.calls k a0 0 t198 _ A3.out).mono ?_); rintro e w' ⟨rfl, ⟨nd, rfl⟩⟩; refine ⟨_, rfl, ?_⟩))
    go_ret2
    exact ⟨by first | rfl | (simp; done) | (simp [*]; done), by repeat (first | exact Drawn0.refl _ | apply Drawn0.step)⟩
  · rw [if_neg c2] at H
    have c2b0 : ((a0.size : Int) == 8) = false := beq_eq_false_iff_ne.mpr c2
    have c2b1 : ((a0.size : Int) != 8) = true := bne_iff_ne.mpr c2
    simp only [Option.some.injEq, Prod.mk.injEq] at H
    obtain ⟨rfl, rfl⟩ := H
    go_enter Try.func28, Try.ntmps28
    go_wp2
    go_ret2
    exact ⟨by first | rfl | (simp; done) | (simp [*]; done), by repeat (first | exact Drawn0.refl _ | apply Drawn0.step)⟩

/-! ### impl_ReadShort: function 29 -/
def impl_ReadShort.f (a0 : ByteArray) : Option (Int × Bool) := if (a0.size : Int) = 2 then (if 0 < (a0.size : Int) then (if 1 < (a0.size : Int) then (some (Go.bits .or .i64 (wrap64 ((wrap64 (bt a0 0)) * 256)) (wrap64 (bt a0 1)), true)) else (none)) else (none)) else (some (0, false))
set_option maxHeartbeats 8000000 in
set_option maxRecDepth 100000 in
theorem impl_ReadShort.calls (a0 : ByteArray) (r1 : Int) (r2 : Bool) (w : World) (h : impl_ReadShort.f a0 = some (r1, r2)) :
    Calls Try.prog 29 #[.string a0] w fun e w' => e = .returned (.tuple #[.int .i64 r1, .bool r2]) ∧ Drawn0 w w' := by
  have H : (if (a0.size : Int) = 2 then (if 0 < (a0.size : Int) then (if 1 < (a0.size : Int) then (some (Go.bits .or .i64 (wrap64 ((wrap64 (bt a0 0)) * 256)) (wrap64 (bt a0 1)), true)) else (none)) else (none)) else (some (0, false))) = some (r1, r2) := h
  clear h
  by_cases c2 : (a0.size : Int) = 2
  · rw [if_pos c2] at H
    have c2b0 : ((a0.size : Int) == 2) = true := beq_iff_eq.mpr c2
    have c2b1 : ((a0.size : Int) != 2) = false := bne_eq_false_iff_eq.mpr c2
    clear c2
    by_cases c3 : 0 < (a0.size : Int)
    · rw [if_pos c3] at H
      have c3b0 : decide (0 < (a0.size : Int)) = true := decide_eq_true c3
      have c3b1 : decide (0 < a0.size) = true := decide_eq_true (by omega)
      clear c3
      by_cases c5 : 1 < (a0.size : Int)
      · rw [if_pos c5] at H
        have c5b0 : decide (1 < (a0.size : Int)) = true := decide_eq_true c5
        have c5b1 : decide (1 < a0.size) = true := decide_eq_true (by omega)
        clear c5
        simp only [Option.some.injEq, Prod.mk.injEq] at H
        obtain ⟨rfl, rfl⟩ := H
        have p4 : 0 ≤ (0 : Int) := (by omega)
        have q4 : 0 < a0.size := (by have : (0 : Int) < (a0.size : Int) := of_decide_eq_true (by first | (with_reducible assumption) | assumption); omega)
        have hx4 : ∀ h : 0 < a0.size, ((a0[0]'h).toNat : Int) = bt a0 0 := bt_at a0 0
        clear p4
        have qi4 : (0 < (a0.size : Int)) = True := eq_true (of_decide_eq_true (by first | (with_reducible assumption) | assumption))
        replace q4 := eq_true q4
        have p6 : 0 ≤ (1 : Int) := (by omega)
        have q6 : 1 < a0.size := (by have : (1 : Int) < (a0.size : Int) := of_decide_eq_true (by first | (with_reducible assumption) | assumption); omega)
        have hx6 : ∀ h : 1 < a0.size, ((a0[1]'h).toNat : Int) = bt a0 1 := bt_at a0 1
        clear p6
        have qi6 : (1 < (a0.size : Int)) = True := eq_true (of_decide_eq_true (by first | (with_reducible assumption) | assumption))
        replace q6 := eq_true q6
        go_enter Try.func29, Try.ntmps29
        go_wp2
        repeat (go_quiet (fail); try go_wp2)
        go_ret2
        exact ⟨by first | rfl | (simp; done) | (simp [*]; done), by repeat (first | exact Drawn0.refl _ | apply Drawn0.step)⟩
      · rw [if_neg c5] at H
        exact absurd H (by simp)
    · rw [if_neg c3] at H
      exact absurd H (by simp)
  · rw [if_neg c2] at H
    have c2b0 : ((a0.size : Int) == 2) = false := beq_eq_false_iff_ne.mpr c2
    have c2b1 : ((a0.size : Int) != 2) = true := bne_iff_ne.mpr c2
    simp only [Option.some.injEq, Prod.mk.injEq] at H
    obtain ⟨rfl, rfl⟩ := H
    go_enter Try.func29, Try.ntmps29
    go_wp2
    repeat (go_quiet (fail); try go_wp2)
    go_ret2
    exact ⟨by first | rfl | (simp; done) | (simp [*]; done), by repeat (first | exact Drawn0.refl _ | apply Drawn0.step)⟩

/-! ### impl_within: function 43 -/
def impl_within.f (a0 : Int) (a1 : Int) (a2 : Int) : Option (Bool) := if a0 ≥ a1 then (some (decide (a0 ≤ a2))) else (some false)
set_option maxHeartbeats 8000000 in
set_option maxRecDepth 100000 in
theorem impl_within.calls (a0 : Int) (a1 : Int) (a2 : Int) (r : Bool) (w : World) (h : impl_within.f a0 a1 a2 = some r) :
    Calls Try.prog 43 #[.int .i64 a0, .int .i64 a1, .int .i64 a2] w fun e w' => e = .returned (.bool r) ∧ Drawn0 w w' := by
  have H : (if a0 ≥ a1 then (some (decide (a0 ≤ a2))) else (some false)) = some r := h
  clear h
  by_cases c4 : a0 ≥ a1
  · rw [if_pos c4] at H
    have c4b0 : decide (a1 ≤ a0) = true := decide_eq_true c4
    clear c4
    obtain rfl := Option.some.inj H
    go_enter Try.func43, Try.ntmps43
    go_wp2
    go_ret
    exact ⟨by first | rfl | (simp; done) | (simp [*]; done), by repeat (first | exact Drawn0.refl _ | apply Drawn0.step)⟩
  · rw [if_neg c4] at H
    have c4b0 : decide (a1 ≤ a0) = false := decide_eq_false c4
    clear c4
    obtain rfl := Option.some.inj H
    go_enter Try.func43, Try.ntmps43
    go_wp2
    go_ret
    exact ⟨by first | rfl | (simp; done) | (simp [*]; done), by repeat (first | exact Drawn0.refl _ | apply Drawn0.step)⟩

/-! ### impl_ShortBytes: function 30 -/
def impl_ShortBytes.f (a0 : Int) : Option (ByteArray) := (impl_within.f a0 0 65535).bind fun t199 => (if t199 = true then (some (strOfNums (([(a0 / 256) % 256, (a0) % 256] : List Int)))) else (some (⟨#[]⟩ : ByteArray)))
set_option maxHeartbeats 8000000 in
set_option maxRecDepth 100000 in
theorem impl_ShortBytes.calls (a0 : Int) (r : ByteArray) (w : World) (h : impl_ShortBytes.f a0 = some r) :
    Calls Try.prog 30 #[.int .i64 a0] w fun e w' => e = .returned (.string r) ∧ Below w.heap.size w w' := by
  have HB := Aside0.mk (Below.refl w.heap.size w)
  have H : ((impl_within.f a0 0 65535).bind fun t199 => (if t199 = true then (some (strOfNums (([(a0 / 256) % 256, (a0) % 256] : List Int)))) else (some (⟨#[]⟩ : ByteArray)))) = some r := h
  clear h
  replace H := Option.bind_eq_some_iff.mp H
  obtain ⟨t199, A20, H⟩ := H
  replace H : (if t199 = true then (some (strOfNums (([(a0 / 256) % 256, (a0) % 256] : List Int)))) else (some (⟨#[]⟩ : ByteArray))) = some r := H
  have A2 := Aside0.mk A20
  clear A20
  by_cases c3 : t199 = true
  · subst c3
    have H1 : (some (strOfNums (([(a0 / 256) % 256, (a0) % 256] : List Int)))) = some r := by rw [if_pos rfl] at H; exact H
    clear H
    have H := H1
    clear H1
    obtain ⟨y200, hy200⟩ : ∃ y_ : List Int, y_ = (([(a0 / 256) % 256, (a0) % 256] : List Int)) := ⟨_, rfl⟩
    replace H : (some (strOfNums y200)) = some r := by first | (rw [hy200]; with_reducible exact H) | (have H2_ := (Option.bind_some _ _).symm.trans H; rw [hy200]; with_reducible exact H2_) | (have H2_ := (Option.bind_some _ _).symm.trans H; with_reducible exact H2_) | with_reducible exact H | (rw [hy200]; exact H) | exact H
    have Ny200 := Aside0.mk hy200
    clear hy200
    obtain rfl := Option.some.inj H
    go_enter Try.func30, Try.ntmps30
    go_wp2_with (first | ((with_reducible refine gate_callee (f := 43) rfl ?_); refine goesL_ (some 4) rfl rfl Try.func43 (by kernel_rfl) rfl #[.int .i64 a0, .int .i64 0, .int .i64 65535] rfl (by (try simp only [List.map_toArray, List.map_cons, List.map_nil]); first | done | rfl | (simp only [List.length_drop, List.length_take]; rfl)) ?_; (with_reducible refine (impl_within.calls a0 0 65535 true _ A2.out).mono ?_); rintro e w' ⟨rfl, ⟨nd, rfl⟩⟩; refine ⟨_, rfl, ?_⟩) | ((with_reducible refine gate_dst (N := 11) rfl ?_); refine Kd.R_lit (Kd.int .u8) _ 5 ?hg (N := 11) ?hd (xs := ([(a0 / 256) % 256, (a0) % 256] : List Int)) (inner := [.int .u8 ((a0 / 256) % 256), .int .u8 ((a0) % 256)]) (ok := fun _ => True) (okp := fun _ => True) ?hr ?hp (fun _ hk => hk) trivial (Below.refl _ _) (Nat.le_refl _) (by simp) ?_; (case hd => rfl); (case hg => rfl); (case hr => first | (go_simp; done) | (go_simp; rfl)); (case hp => exact (Reps.one (show Kd.M (Kd.int .u8) _ _ _ ((a0 / 256) % 256) [.int .u8 ((a0 / 256) % 256)] from rfl) (Reps.one (show Kd.M (Kd.int .u8) _ _ _ ((a0) % 256) [.int .u8 ((a0) % 256)] from rfl) (Reps.none _ _)))); intro v201 w4 ho5 hb hg_ hnew_; clear hg_ hnew_; (first | rw [← Ny200.out] at ho5 | (simp only [Int.reduceToNat] at ho5; rw [← Ny200.out] at ho5)); have n0_ := Aside0.mk (Kd.R_lower ho5 (below_size (by repeat (first | (with_reducible first | exact HB.out | apply below_alloc | apply pw_below_drewN | apply below_drew1) | exact HB.out)))); have n1_ := Aside0.mk (below_step (by repeat (first | (with_reducible first | exact HB.out | apply below_alloc | apply pw_below_drewN | apply below_drew1) | exact HB.out)) hb); clear HB; have HO202 := n0_; have HB := n1_; clear n0_ n1_; clear hb ho5; have hcv6 := own_string (P := Try.prog) Try.underlying22 Try.underlying5 Try.underlying9 (Kd.own_of_R HO202.out)))
    go_ret
    exact ⟨by first | rfl | (simp [errW_none, errW_some] <;> rfl) | (simp [*, errW_none, errW_some] <;> rfl), by repeat (first | (with_reducible first | exact HB.out | apply below_alloc | apply pw_below_drewN | apply below_drew1) | exact HB.out)⟩
  · replace c3 := Bool.eq_false_iff.mpr c3
    subst c3
    have H1 : (some (⟨#[]⟩ : ByteArray)) = some r := by rw [if_neg (show ¬ (false = true) by decide)] at H; exact H
    clear H
    have H := H1
    clear H1
    obtain rfl := Option.some.inj H
    go_enter Try.func30, Try.ntmps30
    go_wp2_with (first | ((with_reducible refine gate_callee (f := 43) rfl ?_); refine goesL_ (some 4) rfl rfl Try.func43 (by kernel_rfl) rfl #[.int .i64 a0, .int .i64 0, .int .i64 65535] rfl (by (try simp only [List.map_toArray, List.map_cons, List.map_nil]); first | done | rfl | (simp only [List.length_drop, List.length_take]; rfl)) ?_; (with_reducible refine (impl_within.calls a0 0 65535 false _ A2.out).mono ?_); rintro e w' ⟨rfl, ⟨nd, rfl⟩⟩; refine ⟨_, rfl, ?_⟩))
    go_ret
    exact ⟨by first | rfl | (simp [errW_none, errW_some] <;> rfl) | (simp [*, errW_none, errW_some] <;> rfl), by repeat (first | (with_reducible first | exact HB.out | apply below_alloc | apply pw_below_drewN | apply below_drew1) | exact HB.out)⟩

/-! ### laws_FnWords: function 6 -/
def laws_FnWords.j0 : Nat → Int → Bool → Option (Bool)
  | 0, _, _ => none
  | k + 1, x5, x80 => if x80 = true then (some false) else ((impl_ShortBytes.f x5).bind fun t218 => ((impl_ReadShort.f t218).bind fun bt219 => (if x5 ≥ 0 then (if (bt219.2 == (decide (x5 ≤ 65535))) = true then (if bt219.2 = true then (some (bt219.1 == x5)) else (some true)) else (some false)) else (if (bt219.2 == false) = true then (if bt219.2 = true then (some (bt219.1 == x5)) else (some true)) else (some false)))))
def laws_FnWords.f (k : Nat) (l0 : List Int) : Option (Bool) := (laws_big.f l0).bind fun t203 => (if t203 = true then (some true) else ((spec_DrawWordBytes.f k l0).bind fun t204 => ((spec_DrawReadWord.f k l0).bind fun t205 => ((spec_DrawShortBytes.f k l0).bind fun t206 => ((spec_DrawReadShort.f k l0).bind fun t207 => ((impl_WordBytes.f k t204).bind fun t208 => ((impl_ReadWord.f k t208).bind fun bt209 => ((impl_ReadWord.f k t205).bind fun bt211 => ((impl_ReadShort.f t207).bind fun bt213 => (if bt209.1 = t204 then (if bt209.2 = true then (if (bt211.2 != ((t205.size : Int) == 8)) = true then (laws_FnWords.j0 k t206 true) else (if bt211.2 = true then ((impl_WordBytes.f k bt211.1).bind fun t215 => (if t215.toList = t205.toList then (if (bt213.2 != ((t207.size : Int) == 2)) = true then (laws_FnWords.j0 k t206 true) else (if bt213.2 = true then ((impl_ShortBytes.f bt213.1).bind fun t216 => (laws_FnWords.j0 k t206 (t216.toList != t207.toList))) else (laws_FnWords.j0 k t206 false))) else (laws_FnWords.j0 k t206 true))) else (if (bt213.2 != ((t207.size : Int) == 2)) = true then (laws_FnWords.j0 k t206 true) else (if bt213.2 = true then ((impl_ShortBytes.f bt213.1).bind fun t217 => (laws_FnWords.j0 k t206 (t217.toList != t207.toList))) else (laws_FnWords.j0 k t206 false))))) else (laws_FnWords.j0 k t206 true)) else (laws_FnWords.j0 k t206 true)))))))))))
theorem laws_FnWords.mono_l : ∀ k, (∀ y0 y1, LeO (laws_FnWords.j0 k y0 y1) (laws_FnWords.j0 (k + 1) y0 y1))
  | 0 => fun _ _ r h => by simp [laws_FnWords.j0] at h
  | k + 1 => by
    have ih0 := laws_FnWords.mono_l k
    · intro y0 y1
      unfold laws_FnWords.j0
      repeat' first
      | (with_reducible exact ih0 _ _)
      | (with_reducible exact impl_ReadWord.mono _ _)
      | (with_reducible exact impl_WordBytes.mono _ _)
      | (with_reducible exact spec_DrawReadShort.mono _ _)
      | (with_reducible exact spec_DrawReadWord.mono _ _)
      | (with_reducible exact spec_DrawShortBytes.mono _ _)
      | (with_reducible exact spec_DrawWordBytes.mono _ _)
      | (with_reducible exact LeO.refl _)
      | (with_reducible exact LeO.none _)
      | (with_reducible refine LeO.ite ?_ ?_)
      | (with_reducible refine LeO.bind ?_ (fun _ => ?_))
      | exact ih0 _ _
      | exact impl_ReadWord.mono _ _
      | exact impl_WordBytes.mono _ _
      | exact spec_DrawReadShort.mono _ _
      | exact spec_DrawReadWord.mono _ _
      | exact spec_DrawShortBytes.mono _ _
      | exact spec_DrawWordBytes.mono _ _
      | exact LeO.none _
      | refine LeO.ite ?_ ?_
      | refine LeO.bind ?_ (fun _ => ?_)
theorem laws_FnWords.mono : ∀ a0 k, LeO (laws_FnWords.f k a0) (laws_FnWords.f (k + 1) a0) := by
  intro a0 k
  have ih0 := laws_FnWords.mono_l k
  unfold laws_FnWords.f
  repeat' first
      | (with_reducible exact ih0 _ _)
      | (with_reducible exact impl_ReadWord.mono _ _)
      | (with_reducible exact impl_WordBytes.mono _ _)
      | (with_reducible exact spec_DrawReadShort.mono _ _)
      | (with_reducible exact spec_DrawReadWord.mono _ _)
      | (with_reducible exact spec_DrawShortBytes.mono _ _)
      | (with_reducible exact spec_DrawWordBytes.mono _ _)
      | (with_reducible exact LeO.refl _)
      | (with_reducible exact LeO.none _)
      | (with_reducible refine LeO.ite ?_ ?_)
      | (with_reducible refine LeO.bind ?_ (fun _ => ?_))
      | exact ih0 _ _
      | exact impl_ReadWord.mono _ _
      | exact impl_WordBytes.mono _ _
      | exact spec_DrawReadShort.mono _ _
      | exact spec_DrawReadWord.mono _ _
      | exact spec_DrawShortBytes.mono _ _
      | exact spec_DrawWordBytes.mono _ _
      | exact LeO.none _
      | refine LeO.ite ?_ ?_
      | refine LeO.bind ?_ (fun _ => ?_)
set_option maxHeartbeats 8000000 in
set_option maxRecDepth 100000 in
theorem laws_FnWords.calls (k : Nat) (A0 : Option Addr) (c0 : Nat) (l0 : List Int) (r : Bool) (w : World) (hr0 : Kd.C (Kd.int .u8) w A0 l0.length l0) (hc0 : l0.length ≤ c0) (h : laws_FnWords.f k l0 = some r) :
    Calls Try.prog 6 #[.slice A0 l0.length c0] w fun e w' => e = .returned (.bool r) ∧ Below w.heap.size w w' := by
  have HR0 := Aside0.mk hr0
  have HC0 := Aside0.mk hc0
  clear hr0 hc0
  have HB := Aside0.mk (Below.refl w.heap.size w)
  have H : ((laws_big.f l0).bind fun t203 => (if t203 = true then (some true) else ((spec_DrawWordBytes.f k l0).bind fun t204 => ((spec_DrawReadWord.f k l0).bind fun t205 => ((spec_DrawShortBytes.f k l0).bind fun t206 => ((spec_DrawReadShort.f k l0).bind fun t207 => ((impl_WordBytes.f k t204).bind fun t208 => ((impl_ReadWord.f k t208).bind fun bt209 => ((impl_ReadWord.f k t205).bind fun bt211 => ((impl_ReadShort.f t207).bind fun bt213 => (if bt209.1 = t204 then (if bt209.2 = true then (if (bt211.2 != ((t205.size : Int) == 8)) = true then (laws_FnWords.j0 k t206 true) else (if bt211.2 = true then ((impl_WordBytes.f k bt211.1).bind fun t215 => (if t215.toList = t205.toList then (if (bt213.2 != ((t207.size : Int) == 2)) = true then (laws_FnWords.j0 k t206 true) else (if bt213.2 = true then ((impl_ShortBytes.f bt213.1).bind fun t216 => (laws_FnWords.j0 k t206 (t216.toList != t207.toList))) else (laws_FnWords.j0 k t206 false))) else (laws_FnWords.j0 k t206 true))) else (if (bt213.2 != ((t207.size : Int) == 2)) = true then (laws_FnWords.j0 k t206 true) else (if bt213.2 = true then ((impl_ShortBytes.f bt213.1).bind fun t217 => (laws_FnWords.j0 k t206 (t217.toList != t207.toList))) else (laws_FnWords.j0 k t206 false))))) else (laws_FnWords.j0 k t206 true)) else (laws_FnWords.j0 k t206 true)))))))))))) = some r := h
  clear h
  replace H := Option.bind_eq_some_iff.mp H
  obtain ⟨t203, A20, H⟩ := H
  replace H : (if t203 = true then (some true) else ((spec_DrawWordBytes.f k l0).bind fun t204 => ((spec_DrawReadWord.f k l0).bind fun t205 => ((spec_DrawShortBytes.f k l0).bind fun t206 => ((spec_DrawReadShort.f k l0).bind fun t207 => ((impl_WordBytes.f k t204).bind fun t208 => ((impl_ReadWord.f k t208).bind fun bt209 => ((impl_ReadWord.f k t205).bind fun bt211 => ((impl_ReadShort.f t207).bind fun bt213 => (if bt209.1 = t204 then (if bt209.2 = true then (if (bt211.2 != ((t205.size : Int) == 8)) = true then (laws_FnWords.j0 k t206 true) else (if bt211.2 = true then ((impl_WordBytes.f k bt211.1).bind fun t215 => (if t215.toList = t205.toList then (if (bt213.2 != ((t207.size : Int) == 2)) = true then (laws_FnWords.j0 k t206 true) else (if bt213.2 = true then ((impl_ShortBytes.f bt213.1).bind fun t216 => (laws_FnWords.j0 k t206 (t216.toList != t207.toList))) else (laws_FnWords.j0 k t206 false))) else (laws_FnWords.j0 k t206 true))) else (if (bt213.2 != ((t207.size : Int) == 2)) = true then (laws_FnWords.j0 k t206 true) else (if bt213.2 = true then ((impl_ShortBytes.f bt213.1).bind fun t217 => (laws_FnWords.j0 k t206 (t217.toList != t207.toList))) else (laws_FnWords.j0 k t206 false))))) else (laws_FnWords.j0 k t206 true)) else (laws_FnWords.j0 k t206 true))))))))))) = some r := H
  have A2 := Aside0.mk A20
  clear A20
  by_cases c3 : t203 = true
  · subst c3
    have H1 : (some true) = some r := by rw [if_pos rfl] at H; exact H
    clear H
    have H := H1
    clear H1
    obtain rfl := Option.some.inj H
    go_enter Try.func6, Try.ntmps6
    go_wp2_with (first | ((with_reducible refine gate_callee (f := 8) rfl ?_); refine goesL_ (some 17) rfl rfl Try.func8 (by kernel_rfl) rfl #[.slice A0 l0.length c0] rfl (by (try simp only [List.map_toArray, List.map_cons, List.map_nil]); first | done | rfl | (simp only [List.length_drop, List.length_take]; rfl)) ?_; (with_reducible refine (laws_big.calls _ _ l0 true _ ?side1 ?side2 A2.out).mono ?_); (case side1 => repeat (first | exact HR0.out | (with_reducible refine Kd.C_alloc ?_ _) | (with_reducible refine Kd.C_drewN ?_ _) | (with_reducible refine Kd.C_drew ?_))); (case side2 => exact HC0.out); rintro e w' ⟨rfl, ⟨nd, rfl⟩⟩; refine ⟨_, rfl, ?_⟩))
    go_ret
    exact ⟨by first | rfl | (simp [errW_none, errW_some] <;> rfl) | (simp [*, errW_none, errW_some] <;> rfl), by repeat (first | (with_reducible first | exact HB.out | apply below_alloc | apply pw_below_drewN | apply below_drew1) | exact HB.out)⟩
  · replace c3 := Bool.eq_false_iff.mpr c3
    subst c3
    have H1 : ((spec_DrawWordBytes.f k l0).bind fun t204 => ((spec_DrawReadWord.f k l0).bind fun t205 => ((spec_DrawShortBytes.f k l0).bind fun t206 => ((spec_DrawReadShort.f k l0).bind fun t207 => ((impl_WordBytes.f k t204).bind fun t208 => ((impl_ReadWord.f k t208).bind fun bt209 => ((impl_ReadWord.f k t205).bind fun bt211 => ((impl_ReadShort.f t207).bind fun bt213 => (if bt209.1 = t204 then (if bt209.2 = true then (if (bt211.2 != ((t205.size : Int) == 8)) = true then (laws_FnWords.j0 k t206 true) else (if bt211.2 = true then ((impl_WordBytes.f k bt211.1).bind fun t215 => (if t215.toList = t205.toList then (if (bt213.2 != ((t207.size : Int) == 2)) = true then (laws_FnWords.j0 k t206 true) else (if bt213.2 = true then ((impl_ShortBytes.f bt213.1).bind fun t216 => (laws_FnWords.j0 k t206 (t216.toList != t207.toList))) else (laws_FnWords.j0 k t206 false))) else (laws_FnWords.j0 k t206 true))) else (if (bt213.2 != ((t207.size : Int) == 2)) = true then (laws_FnWords.j0 k t206 true) else (if bt213.2 = true then ((impl_ShortBytes.f bt213.1).bind fun t217 => (laws_FnWords.j0 k t206 (t217.toList != t207.toList))) else (laws_FnWords.j0 k t206 false))))) else (laws_FnWords.j0 k t206 true)) else (laws_FnWords.j0 k t206 true)))))))))) = some r := by rw [if_neg (show ¬ (false = true) by decide)] at H; exact H
    clear H
    have H := H1
    clear H1
    replace H := Option.bind_eq_some_iff.mp H
    obtain ⟨t204, A40, H⟩ := H
    replace H : ((spec_DrawReadWord.f k l0).bind fun t205 => ((spec_DrawShortBytes.f k l0).bind fun t206 => ((spec_DrawReadShort.f k l0).bind fun t207 => ((impl_WordBytes.f k t204).bind fun t208 => ((impl_ReadWord.f k t208).bind fun bt209 => ((impl_ReadWord.f k t205).bind fun bt211 => ((impl_ReadShort.f t207).bind fun bt213 => (if bt209.1 = t204 then (if bt209.2 = true then (if (bt211.2 != ((t205.size : Int) == 8)) = true then (laws_FnWords.j0 k t206 true) else (if bt211.2 = true then ((impl_WordBytes.f k bt211.1).bind fun t215 => (if t215.toList = t205.toList then (if (bt213.2 != ((t207.size : Int) == 2)) = true then (laws_FnWords.j0 k t206 true) else (if bt213.2 = true then ((impl_ShortBytes.f bt213.1).bind fun t216 => (laws_FnWords.j0 k t206 (t216.toList != t207.toList))) else (laws_FnWords.j0 k t206 false))) else (laws_FnWords.j0 k t206 true))) else (if (bt213.2 != ((t207.size : Int) == 2)) = true then (laws_FnWords.j0 k t206 true) else (if bt213.2 = true then ((impl_ShortBytes.f bt213.1).bind fun t217 => (laws_FnWords.j0 k t206 (t217.toList != t207.toList))) else (laws_FnWords.j0 k t206 false))))) else (laws_FnWords.j0 k t206 true)) else (laws_FnWords.j0 k t206 true))))))))) = some r := H
    have A4 := Aside0.mk A40
    clear A40
    replace H := Option.bind_eq_some_iff.mp H
    obtain ⟨t205, A50, H⟩ := H
    replace H : ((spec_DrawShortBytes.f k l0).bind fun t206 => ((spec_DrawReadShort.f k l0).bind fun t207 => ((impl_WordBytes.f k t204).bind fun t208 => ((impl_ReadWord.f k t208).bind fun bt209 => ((impl_ReadWord.f k t205).bind fun bt211 => ((impl_ReadShort.f t207).bind fun bt213 => (if bt209.1 = t204 then (if bt209.2 = true then (if (bt211.2 != ((t205.size : Int) == 8)) = true then (laws_FnWords.j0 k t206 true) else (if bt211.2 = true then ((impl_WordBytes.f k bt211.1).bind fun t215 => (if t215.toList = t205.toList then (if (bt213.2 != ((t207.size : Int) == 2)) = true then (laws_FnWords.j0 k t206 true) else (if bt213.2 = true then ((impl_ShortBytes.f bt213.1).bind fun t216 => (laws_FnWords.j0 k t206 (t216.toList != t207.toList))) else (laws_FnWords.j0 k t206 false))) else (laws_FnWords.j0 k t206 true))) else (if (bt213.2 != ((t207.size : Int) == 2)) = true then (laws_FnWords.j0 k t206 true) else (if bt213.2 = true then ((impl_ShortBytes.f bt213.1).bind fun t217 => (laws_FnWords.j0 k t206 (t217.toList != t207.toList))) else (laws_FnWords.j0 k t206 false))))) else (laws_FnWords.j0 k t206 true)) else (laws_FnWords.j0 k t206 true)))))))) = some r := H
    have A5 := Aside0.mk A50
    clear A50
    replace H := Option.bind_eq_some_iff.mp H
    obtain ⟨t206, A60, H⟩ := H
    replace H : ((spec_DrawReadShort.f k l0).bind fun t207 => ((impl_WordBytes.f k t204).bind fun t208 => ((impl_ReadWord.f k t208).bind fun bt209 => ((impl_ReadWord.f k t205).bind fun bt211 => ((impl_ReadShort.f t207).bind fun bt213 => (if bt209.1 = t204 then (if bt209.2 = true then (if (bt211.2 != ((t205.size : Int) == 8)) = true then (laws_FnWords.j0 k t206 true) else (if bt211.2 = true then ((impl_WordBytes.f k bt211.1).bind fun t215 => (if t215.toList = t205.toList then (if (bt213.2 != ((t207.size : Int) == 2)) = true then (laws_FnWords.j0 k t206 true) else (if bt213.2 = true then ((impl_ShortBytes.f bt213.1).bind fun t216 => (laws_FnWords.j0 k t206 (t216.toList != t207.toList))) else (laws_FnWords.j0 k t206 false))) else (laws_FnWords.j0 k t206 true))) else (if (bt213.2 != ((t207.size : Int) == 2)) = true then (laws_FnWords.j0 k t206 true) else (if bt213.2 = true then ((impl_ShortBytes.f bt213.1).bind fun t217 => (laws_FnWords.j0 k t206 (t217.toList != t207.toList))) else (laws_FnWords.j0 k t206 false))))) else (laws_FnWords.j0 k t206 true)) else (laws_FnWords.j0 k t206 true))))))) = some r := H
    have A6 := Aside0.mk A60
    clear A60
    replace H := Option.bind_eq_some_iff.mp H
    obtain ⟨t207, A70, H⟩ := H
    replace H : ((impl_WordBytes.f k t204).bind fun t208 => ((impl_ReadWord.f k t208).bind fun bt209 => ((impl_ReadWord.f k t205).bind fun bt211 => ((impl_ReadShort.f t207).bind fun bt213 => (if bt209.1 = t204 then (if bt209.2 = true then (if (bt211.2 != ((t205.size : Int) == 8)) = true then (laws_FnWords.j0 k t206 true) else (if bt211.2 = true then ((impl_WordBytes.f k bt211.1).bind fun t215 => (if t215.toList = t205.toList then (if (bt213.2 != ((t207.size : Int) == 2)) = true then (laws_FnWords.j0 k t206 true) else (if bt213.2 = true then ((impl_ShortBytes.f bt213.1).bind fun t216 => (laws_FnWords.j0 k t206 (t216.toList != t207.toList))) else (laws_FnWords.j0 k t206 false))) else (laws_FnWords.j0 k t206 true))) else (if (bt213.2 != ((t207.size : Int) == 2)) = true then (laws_FnWords.j0 k t206 true) else (if bt213.2 = true then ((impl_ShortBytes.f bt213.1).bind fun t217 => (laws_FnWords.j0 k t206 (t217.toList != t207.toList))) else (laws_FnWords.j0 k t206 false))))) else (laws_FnWords.j0 k t206 true)) else (laws_FnWords.j0 k t206 true)))))) = some r := H
    have A7 := Aside0.mk A70
    clear A70
    replace H := Option.bind_eq_some_iff.mp H
    obtain ⟨t208, A80, H⟩ := H
    replace H : ((impl_ReadWord.f k t208).bind fun bt209 => ((impl_ReadWord.f k t205).bind fun bt211 => ((impl_ReadShort.f t207).bind fun bt213 => (if bt209.1 = t204 then (if bt209.2 = true then (if (bt211.2 != ((t205.size : Int) == 8)) = true then (laws_FnWords.j0 k t206 true) else (if bt211.2 = true then ((impl_WordBytes.f k bt211.1).bind fun t215 => (if t215.toList = t205.toList then (if (bt213.2 != ((t207.size : Int) == 2)) = true then (laws_FnWords.j0 k t206 true) else (if bt213.2 = true then ((impl_ShortBytes.f bt213.1).bind fun t216 => (laws_FnWords.j0 k t206 (t216.toList != t207.toList))) else (laws_FnWords.j0 k t206 false))) else (laws_FnWords.j0 k t206 true))) else (if (bt213.2 != ((t207.size : Int) == 2)) = true then (laws_FnWords.j0 k t206 true) else (if bt213.2 = true then ((impl_ShortBytes.f bt213.1).bind fun t217 => (laws_FnWords.j0 k t206 (t217.toList != t207.toList))) else (laws_FnWords.j0 k t206 false))))) else (laws_FnWords.j0 k t206 true)) else (laws_FnWords.j0 k t206 true))))) = some r := H
    have A8 := Aside0.mk A80
    clear A80
    replace H := Option.bind_eq_some_iff.mp H
    obtain ⟨⟨t209, t210⟩, A90, H⟩ := H
    replace H : ((impl_ReadWord.f k t205).bind fun bt211 => ((impl_ReadShort.f t207).bind fun bt213 => (if t209 = t204 then (if t210 = true then (if (bt211.2 != ((t205.size : Int) == 8)) = true then (laws_FnWords.j0 k t206 true) else (if bt211.2 = true then ((impl_WordBytes.f k bt211.1).bind fun t215 => (if t215.toList = t205.toList then (if (bt213.2 != ((t207.size : Int) == 2)) = true then (laws_FnWords.j0 k t206 true) else (if bt213.2 = true then ((impl_ShortBytes.f bt213.1).bind fun t216 => (laws_FnWords.j0 k t206 (t216.toList != t207.toList))) else (laws_FnWords.j0 k t206 false))) else (laws_FnWords.j0 k t206 true))) else (if (bt213.2 != ((t207.size : Int) == 2)) = true then (laws_FnWords.j0 k t206 true) else (if bt213.2 = true then ((impl_ShortBytes.f bt213.1).bind fun t217 => (laws_FnWords.j0 k t206 (t217.toList != t207.toList))) else (laws_FnWords.j0 k t206 false))))) else (laws_FnWords.j0 k t206 true)) else (laws_FnWords.j0 k t206 true)))) = some r := H
    have A9 := Aside0.mk A90
    clear A90
    replace H := Option.bind_eq_some_iff.mp H
    obtain ⟨⟨t211, t212⟩, A100, H⟩ := H
    replace H : ((impl_ReadShort.f t207).bind fun bt213 => (if t209 = t204 then (if t210 = true then (if (t212 != ((t205.size : Int) == 8)) = true then (laws_FnWords.j0 k t206 true) else (if t212 = true then ((impl_WordBytes.f k t211).bind fun t215 => (if t215.toList = t205.toList then (if (bt213.2 != ((t207.size : Int) == 2)) = true then (laws_FnWords.j0 k t206 true) else (if bt213.2 = true then ((impl_ShortBytes.f bt213.1).bind fun t216 => (laws_FnWords.j0 k t206 (t216.toList != t207.toList))) else (laws_FnWords.j0 k t206 false))) else (laws_FnWords.j0 k t206 true))) else (if (bt213.2 != ((t207.size : Int) == 2)) = true then (laws_FnWords.j0 k t206 true) else (if bt213.2 = true then ((impl_ShortBytes.f bt213.1).bind fun t217 => (laws_FnWords.j0 k t206 (t217.toList != t207.toList))) else (laws_FnWords.j0 k t206 false))))) else (laws_FnWords.j0 k t206 true)) else (laws_FnWords.j0 k t206 true))) = some r := H
    have A10 := Aside0.mk A100
    clear A100
    replace H := Option.bind_eq_some_iff.mp H
    obtain ⟨⟨t213, t214⟩, A110, H⟩ := H
    replace H : (if t209 = t204 then (if t210 = true then (if (t212 != ((t205.size : Int) == 8)) = true then (laws_FnWords.j0 k t206 true) else (if t212 = true then ((impl_WordBytes.f k t211).bind fun t215 => (if t215.toList = t205.toList then (if (t214 != ((t207.size : Int) == 2)) = true then (laws_FnWords.j0 k t206 true) else (if t214 = true then ((impl_ShortBytes.f t213).bind fun t216 => (laws_FnWords.j0 k t206 (t216.toList != t207.toList))) else (laws_FnWords.j0 k t206 false))) else (laws_FnWords.j0 k t206 true))) else (if (t214 != ((t207.size : Int) == 2)) = true then (laws_FnWords.j0 k t206 true) else (if t214 = true then ((impl_ShortBytes.f t213).bind fun t217 => (laws_FnWords.j0 k t206 (t217.toList != t207.toList))) else (laws_FnWords.j0 k t206 false))))) else (laws_FnWords.j0 k t206 true)) else (laws_FnWords.j0 k t206 true)) = some r := H
    have A11 := Aside0.mk A110
    clear A110
    have HC12 := Aside0.mk H
    clear H
    go_enter Try.func6, Try.ntmps6
    go_upto_region 10 with (first | ((with_reducible refine gate_callee (f := 8) rfl ?_); refine goesL_ (some 17) rfl rfl Try.func8 (by kernel_rfl) rfl #[.slice A0 l0.length c0] rfl (by (try simp only [List.map_toArray, List.map_cons, List.map_nil]); first | done | rfl | (simp only [List.length_drop, List.length_take]; rfl)) ?_; (with_reducible refine (laws_big.calls _ _ l0 false _ ?side1 ?side2 A2.out).mono ?_); (case side1 => repeat (first | exact HR0.out | (with_reducible refine Kd.C_alloc ?_ _) | (with_reducible refine Kd.C_drewN ?_ _) | (with_reducible refine Kd.C_drew ?_))); (case side2 => exact HC0.out); rintro e w' ⟨rfl, ⟨nd, rfl⟩⟩; refine ⟨_, rfl, ?_⟩) | ((with_reducible refine gate_callee (f := 9) rfl ?_); refine goesL_ (some 19) rfl rfl Try.func9 (by kernel_rfl) rfl #[.slice A0 l0.length c0] rfl (by (try simp only [List.map_toArray, List.map_cons, List.map_nil]); first | done | rfl | (simp only [List.length_drop, List.length_take]; rfl)) ?_; (with_reducible refine (spec_DrawWordBytes.calls k _ _ l0 t204 _ ?side1 ?side2 A4.out).mono ?_); (case side1 => repeat (first | exact HR0.out | (with_reducible refine Kd.C_alloc ?_ _) | (with_reducible refine Kd.C_drewN ?_ _) | (with_reducible refine Kd.C_drew ?_))); (case side2 => exact HC0.out); rintro e w13 ⟨rfl, hb⟩; refine ⟨_, rfl, ?_⟩; have n0_ := Aside0.mk (below_step (by repeat (first | (with_reducible first | exact HB.out | apply below_alloc | apply pw_below_drewN | apply below_drew1) | exact HB.out)) hb); clear HB; have HB := n0_; clear n0_; (try clear hb); (try clear hb2); (try clear hk); (try clear hi)) | ((with_reducible refine gate_callee (f := 25) rfl ?_); refine goesL_ (some 21) rfl rfl Try.func25 (by kernel_rfl) rfl #[.slice A0 l0.length c0] rfl (by (try simp only [List.map_toArray, List.map_cons, List.map_nil]); first | done | rfl | (simp only [List.length_drop, List.length_take]; rfl)) ?_; (with_reducible refine (spec_DrawReadWord.calls k _ _ l0 t205 _ ?side1 ?side2 A5.out).mono ?_); (case side1 => repeat (first | exact (Kd.C_below HR0.out HB.out) | (with_reducible refine Kd.C_alloc ?_ _) | (with_reducible refine Kd.C_drewN ?_ _) | (with_reducible refine Kd.C_drew ?_))); (case side2 => exact HC0.out); rintro e w14 ⟨rfl, hb⟩; refine ⟨_, rfl, ?_⟩; have n0_ := Aside0.mk (below_step (by repeat (first | (with_reducible first | exact HB.out | apply below_alloc | apply pw_below_drewN | apply below_drew1) | exact HB.out)) hb); clear HB; have HB := n0_; clear n0_; (try clear hb); (try clear hb2); (try clear hk); (try clear hi)) | ((with_reducible refine gate_callee (f := 26) rfl ?_); refine goesL_ (some 23) rfl rfl Try.func26 (by kernel_rfl) rfl #[.slice A0 l0.length c0] rfl (by (try simp only [List.map_toArray, List.map_cons, List.map_nil]); first | done | rfl | (simp only [List.length_drop, List.length_take]; rfl)) ?_; (with_reducible refine (spec_DrawShortBytes.calls k _ _ l0 t206 _ ?side1 ?side2 A6.out).mono ?_); (case side1 => repeat (first | exact (Kd.C_below HR0.out HB.out) | (with_reducible refine Kd.C_alloc ?_ _) | (with_reducible refine Kd.C_drewN ?_ _) | (with_reducible refine Kd.C_drew ?_))); (case side2 => exact HC0.out); rintro e w15 ⟨rfl, hb⟩; refine ⟨_, rfl, ?_⟩; have n0_ := Aside0.mk (below_step (by repeat (first | (with_reducible first | exact HB.out | apply below_alloc | apply pw_below_drewN | apply below_drew1) | exact HB.out)) hb); clear HB; have HB := n0_; clear n0_; (try clear hb); (try clear hb2); (try clear hk); (try clear hi)) | ((with_reducible refine gate_callee (f := 27) rfl ?_); refine goesL_ (some 25) rfl rfl Try.func27 (by kernel_rfl) rfl #[.slice A0 l0.length c0] rfl (by (try simp only [List.map_toArray, List.map_cons, List.map_nil]); first | done | rfl | (simp only [List.length_drop, List.length_take]; rfl)) ?_; (with_reducible refine (spec_DrawReadShort.calls k _ _ l0 t207 _ ?side1 ?side2 A7.out).mono ?_); (case side1 => repeat (first | exact (Kd.C_below HR0.out HB.out) | (with_reducible refine Kd.C_alloc ?_ _) | (with_reducible refine Kd.C_drewN ?_ _) | (with_reducible refine Kd.C_drew ?_))); (case side2 => exact HC0.out); rintro e w16 ⟨rfl, hb⟩; refine ⟨_, rfl, ?_⟩; have n0_ := Aside0.mk (below_step (by repeat (first | (with_reducible first | exact HB.out | apply below_alloc | apply pw_below_drewN | apply below_drew1) | exact HB.out)) hb); clear HB; have HB := n0_; clear n0_; (try clear hb); (try clear hb2); (try clear hk); (try clear hi)) | ((with_reducible refine gate_callee (f := 10) rfl ?_); refine goesL_ (some 28) rfl rfl Try.func10 (by kernel_rfl) rfl #[.int .i64 t204] rfl (by (try simp only [List.map_toArray, List.map_cons, List.map_nil]); first | done | rfl | (simp only [List.length_drop, List.length_take]; rfl)) ?_; (with_reducible refine (impl_WordBytes.calls k t204 t208 _ A8.out).mono ?_); rintro e w17 ⟨rfl, hb⟩; refine ⟨_, rfl, ?_⟩; have n0_ := Aside0.mk (below_step (by repeat (first | (with_reducible first | exact HB.out | apply below_alloc | apply pw_below_drewN | apply below_drew1) | exact HB.out)) hb); clear HB; have HB := n0_; clear n0_; (try clear hb); (try clear hb2); (try clear hk); (try clear hi)) | ((with_reducible refine gate_callee (f := 28) rfl ?_); refine goesL_ (some 29) rfl rfl Try.func28 (by kernel_rfl) rfl #[.string t208] rfl (by (try simp only [List.map_toArray, List.map_cons, List.map_nil]); first | done | rfl | (simp only [List.length_drop, List.length_take]; rfl)) ?_; (with_reducible refine (impl_ReadWord.calls k t208 t209 t210 _ A9.out).mono ?_); rintro e w' ⟨rfl, ⟨nd, rfl⟩⟩; refine ⟨_, rfl, ?_⟩) | ((with_reducible refine gate_callee (f := 28) rfl ?_); refine goesL_ (some 34) rfl rfl Try.func28 (by kernel_rfl) rfl #[.string t205] rfl (by (try simp only [List.map_toArray, List.map_cons, List.map_nil]); first | done | rfl | (simp only [List.length_drop, List.length_take]; rfl)) ?_; (with_reducible refine (impl_ReadWord.calls k t205 t211 t212 _ A10.out).mono ?_); rintro e w' ⟨rfl, ⟨nd, rfl⟩⟩; refine ⟨_, rfl, ?_⟩) | ((with_reducible refine gate_callee (f := 29) rfl ?_); refine goesL_ (some 39) rfl rfl Try.func29 (by kernel_rfl) rfl #[.string t207] rfl (by (try simp only [List.map_toArray, List.map_cons, List.map_nil]); first | done | rfl | (simp only [List.length_drop, List.length_take]; rfl)) ?_; (with_reducible refine (impl_ReadShort.calls t207 t213 t214 _ A11.out).mono ?_); rintro e w' ⟨rfl, ⟨nd, rfl⟩⟩; refine ⟨_, rfl, ?_⟩))
    (try simp only [Act.put, List.setIfInBounds_toArray, List.set_cons_zero, List.set_cons_succ])
    go_cut [80] (fun v80 wc => ∃ (kq : Nat) (x80_11 : Bool), v80 = .bool x80_11 ∧ Aside0 (laws_FnWords.j0 kq t206 x80_11 = some r) ∧ Aside0 (kq ≤ k) ∧ Aside0 (Below w.heap.size w wc))
    case first =>
      have H := HC12.out
      clear HC12
      by_cases c18 : t209 = t204
      · rw [if_pos c18] at H
        have c18b0 : (t209 == t204) = true := beq_iff_eq.mpr c18
        have c18b1 : (t209 != t204) = false := bne_eq_false_iff_eq.mpr c18
        clear c18
        (first | rw [c18b0] | (simp only [i64_w, i32_w]; rw [c18b0]) | skip)
        by_cases c19 : t210 = true
        · subst c19
          have H1 : (if (t212 != ((t205.size : Int) == 8)) = true then (laws_FnWords.j0 k t206 true) else (if t212 = true then ((impl_WordBytes.f k t211).bind fun t215 => (if t215.toList = t205.toList then (if (t214 != ((t207.size : Int) == 2)) = true then (laws_FnWords.j0 k t206 true) else (if t214 = true then ((impl_ShortBytes.f t213).bind fun t216 => (laws_FnWords.j0 k t206 (t216.toList != t207.toList))) else (laws_FnWords.j0 k t206 false))) else (laws_FnWords.j0 k t206 true))) else (if (t214 != ((t207.size : Int) == 2)) = true then (laws_FnWords.j0 k t206 true) else (if t214 = true then ((impl_ShortBytes.f t213).bind fun t217 => (laws_FnWords.j0 k t206 (t217.toList != t207.toList))) else (laws_FnWords.j0 k t206 false))))) = some r := by rw [if_pos rfl] at H; exact H
          clear H
          have H := H1
          clear H1
          by_cases c20 : (t212 != ((t205.size : Int) == 8)) = true
          · rw [if_pos c20] at H
            have c20b0 : (t212 != ((t205.size : Int) == 8)) = true := c20
            (try (have c20b1 : decide (t212 = ((t205.size : Int) == 8)) = false := by simpa using c20))
            (try (have c20b2 : (t212 == ((t205.size : Int) == 8)) = false := by simpa using c20))
            (try (have c20b3 : ¬ (t212 = ((t205.size : Int) == 8)) := by simpa using c20))
            clear c20
            have H' := Aside0.mk H
            clear H
            go_wp2
            go_meet
            case rel => exact ⟨_, (true), (by first | rfl | (simp; done) | (simp [*]; done)), H', ⟨by first | omega | exact Nat.le_refl _⟩, ⟨by repeat (first | (with_reducible first | exact HB.out | apply below_alloc | apply pw_below_drewN | apply below_drew1) | exact HB.out)⟩⟩
          · rw [if_neg c20] at H
            have c20b0 : (t212 != ((t205.size : Int) == 8)) = false := by simpa using c20
            (try (have c20b1 : decide (t212 = ((t205.size : Int) == 8)) = true := by simpa using c20))
            (try (have c20b2 : (t212 == ((t205.size : Int) == 8)) = true := by simpa using c20))
            clear c20
            by_cases c21 : t212 = true
            · subst c21
              have H1 : ((impl_WordBytes.f k t211).bind fun t215 => (if t215.toList = t205.toList then (if (t214 != ((t207.size : Int) == 2)) = true then (laws_FnWords.j0 k t206 true) else (if t214 = true then ((impl_ShortBytes.f t213).bind fun t216 => (laws_FnWords.j0 k t206 (t216.toList != t207.toList))) else (laws_FnWords.j0 k t206 false))) else (laws_FnWords.j0 k t206 true))) = some r := by rw [if_pos rfl] at H; exact H
              clear H
              have H := H1
              clear H1
              replace H := Option.bind_eq_some_iff.mp H
              obtain ⟨t215, A220, H⟩ := H
              replace H : (if t215.toList = t205.toList then (if (t214 != ((t207.size : Int) == 2)) = true then (laws_FnWords.j0 k t206 true) else (if t214 = true then ((impl_ShortBytes.f t213).bind fun t216 => (laws_FnWords.j0 k t206 (t216.toList != t207.toList))) else (laws_FnWords.j0 k t206 false))) else (laws_FnWords.j0 k t206 true)) = some r := H
              have A22 := Aside0.mk A220
              clear A220
              by_cases c23 : t215.toList = t205.toList
              · rw [if_pos c23] at H
                have c23b0 : (t215.toList == t205.toList) = true := beq_iff_eq.mpr c23
                have c23b1 : (t215.toList != t205.toList) = false := bne_eq_false_iff_eq.mpr c23
                clear c23
                by_cases c24 : (t214 != ((t207.size : Int) == 2)) = true
                · rw [if_pos c24] at H
                  have c24b0 : (t214 != ((t207.size : Int) == 2)) = true := c24
                  (try (have c24b1 : decide (t214 = ((t207.size : Int) == 2)) = false := by simpa using c24))
                  (try (have c24b2 : (t214 == ((t207.size : Int) == 2)) = false := by simpa using c24))
                  (try (have c24b3 : ¬ (t214 = ((t207.size : Int) == 2)) := by simpa using c24))
                  clear c24
                  have H' := Aside0.mk H
                  clear H
                  go_wp2_with (first | (go_at_call 10; (with_reducible refine (impl_WordBytes.calls k t211 t215 _ A22.out).mono ?_); rintro e w25 ⟨rfl, hb⟩; have n0_ := Aside0.mk (below_step (by repeat (first | (with_reducible first | exact HB.out | apply below_alloc | apply pw_below_drewN | apply below_drew1) | exact HB.out)) hb); clear HB; have HB := n0_; clear n0_; (try clear hb); (try clear hb2); (try clear hk); (try clear hi)))
                  go_meet
                  case rel => exact ⟨_, (true), (by first | rfl | (simp; done) | (simp [*]; done)), H', ⟨by first | omega | exact Nat.le_refl _⟩, ⟨by repeat (first | (with_reducible first | exact HB.out | apply below_alloc | apply pw_below_drewN | apply below_drew1) | exact HB.out)⟩⟩
                · rw [if_neg c24] at H
                  have c24b0 : (t214 != ((t207.size : Int) == 2)) = false := by simpa using c24
                  (try (have c24b1 : decide (t214 = ((t207.size : Int) == 2)) = true := by simpa using c24))
                  (try (have c24b2 : (t214 == ((t207.size : Int) == 2)) = true := by simpa using c24))
                  clear c24
                  by_cases c26 : t214 = true
                  · subst c26
                    have H1 : ((impl_ShortBytes.f t213).bind fun t216 => (laws_FnWords.j0 k t206 (t216.toList != t207.toList))) = some r := by rw [if_pos rfl] at H; exact H
                    clear H
                    have H := H1
                    clear H1
                    replace H := Option.bind_eq_some_iff.mp H
                    obtain ⟨t216, A270, H⟩ := H
                    replace H : (laws_FnWords.j0 k t206 (t216.toList != t207.toList)) = some r := H
                    have A27 := Aside0.mk A270
                    clear A270
                    have H' := Aside0.mk H
                    clear H
                    go_wp2_with (first | (go_at_call 10; (with_reducible refine (impl_WordBytes.calls k t211 t215 _ A22.out).mono ?_); rintro e w28 ⟨rfl, hb⟩; have n0_ := Aside0.mk (below_step (by repeat (first | (with_reducible first | exact HB.out | apply below_alloc | apply pw_below_drewN | apply below_drew1) | exact HB.out)) hb); clear HB; have HB := n0_; clear n0_; (try clear hb); (try clear hb2); (try clear hk); (try clear hi)) | (go_at_call 30; (with_reducible refine (impl_ShortBytes.calls t213 t216 _ A27.out).mono ?_); rintro e w29 ⟨rfl, hb⟩; have n0_ := Aside0.mk (below_step (by repeat (first | (with_reducible first | exact HB.out | apply below_alloc | apply pw_below_drewN | apply below_drew1) | exact HB.out)) hb); clear HB; have HB := n0_; clear n0_; (try clear hb); (try clear hb2); (try clear hk); (try clear hi)))
                    go_meet
                    case rel => exact ⟨_, ((t216.toList != t207.toList)), (by first | rfl | (simp; done) | (simp [*]; done)), H', ⟨by first | omega | exact Nat.le_refl _⟩, ⟨by repeat (first | (with_reducible first | exact HB.out | apply below_alloc | apply pw_below_drewN | apply below_drew1) | exact HB.out)⟩⟩
                  · replace c26 := Bool.eq_false_iff.mpr c26
                    subst c26
                    have H1 : (laws_FnWords.j0 k t206 false) = some r := by rw [if_neg (show ¬ (false = true) by decide)] at H; exact H
                    clear H
                    have H := H1
                    clear H1
                    have H' := Aside0.mk H
                    clear H
                    go_wp2_with (first | (go_at_call 10; (with_reducible refine (impl_WordBytes.calls k t211 t215 _ A22.out).mono ?_); rintro e w30 ⟨rfl, hb⟩; have n0_ := Aside0.mk (below_step (by repeat (first | (with_reducible first | exact HB.out | apply below_alloc | apply pw_below_drewN | apply below_drew1) | exact HB.out)) hb); clear HB; have HB := n0_; clear n0_; (try clear hb); (try clear hb2); (try clear hk); (try clear hi)))
                    go_meet
                    case rel => exact ⟨_, (false), (by first | rfl | (simp; done) | (simp [*]; done)), H', ⟨by first | omega | exact Nat.le_refl _⟩, ⟨by repeat (first | (with_reducible first | exact HB.out | apply below_alloc | apply pw_below_drewN | apply below_drew1) | exact HB.out)⟩⟩
              · rw [if_neg c23] at H
                have c23b0 : (t215.toList == t205.toList) = false := beq_eq_false_iff_ne.mpr c23
                have c23b1 : (t215.toList != t205.toList) = true := bne_iff_ne.mpr c23
                have H' := Aside0.mk H
                clear H
                go_wp2_with (first | (go_at_call 10; (with_reducible refine (impl_WordBytes.calls k t211 t215 _ A22.out).mono ?_); rintro e w31 ⟨rfl, hb⟩; have n0_ := Aside0.mk (below_step (by repeat (first | (with_reducible first | exact HB.out | apply below_alloc | apply pw_below_drewN | apply below_drew1) | exact HB.out)) hb); clear HB; have HB := n0_; clear n0_; (try clear hb); (try clear hb2); (try clear hk); (try clear hi)))
                go_meet
                case rel => exact ⟨_, (true), (by first | rfl | (simp; done) | (simp [*]; done)), H', ⟨by first | omega | exact Nat.le_refl _⟩, ⟨by repeat (first | (with_reducible first | exact HB.out | apply below_alloc | apply pw_below_drewN | apply below_drew1) | exact HB.out)⟩⟩
            · replace c21 := Bool.eq_false_iff.mpr c21
              subst c21
              have H1 : (if (t214 != ((t207.size : Int) == 2)) = true then (laws_FnWords.j0 k t206 true) else (if t214 = true then ((impl_ShortBytes.f t213).bind fun t217 => (laws_FnWords.j0 k t206 (t217.toList != t207.toList))) else (laws_FnWords.j0 k t206 false))) = some r := by rw [if_neg (show ¬ (false = true) by decide)] at H; exact H
              clear H
              have H := H1
              clear H1
              by_cases c32 : (t214 != ((t207.size : Int) == 2)) = true
              · rw [if_pos c32] at H
                have c32b0 : (t214 != ((t207.size : Int) == 2)) = true := c32
                (try (have c32b1 : decide (t214 = ((t207.size : Int) == 2)) = false := by simpa using c32))
                (try (have c32b2 : (t214 == ((t207.size : Int) == 2)) = false := by simpa using c32))
                (try (have c32b3 : ¬ (t214 = ((t207.size : Int) == 2)) := by simpa using c32))
                clear c32
                have H' := Aside0.mk H
                clear H
                go_wp2
                go_meet
                case rel => exact ⟨_, (true), (by first | rfl | (simp; done) | (simp [*]; done)), H', ⟨by first | omega | exact Nat.le_refl _⟩, ⟨by repeat (first | (with_reducible first | exact HB.out | apply below_alloc | apply pw_below_drewN | apply below_drew1) | exact HB.out)⟩⟩
              · rw [if_neg c32] at H
                have c32b0 : (t214 != ((t207.size : Int) == 2)) = false := by simpa using c32
                (try (have c32b1 : decide (t214 = ((t207.size : Int) == 2)) = true := by simpa using c32))
                (try (have c32b2 : (t214 == ((t207.size : Int) == 2)) = true := by simpa using c32))
                clear c32
                by_cases c33 : t214 = true
                · subst c33
                  have H1 : ((impl_ShortBytes.f t213).bind fun t217 => (laws_FnWords.j0 k t206 (t217.toList != t207.toList))) = some r := by rw [if_pos rfl] at H; exact H
                  clear H
                  have H := H1
                  clear H1
                  replace H := Option.bind_eq_some_iff.mp H
                  obtain ⟨t217, A340, H⟩ := H
                  replace H : (laws_FnWords.j0 k t206 (t217.toList != t207.toList)) = some r := H
                  have A34 := Aside0.mk A340
                  clear A340
                  have H' := Aside0.mk H
                  clear H
                  go_wp2_with (first | (go_at_call 30; (with_reducible refine (impl_ShortBytes.calls t213 t217 _ A34.out).mono ?_); rintro e w35 ⟨rfl, hb⟩; have n0_ := Aside0.mk (below_step (by repeat (first | (with_reducible first | exact HB.out | apply below_alloc | apply pw_below_drewN | apply below_drew1) | exact HB.out)) hb); clear HB; have HB := n0_; clear n0_; (try clear hb); (try clear hb2); (try clear hk); (try clear hi)))
                  go_meet
                  case rel => exact ⟨_, ((t217.toList != t207.toList)), (by first | rfl | (simp; done) | (simp [*]; done)), H', ⟨by first | omega | exact Nat.le_refl _⟩, ⟨by repeat (first | (with_reducible first | exact HB.out | apply below_alloc | apply pw_below_drewN | apply below_drew1) | exact HB.out)⟩⟩
                · replace c33 := Bool.eq_false_iff.mpr c33
                  subst c33
                  have H1 : (laws_FnWords.j0 k t206 false) = some r := by rw [if_neg (show ¬ (false = true) by decide)] at H; exact H
                  clear H
                  have H := H1
                  clear H1
                  have H' := Aside0.mk H
                  clear H
                  go_wp2
                  go_meet
                  case rel => exact ⟨_, (false), (by first | rfl | (simp; done) | (simp [*]; done)), H', ⟨by first | omega | exact Nat.le_refl _⟩, ⟨by repeat (first | (with_reducible first | exact HB.out | apply below_alloc | apply pw_below_drewN | apply below_drew1) | exact HB.out)⟩⟩
        · replace c19 := Bool.eq_false_iff.mpr c19
          subst c19
          have H1 : (laws_FnWords.j0 k t206 true) = some r := by rw [if_neg (show ¬ (false = true) by decide)] at H; exact H
          clear H
          have H := H1
          clear H1
          have H' := Aside0.mk H
          clear H
          go_wp2
          go_meet
          case rel => exact ⟨_, (true), (by first | rfl | (simp; done) | (simp [*]; done)), H', ⟨by first | omega | exact Nat.le_refl _⟩, ⟨by repeat (first | (with_reducible first | exact HB.out | apply below_alloc | apply pw_below_drewN | apply below_drew1) | exact HB.out)⟩⟩
      · rw [if_neg c18] at H
        have c18b0 : (t209 == t204) = false := beq_eq_false_iff_ne.mpr c18
        have c18b1 : (t209 != t204) = true := bne_iff_ne.mpr c18
        (first | rw [c18b0] | (simp only [i64_w, i32_w]; rw [c18b0]) | skip)
        have H' := Aside0.mk H
        clear H
        go_wp2
        go_meet
        case rel => exact ⟨_, (true), (by first | rfl | (simp; done) | (simp [*]; done)), H', ⟨by first | omega | exact Nat.le_refl _⟩, ⟨by repeat (first | (with_reducible first | exact HB.out | apply below_alloc | apply pw_below_drewN | apply below_drew1) | exact HB.out)⟩⟩
    case rest =>
      clear HC12
      try clear c1
      try clear c2
      try clear p2
      try clear c3
      try clear c6
      try clear c8
      try clear c9
      try clear c10
      try clear c18
      try clear c18b0
      try clear c18b1
      try clear c19
      try clear c20
      try clear c20b0
      try clear c20b1
      try clear c20b2
      try clear c21
      try clear c23
      try clear c23b0
      try clear c23b1
      try clear c24
      try clear c24b0
      try clear c24b1
      try clear c24b2
      try clear c25
      try clear c26
      try clear c27
      try clear c28
      try clear c29
      try clear c32
      try clear c32b0
      try clear c32b1
      try clear c32b2
      try clear c33
      obtain ⟨kq, x80_11, rfl, HA, HJ11, HB⟩ := hcut
      cases kq with
      | zero => exact absurd HA.out (by simp [laws_FnWords.j0])
      | succ kj11 =>
        have H := HA.out
        clear HA
        simp only [laws_FnWords.j0] at H
        by_cases c36 : x80_11 = true
        · subst c36
          have H1 : (some false) = some r := by rw [if_pos rfl] at H; exact H
          clear H
          have H := H1
          clear H1
          obtain rfl := Option.some.inj H
          go_wp2
          go_ret
          exact ⟨by first | rfl | (simp [errW_none, errW_some] <;> rfl) | (simp [*, errW_none, errW_some] <;> rfl), by repeat (first | (with_reducible first | exact HB.out | apply below_alloc | apply pw_below_drewN | apply below_drew1) | exact HB.out)⟩
        · replace c36 := Bool.eq_false_iff.mpr c36
          subst c36
          have H1 : ((impl_ShortBytes.f t206).bind fun t218 => ((impl_ReadShort.f t218).bind fun bt219 => (if t206 ≥ 0 then (if (bt219.2 == (decide (t206 ≤ 65535))) = true then (if bt219.2 = true then (some (bt219.1 == t206)) else (some true)) else (some false)) else (if (bt219.2 == false) = true then (if bt219.2 = true then (some (bt219.1 == t206)) else (some true)) else (some false))))) = some r := by rw [if_neg (show ¬ (false = true) by decide)] at H; exact H
          clear H
          have H := H1
          clear H1
          replace H := Option.bind_eq_some_iff.mp H
          obtain ⟨t218, A370, H⟩ := H
          replace H : ((impl_ReadShort.f t218).bind fun bt219 => (if t206 ≥ 0 then (if (bt219.2 == (decide (t206 ≤ 65535))) = true then (if bt219.2 = true then (some (bt219.1 == t206)) else (some true)) else (some false)) else (if (bt219.2 == false) = true then (if bt219.2 = true then (some (bt219.1 == t206)) else (some true)) else (some false)))) = some r := H
          have A37 := Aside0.mk A370
          clear A370
          replace H := Option.bind_eq_some_iff.mp H
          obtain ⟨⟨t219, t220⟩, A380, H⟩ := H
          replace H : (if t206 ≥ 0 then (if (t220 == (decide (t206 ≤ 65535))) = true then (if t220 = true then (some (t219 == t206)) else (some true)) else (some false)) else (if (t220 == false) = true then (if t220 = true then (some (t219 == t206)) else (some true)) else (some false))) = some r := H
          have A38 := Aside0.mk A380
          clear A380
          by_cases c39 : t206 ≥ 0
          · rw [if_pos c39] at H
            have c39b0 : decide (0 ≤ t206) = true := decide_eq_true c39
            clear c39
            by_cases c40 : (t220 == (decide (t206 ≤ 65535))) = true
            · rw [if_pos c40] at H
              have c40b0 : (t220 == (decide (t206 ≤ 65535))) = true := c40
              (try (have c40b1 : decide (t220 = (decide (t206 ≤ 65535))) = true := by simpa using c40))
              (try (have c40b2 : (t220 == (decide (t206 ≤ 65535))) = true := by simpa using c40))
              clear c40
              by_cases c41 : t220 = true
              · subst c41
                have H1 : (some (t219 == t206)) = some r := by rw [if_pos rfl] at H; exact H
                clear H
                have H := H1
                clear H1
                obtain rfl := Option.some.inj H
                go_wp2_with (first | ((with_reducible refine gate_callee (f := 30) rfl ?_); refine goesL_ (some 82) rfl rfl Try.func30 (by kernel_rfl) rfl #[.int .i64 t206] rfl (by (try simp only [List.map_toArray, List.map_cons, List.map_nil]); first | done | rfl | (simp only [List.length_drop, List.length_take]; rfl)) ?_; (with_reducible refine (impl_ShortBytes.calls t206 t218 _ A37.out).mono ?_); rintro e w42 ⟨rfl, hb⟩; refine ⟨_, rfl, ?_⟩; have n0_ := Aside0.mk (below_step (by repeat (first | (with_reducible first | exact HB.out | apply below_alloc | apply pw_below_drewN | apply below_drew1) | exact HB.out)) hb); clear HB; have HB := n0_; clear n0_; (try clear hb); (try clear hb2); (try clear hk); (try clear hi)) | ((with_reducible refine gate_callee (f := 29) rfl ?_); refine goesL_ (some 85) rfl rfl Try.func29 (by kernel_rfl) rfl #[.string t218] rfl (by (try simp only [List.map_toArray, List.map_cons, List.map_nil]); first | done | rfl | (simp only [List.length_drop, List.length_take]; rfl)) ?_; (with_reducible refine (impl_ReadShort.calls t218 t219 true _ A38.out).mono ?_); rintro e w' ⟨rfl, ⟨nd, rfl⟩⟩; refine ⟨_, rfl, ?_⟩))
                go_ret
                exact ⟨by first | rfl | (simp [errW_none, errW_some] <;> rfl) | (simp [*, errW_none, errW_some] <;> rfl), by repeat (first | (with_reducible first | exact HB.out | apply below_alloc | apply pw_below_drewN | apply below_drew1) | exact HB.out)⟩
              · replace c41 := Bool.eq_false_iff.mpr c41
                subst c41
                have H1 : (some true) = some r := by rw [if_neg (show ¬ (false = true) by decide)] at H; exact H
                clear H
                have H := H1
                clear H1
                obtain rfl := Option.some.inj H
                go_wp2_with (first | ((with_reducible refine gate_callee (f := 30) rfl ?_); refine goesL_ (some 82) rfl rfl Try.func30 (by kernel_rfl) rfl #[.int .i64 t206] rfl (by (try simp only [List.map_toArray, List.map_cons, List.map_nil]); first | done | rfl | (simp only [List.length_drop, List.length_take]; rfl)) ?_; (with_reducible refine (impl_ShortBytes.calls t206 t218 _ A37.out).mono ?_); rintro e w43 ⟨rfl, hb⟩; refine ⟨_, rfl, ?_⟩; have n0_ := Aside0.mk (below_step (by repeat (first | (with_reducible first | exact HB.out | apply below_alloc | apply pw_below_drewN | apply below_drew1) | exact HB.out)) hb); clear HB; have HB := n0_; clear n0_; (try clear hb); (try clear hb2); (try clear hk); (try clear hi)) | ((with_reducible refine gate_callee (f := 29) rfl ?_); refine goesL_ (some 85) rfl rfl Try.func29 (by kernel_rfl) rfl #[.string t218] rfl (by (try simp only [List.map_toArray, List.map_cons, List.map_nil]); first | done | rfl | (simp only [List.length_drop, List.length_take]; rfl)) ?_; (with_reducible refine (impl_ReadShort.calls t218 t219 false _ A38.out).mono ?_); rintro e w' ⟨rfl, ⟨nd, rfl⟩⟩; refine ⟨_, rfl, ?_⟩))
                go_ret
                exact ⟨by first | rfl | (simp [errW_none, errW_some] <;> rfl) | (simp [*, errW_none, errW_some] <;> rfl), by repeat (first | (with_reducible first | exact HB.out | apply below_alloc | apply pw_below_drewN | apply below_drew1) | exact HB.out)⟩
            · rw [if_neg c40] at H
              have c40b0 : (t220 == (decide (t206 ≤ 65535))) = false := by simpa using c40
              (try (have c40b1 : decide (t220 = (decide (t206 ≤ 65535))) = false := by simpa using c40))
              (try (have c40b2 : (t220 == (decide (t206 ≤ 65535))) = false := by simpa using c40))
              (try (have c40b3 : ¬ (t220 = (decide (t206 ≤ 65535))) := by simpa using c40))
              clear c40
              obtain rfl := Option.some.inj H
              go_wp2_with (first | ((with_reducible refine gate_callee (f := 30) rfl ?_); refine goesL_ (some 82) rfl rfl Try.func30 (by kernel_rfl) rfl #[.int .i64 t206] rfl (by (try simp only [List.map_toArray, List.map_cons, List.map_nil]); first | done | rfl | (simp only [List.length_drop, List.length_take]; rfl)) ?_; (with_reducible refine (impl_ShortBytes.calls t206 t218 _ A37.out).mono ?_); rintro e w44 ⟨rfl, hb⟩; refine ⟨_, rfl, ?_⟩; have n0_ := Aside0.mk (below_step (by repeat (first | (with_reducible first | exact HB.out | apply below_alloc | apply pw_below_drewN | apply below_drew1) | exact HB.out)) hb); clear HB; have HB := n0_; clear n0_; (try clear hb); (try clear hb2); (try clear hk); (try clear hi)) | ((with_reducible refine gate_callee (f := 29) rfl ?_); refine goesL_ (some 85) rfl rfl Try.func29 (by kernel_rfl) rfl #[.string t218] rfl (by (try simp only [List.map_toArray, List.map_cons, List.map_nil]); first | done | rfl | (simp only [List.length_drop, List.length_take]; rfl)) ?_; (with_reducible refine (impl_ReadShort.calls t218 t219 t220 _ A38.out).mono ?_); rintro e w' ⟨rfl, ⟨nd, rfl⟩⟩; refine ⟨_, rfl, ?_⟩))
              go_ret
              exact ⟨by first | rfl | (simp [errW_none, errW_some] <;> rfl) | (simp [*, errW_none, errW_some] <;> rfl), by repeat (first | (with_reducible first | exact HB.out | apply below_alloc | apply pw_below_drewN | apply below_drew1) | exact HB.out)⟩
          · rw [if_neg c39] at H
            have c39b0 : decide (0 ≤ t206) = false := decide_eq_false c39
            clear c39
            by_cases c45 : (t220 == false) = true
            · rw [if_pos c45] at H
              have c45b0 : (t220 == false) = true := c45
              (try (have c45b1 : decide (t220 = false) = true := by simpa using c45))
              (try (have c45b2 : (t220 == false) = true := by simpa using c45))
              clear c45
              by_cases c46 : t220 = true
              · subst c46
                have H1 : (some (t219 == t206)) = some r := by rw [if_pos rfl] at H; exact H
                clear H
                have H := H1
                clear H1
                obtain rfl := Option.some.inj H
                go_wp2_with (first | ((with_reducible refine gate_callee (f := 30) rfl ?_); refine goesL_ (some 82) rfl rfl Try.func30 (by kernel_rfl) rfl #[.int .i64 t206] rfl (by (try simp only [List.map_toArray, List.map_cons, List.map_nil]); first | done | rfl | (simp only [List.length_drop, List.length_take]; rfl)) ?_; (with_reducible refine (impl_ShortBytes.calls t206 t218 _ A37.out).mono ?_); rintro e w47 ⟨rfl, hb⟩; refine ⟨_, rfl, ?_⟩; have n0_ := Aside0.mk (below_step (by repeat (first | (with_reducible first | exact HB.out | apply below_alloc | apply pw_below_drewN | apply below_drew1) | exact HB.out)) hb); clear HB; have HB := n0_; clear n0_; (try clear hb); (try clear hb2); (try clear hk); (try clear hi)) | ((with_reducible refine gate_callee (f := 29) rfl ?_); refine goesL_ (some 85) rfl rfl Try.func29 (by kernel_rfl) rfl #[.string t218] rfl (by (try simp only [List.map_toArray, List.map_cons, List.map_nil]); first | done | rfl | (simp only [List.length_drop, List.length_take]; rfl)) ?_; (with_reducible refine (impl_ReadShort.calls t218 t219 true _ A38.out).mono ?_); rintro e w' ⟨rfl, ⟨nd, rfl⟩⟩; refine ⟨_, rfl, ?_⟩))
                go_ret
                exact ⟨by first | rfl | (simp [errW_none, errW_some] <;> rfl) | (simp [*, errW_none, errW_some] <;> rfl), by repeat (first | (with_reducible first | exact HB.out | apply below_alloc | apply pw_below_drewN | apply below_drew1) | exact HB.out)⟩
              · replace c46 := Bool.eq_false_iff.mpr c46
                subst c46
                have H1 : (some true) = some r := by rw [if_neg (show ¬ (false = true) by decide)] at H; exact H
                clear H
                have H := H1
                clear H1
                obtain rfl := Option.some.inj H
                go_wp2_with (first | ((with_reducible refine gate_callee (f := 30) rfl ?_); refine goesL_ (some 82) rfl rfl Try.func30 (by kernel_rfl) rfl #[.int .i64 t206] rfl (by (try simp only [List.map_toArray, List.map_cons, List.map_nil]); first | done | rfl | (simp only [List.length_drop, List.length_take]; rfl)) ?_; (with_reducible refine (impl_ShortBytes.calls t206 t218 _ A37.out).mono ?_); rintro e w48 ⟨rfl, hb⟩; refine ⟨_, rfl, ?_⟩; have n0_ := Aside0.mk (below_step (by repeat (first | (with_reducible first | exact HB.out | apply below_alloc | apply pw_below_drewN | apply below_drew1) | exact HB.out)) hb); clear HB; have HB := n0_; clear n0_; (try clear hb); (try clear hb2); (try clear hk); (try clear hi)) | ((with_reducible refine gate_callee (f := 29) rfl ?_); refine goesL_ (some 85) rfl rfl Try.func29 (by kernel_rfl) rfl #[.string t218] rfl (by (try simp only [List.map_toArray, List.map_cons, List.map_nil]); first | done | rfl | (simp only [List.length_drop, List.length_take]; rfl)) ?_; (with_reducible refine (impl_ReadShort.calls t218 t219 false _ A38.out).mono ?_); rintro e w' ⟨rfl, ⟨nd, rfl⟩⟩; refine ⟨_, rfl, ?_⟩))
                go_ret
                exact ⟨by first | rfl | (simp [errW_none, errW_some] <;> rfl) | (simp [*, errW_none, errW_some] <;> rfl), by repeat (first | (with_reducible first | exact HB.out | apply below_alloc | apply pw_below_drewN | apply below_drew1) | exact HB.out)⟩
            · rw [if_neg c45] at H
              have c45b0 : (t220 == false) = false := by simpa using c45
              (try (have c45b1 : decide (t220 = false) = false := by simpa using c45))
              (try (have c45b2 : (t220 == false) = false := by simpa using c45))
              (try (have c45b3 : ¬ (t220 = false) := by simpa using c45))
              clear c45
              obtain rfl := Option.some.inj H
              go_wp2_with (first | ((with_reducible refine gate_callee (f := 30) rfl ?_); refine goesL_ (some 82) rfl rfl Try.func30 (by kernel_rfl) rfl #[.int .i64 t206] rfl (by (try simp only [List.map_toArray, List.map_cons, List.map_nil]); first | done | rfl | (simp only [List.length_drop, List.length_take]; rfl)) ?_; (with_reducible refine (impl_ShortBytes.calls t206 t218 _ A37.out).mono ?_); rintro e w49 ⟨rfl, hb⟩; refine ⟨_, rfl, ?_⟩; have n0_ := Aside0.mk (below_step (by repeat (first | (with_reducible first | exact HB.out | apply below_alloc | apply pw_below_drewN | apply below_drew1) | exact HB.out)) hb); clear HB; have HB := n0_; clear n0_; (try clear hb); (try clear hb2); (try clear hk); (try clear hi)) | ((with_reducible refine gate_callee (f := 29) rfl ?_); refine goesL_ (some 85) rfl rfl Try.func29 (by kernel_rfl) rfl #[.string t218] rfl (by (try simp only [List.map_toArray, List.map_cons, List.map_nil]); first | done | rfl | (simp only [List.length_drop, List.length_take]; rfl)) ?_; (with_reducible refine (impl_ReadShort.calls t218 t219 t220 _ A38.out).mono ?_); rintro e w' ⟨rfl, ⟨nd, rfl⟩⟩; refine ⟨_, rfl, ?_⟩))
              go_ret
              exact ⟨by first | rfl | (simp [errW_none, errW_some] <;> rfl) | (simp [*, errW_none, errW_some] <;> rfl), by repeat (first | (with_reducible first | exact HB.out | apply below_alloc | apply pw_below_drewN | apply below_drew1) | exact HB.out)⟩

/-- THE ONE PURE STATEMENT of laws_FnWords: yours. -/
def laws_FnWords.Pure : Prop := ∀ (l0 : List Int), l0.length ≤ maxLen → l0.length * 1 ≤ 140737488351232 → (∀ x ∈ l0, (Lit.int .u8 x).wf = true) → ∃ k, laws_FnWords.f k l0 = some true
theorem laws_FnWords.walk (P : laws_FnWords.Pure) (a0 : Option Addr) (len0 cap0 : Nat) (z0 : List Int) (w : World) (w0 : (a0 = none ∧ len0 = 0 ∧ cap0 = 0 ∧ z0 = []) ∨ ∃ x, a0 = some x ∧ len0 ≤ cap0 ∧ cap0 ≤ maxLen ∧ z0.length = cap0 ∧ (∀ i, i < z0.length → w.cell? (x.add i) = some (.int .u8 (z0.getD i 0))) ∧ ∀ n ∈ z0, (Lit.int .u8 n).wf = true) (y0 : len0 * 1 ≤ 140737488351232) :
    Calls Try.prog 6 #[.slice a0 len0 cap0] w fun e w' => e = .returned (.bool true) ∧ Below w.heap.size w w' := by
  obtain ⟨l0, rfl, hr0, hm0, hw0, hc0⟩ := ReadsInt.ofRowC w0
  obtain ⟨k, h⟩ := P l0 hm0 y0 hw0
  refine (laws_FnWords.calls k _ _ l0 true w (Kd.C_of_reads (d := (0 : Int)) (h1 := fun _ => rfl) hr0) hc0 h).mono ?_
  rintro e w' ⟨rfl, hd⟩
  exact ⟨rfl, hd⟩

end Go.Proofs.Ytpkekjddhkngcaa.PFnWords
