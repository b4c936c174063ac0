-- by a patched copy of the print (wip/tools/patch_print.py)
import Derived.Test.YtbbbajnnoficbaaPFnExactFencex0
import Derived.Test.YtbbbajnnoficbaaPFnExactFencex6
namespace Go.Proofs.Ytbbbajnnoficbaa.PFnExactFence
open Go.RowKit Go.Proofs.YtbbbajnnoficbaaW.PrintWords Go.Proofs.YtbbbajnnoficbaaW.PrintLast Go.Proofs.YtbbbajnnoficbaaW.PrintMore
attribute [local go_sem] max2_int min2_int max_two min_two max_three min_three max_four min_four   -- for this text's walks alone
set_option linter.unusedVariables false
set_option linter.unusedSimpArgs false

/-! ### impl_replaced: function 62 -/
def impl_replaced.f (a0 : ByteArray) (a1 : Int) (a2 : ByteArray) : Option (ByteArray) := if 0 ≤ a1 then (if a1 ≤ (a0.size : Int) then (if (a0.extract 0 (a1 : Int).toNat).size + a2.size ≤ 9223372036854775807 then (if 0 ≤ (wrap64 (a1 + (a2.size : Int))) then (if (wrap64 (a1 + (a2.size : Int))) ≤ (a0.size : Int) then (if ((a0.extract 0 (a1 : Int).toNat) ++ a2).size + (a0.extract ((wrap64 (a1 + (a2.size : Int))) : Int).toNat a0.size).size ≤ 9223372036854775807 then (some (((a0.extract 0 (a1 : Int).toNat) ++ a2) ++ (a0.extract ((wrap64 (a1 + (a2.size : Int))) : Int).toNat a0.size))) else (none)) else (none)) else (none)) else (none)) else (none)) else (none)
set_option maxHeartbeats 8000000 in
set_option maxRecDepth 100000 in
theorem impl_replaced.calls (a0 : ByteArray) (a1 : Int) (a2 : ByteArray) (r : ByteArray) (w : World) (h : impl_replaced.f a0 a1 a2 = some r) :
    Calls Try.prog 62 #[.string a0, .int .i64 a1, .string a2] w fun e w' => e = .returned (.string r) ∧ Drawn0 w w' := by
  have H : (if 0 ≤ a1 then (if a1 ≤ (a0.size : Int) then (if (a0.extract 0 (a1 : Int).toNat).size + a2.size ≤ 9223372036854775807 then (if 0 ≤ (wrap64 (a1 + (a2.size : Int))) then (if (wrap64 (a1 + (a2.size : Int))) ≤ (a0.size : Int) then (if ((a0.extract 0 (a1 : Int).toNat) ++ a2).size + (a0.extract ((wrap64 (a1 + (a2.size : Int))) : Int).toNat a0.size).size ≤ 9223372036854775807 then (some (((a0.extract 0 (a1 : Int).toNat) ++ a2) ++ (a0.extract ((wrap64 (a1 + (a2.size : Int))) : Int).toNat a0.size))) else (none)) else (none)) else (none)) else (none)) else (none)) else (none)) = some r := h
  clear h
  by_cases c4 : 0 ≤ a1
  · rw [if_pos c4] at H
    have c4b0 := eq_true c4
    have c4b1 : decide (0 ≤ a1) = true := decide_eq_true c4
    clear c4
    by_cases c5 : a1 ≤ (a0.size : Int)
    · rw [if_pos c5] at H
      have c5b0 := eq_true c5
      have c5b1 : decide (a1 ≤ (a0.size : Int)) = true := decide_eq_true c5
      clear c5
      by_cases c6 : (a0.extract 0 (a1 : Int).toNat).size + a2.size ≤ 9223372036854775807
      · rw [if_pos c6] at H
        have c6b0 := eq_true c6
        have c6b1 : decide ((a0.extract 0 (a1 : Int).toNat).size + a2.size ≤ 9223372036854775807) = true := decide_eq_true c6
        try have c6b2 : (9223372036854775807 < (a0.extract 0 (a1 : Int).toNat).size + a2.size) = False := eq_false (Nat.not_lt.2 c6)
        obtain ⟨ji7, hji7⟩ : ∃ j_ : Int, (wrap64 (a1 + (a2.size : Int))) = j_ := ⟨_, rfl⟩
        replace H : (if 0 ≤ (ji7) then (if (ji7) ≤ (a0.size : Int) then (if ((a0.extract 0 (a1 : Int).toNat) ++ a2).size + (a0.extract ((ji7) : Int).toNat a0.size).size ≤ 9223372036854775807 then (some (((a0.extract 0 (a1 : Int).toNat) ++ a2) ++ (a0.extract ((ji7) : Int).toNat a0.size))) else (none)) else (none)) else (none)) = some r := by first | (rw [hji7] at H; exact H) | (simp only [hji7] at H ⊢; exact H)
        have hji7w : (IntKind.i64.wrap (a1 + (a2.size : Int))) = ji7 := (i64_w _).trans hji7
        by_cases c8 : 0 ≤ (ji7)
        · rw [if_pos c8] at H
          have c8b0 := eq_true c8
          have c8b1 : decide (0 ≤ (ji7)) = true := decide_eq_true c8
          clear c8
          by_cases c9 : (ji7) ≤ (a0.size : Int)
          · rw [if_pos c9] at H
            have c9b0 := eq_true c9
            have c9b1 : decide ((ji7) ≤ (a0.size : Int)) = true := decide_eq_true c9
            clear c9
            by_cases c10 : ((a0.extract 0 (a1 : Int).toNat) ++ a2).size + (a0.extract ((ji7) : Int).toNat a0.size).size ≤ 9223372036854775807
            · rw [if_pos c10] at H
              have c10b0 := eq_true c10
              have c10b1 : decide (((a0.extract 0 (a1 : Int).toNat) ++ a2).size + (a0.extract ((ji7) : Int).toNat a0.size).size ≤ 9223372036854775807) = true := decide_eq_true c10
              try have c10b2 : (9223372036854775807 < ((a0.extract 0 (a1 : Int).toNat) ++ a2).size + (a0.extract ((ji7) : Int).toNat a0.size).size) = False := eq_false (Nat.not_lt.2 c10)
              (try (have c10b5 := c10b0; simp only [ByteArray.size_append] at c10b5))
              (try (have c10b6 := c10b1; simp only [ByteArray.size_append] at c10b6))
              (try (have c10b7 := c10b2; simp only [ByteArray.size_append] at c10b7))
              obtain rfl := Option.some.inj H
              go_enter Try.func62, Try.ntmps62
              go_wp2
              repeat (go_quiet (fail); try go_wp2)
              go_ret
              exact ⟨by first | rfl | (simp; done) | (simp only [← hji7] <;> (first | rfl | simp)) | (simp [*]; done), by repeat (first | exact Drawn0.refl _ | apply Drawn0.step)⟩
            · rw [if_neg c10] at H
              exact absurd H (by simp)
          · rw [if_neg c9] at H
            exact absurd H (by simp)
        · rw [if_neg c8] at H
          exact absurd H (by simp)
      · rw [if_neg c6] at H
        exact absurd H (by simp)
    · rw [if_neg c5] at H
      exact absurd H (by simp)
  · rw [if_neg c4] at H
    exact absurd H (by simp)

/-! ### impl_Line: function 95 -/
def impl_Line.f (l0 : List S67) : Option (List S67) := if l0.length < 3518437208883 then some l0 else none
set_option maxHeartbeats 4000000 in
set_option maxRecDepth 1000000 in
theorem impl_Line.calls (A0 : Option Addr) (c0 : Nat) (l0 : List (S67)) (r : List (S67)) (w : World) (hr0 : Kd.C k67 w A0 l0.length l0) (hc0 : l0.length ≤ c0) (h : impl_Line.f l0 = some r) :
    Calls Try.prog 95 #[.slice A0 l0.length c0] w fun e w' => ∃ v0_ : Value, e = .returned (v0_) ∧ Kd.R k67 67 w' w.heap.size (fun _ => True) v0_ r ∧ Below w.heap.size w w' := by
  have hu28 := Try.underlying28
  have HB := Aside0.mk (Below.refl w.heap.size w)
  unfold impl_Line.f at h
  by_cases c : l0.length < 3518437208883
  · rw [if_pos c] at h
    obtain rfl := Option.some.inj h
    clear h
    have HR := Aside0.mk hr0
    have LM := Aside0.mk c
    cases A0 with
    | none =>
      have hz : l0 = [] := by
        rcases Nat.eq_zero_or_pos l0.length with h0 | h0
        · exact List.eq_nil_of_length_eq_zero h0
        · obtain ⟨ad, e, _⟩ := hr0.2.2 h0; cases e
      subst hz
      have EQ : ∀ W, (binOp .eql 28 (.slice none 0 c0) (.slice none 0 0)).run Try.prog W = .ok (.bool true) W := fun W => run_eql_slice_nil (P := Try.prog) W 28 67 none 0 c0 Try.underlying28
      clear hr0
      go_enter Try.func95, Try.ntmps95
      go_wp2
      go_ret
      exact ⟨_, rfl, Kd.R_nil _ _ _ _ _, HB.out⟩
    | some ad =>
      have EQ : ∀ W, (binOp .eql 28 (.slice (some ad) l0.length c0) (.slice none 0 0)).run Try.prog W = .ok (.bool false) W := fun W => run_eql_slice_nil (P := Try.prog) W 28 67 (some ad) l0.length c0 Try.underlying28
      clear hr0
      go_enter Try.func95, Try.ntmps95
      go_wp2_with (first | ((with_reducible refine gate_dst (N := 5) rfl ?_); refine Kd.R_lit k67 _ 67 ?hg (N := 5) ?hd (xs := ([] : List S67)) (inner := []) (ok := fun _ => True) (okp := fun _ => True) ?hr ?hp (fun _ hk => hk) trivial (Below.refl _ _) (Nat.le_refl _) (by simp) ?_; (case hd => rfl); (case hg => rfl); (case hr => first | (go_simp; done) | (go_simp; rfl)); (case hp => exact (Reps.none _ _)); intro v1 w7 ho hb hg_ hnew_; clear hg_ hnew_; have n0_ := Aside0.mk (Kd.R_lower ho (below_size HB.out)); have n1_ := Aside0.mk (below_step HB.out hb); clear HB; have HO := n0_; have HB := n1_; clear n0_ n1_ hb ho) | ((with_reducible refine gate_dst (N := 7) rfl ?_); refine Kd.R_append_rows k67 (w0 := w) w.heap.size rfl (.tmp 5) (.tmp 6) 28 67 (.agg #[(.int .i64 0), (.string ⟨#[]⟩), (.string ⟨#[]⟩)]) 40 rfl Try.underlying28 info67 rfl (by decide) (by omega) v1 [] l0 _ _ _ (fun _ => True) (fun _ => False) rfl rfl ?aO ?aR (fun _ _ h => h) (fun _ h => h.elim) ?aF ?aB ?aS ?aL ?_; (case aR => exact Kd.C_below HR.out HB.out); (case aB => exact HB.out); (case aF => exact (fun _ _ => trivial)); (case aO => exact HO.out); (case aS => exact below_size HB.out); (case aL => have := LM.out; simp only [List.length_nil]; omega); intro v2 w8 ho hb hg hat; have n0_ := Aside0.mk ho; have n1_ := Aside0.mk hb; clear HB HO; have HO := n0_; have HB := n1_; clear n0_ n1_ ho hb hg hat))
      go_ret
      exact ⟨_, rfl, HO.out, HB.out⟩
  · rw [if_neg c] at h; cases h


/-! ### impl_Device_own: function 65 -/
def impl_Device_own.f (a0_0 : ByteArray) (l0_1 : List (S67)) : Option (ByteArray × (List (S67))) := (impl_Line.f l0_1).bind fun t175 => (some (a0_0, t175))
set_option maxHeartbeats 8000000 in
set_option maxRecDepth 100000 in
theorem impl_Device_own.calls (a0_0 : ByteArray) (A0_1 : Option Addr) (c0_1 : Nat) (l0_1 : List (S67)) (r1 : ByteArray) (r2 : List (S67)) (w : World) (hr0_1 : Kd.C k67 w A0_1 l0_1.length l0_1) (hc0_1 : l0_1.length ≤ c0_1) (h : impl_Device_own.f a0_0 l0_1 = some (r1, r2)) :
    Calls Try.prog 65 #[.agg #[.string a0_0, .slice A0_1 l0_1.length c0_1]] w fun e w' => ∃ v1_ : Value, e = .returned (.agg #[.string r1, v1_]) ∧ Kd.R k67 67 w' w.heap.size (fun _ => True) v1_ r2 ∧ Below w.heap.size w w' := by
  have hu30 := Try.underlying30
  have HR0_1 := Aside0.mk hr0_1
  have HC0_1 := Aside0.mk hc0_1
  clear hr0_1 hc0_1
  have HB := Aside0.mk (Below.refl w.heap.size w)
  have H : ((impl_Line.f l0_1).bind fun t175 => (some (a0_0, t175))) = some (r1, r2) := h
  clear h
  replace H := Option.bind_eq_some_iff.mp H
  obtain ⟨t175, A20, H⟩ := H
  replace H : (some (a0_0, t175)) = some (r1, r2) := H
  have A2 := Aside0.mk A20
  clear A20
  simp only [Option.some.injEq, Prod.mk.injEq] at H
  obtain ⟨rfl, rfl⟩ := H
  go_enter Try.func65, Try.ntmps65
  try go_wp2_with (first | ((with_reducible refine gate_dst (N := 1) rfl ?_); refine box_event ?hg (N := 1) ?hd (cs := #[.string a0_0, .slice A0_1 l0_1.length c0_1]) (t := 30) ?hr ?_; (case hd => rfl); (case hg => rfl); (case hr => first | (go_simp; done) | (go_simp; rfl)); intro gb173 hg w3 hbox hb; have n0_ := Aside0.mk (below_step (by repeat (first | (with_reducible first | exact HB.out | apply below_alloc | apply pw_below_drewN | apply below_drew1) | exact HB.out)) hb); have n1_ := Aside0.mk (hbox); have n2_ := Aside0.mk ((by rw [hg]; exact (below_size (by repeat (first | (with_reducible first | exact HB.out | apply below_alloc | apply pw_below_drewN | apply below_drew1) | exact HB.out))) : w.heap.size ≤ gb173)); have n3_ := Aside0.mk ((by rw [hg]; exact (below_size (by repeat (first | (with_reducible first | exact HB.out | apply below_alloc | apply pw_below_drewN | apply below_drew1) | exact HB.out))) : w.heap.size ≤ gb173)); clear HB; have HB := n0_; have BK173 := n1_; have GW173 := n2_; have GE173 := n3_; clear n0_ n1_ n2_ n3_; clear hb hbox hg) | ((with_reducible refine gate_dst (N := 2) rfl ?_); refine box_event ?hg (N := 2) ?hd (cs := #[.string (⟨#[]⟩ : ByteArray), .slice none 0 0]) (t := 30) ?hr ?_; (case hd => rfl); (case hg => rfl); (case hr => first | (go_simp; done) | (go_simp; rfl)); intro gb174 hg w4 hbox hb; have n0_ := Aside0.mk (blk_below (g := gb173) (o := .cells #[.string a0_0, .slice A0_1 l0_1.length c0_1] 30 (0, 0)) (by (with_reducible repeat (first | refine blk_drewN ?_ _ | refine blk_drew ?_ | refine blk_alloc ?_ _)); exact BK173.out) hb); have n1_ := Aside0.mk (below_step (by repeat (first | (with_reducible first | exact HB.out | apply below_alloc | apply pw_below_drewN | apply below_drew1 | refine below_set ?_ GE173.out) | exact HB.out)) hb); have n2_ := Aside0.mk (hbox); have n3_ := Aside0.mk ((by rw [hg]; exact (below_size (by repeat (first | (with_reducible first | exact HB.out | apply below_alloc | apply pw_below_drewN | apply below_drew1 | refine below_set ?_ GE173.out) | exact HB.out))) : w.heap.size ≤ gb174)); have n4_ := Aside0.mk ((by rw [hg]; exact (below_size (by repeat (first | (with_reducible first | exact HB.out | apply below_alloc | apply pw_below_drewN | apply below_drew1 | refine below_set ?_ GE173.out) | exact HB.out))) : w.heap.size ≤ gb174)); have n5_ := Aside0.mk ((by rw [hg]; exact Nat.ne_of_lt (blk_lt (g := gb173) (o := .cells #[.string a0_0, .slice A0_1 l0_1.length c0_1] 30 (0, 0)) (by (with_reducible repeat (first | refine blk_drewN ?_ _ | refine blk_drew ?_ | refine blk_alloc ?_ _)); exact BK173.out)) : gb173 ≠ gb174)); have n6_ := Aside0.mk ((by rw [hg]; exact Nat.ne_of_gt (blk_lt (g := gb173) (o := .cells #[.string a0_0, .slice A0_1 l0_1.length c0_1] 30 (0, 0)) (by (with_reducible repeat (first | refine blk_drewN ?_ _ | refine blk_drew ?_ | refine blk_alloc ?_ _)); exact BK173.out)) : gb174 ≠ gb173)); clear BK173; clear HB; have BK173 := n0_; have HB := n1_; have BK174 := n2_; have GW174 := n3_; have GE174 := n4_; have NB173_174 := n5_; have NB174_173 := n6_; clear n0_ n1_ n2_ n3_ n4_ n5_ n6_; clear hb hbox hg))
  have n0_ := Aside0.mk (blk_drew BK173.out)
  have n1_ := Aside0.mk (blk_drew BK174.out)
  have n2_ := Aside0.mk (below_drew1 HB.out)
  clear BK173
  clear BK174
  clear HB
  have BK173 := n0_
  have BK174 := n1_
  have HB := n2_
  clear n0_ n1_ n2_
  refine start_ (n := 7) (S := fun w' => w'.cell? ⟨gb173, 0, none⟩ = some (.string a0_0) ∧ w'.cell? ⟨gb173, 1, none⟩ = some (.slice A0_1 l0_1.length c0_1)) (ds := []) #[false, false, false, false, false, false, false] (by kernel_rfl) rfl rfl ⟨(blk_cell BK173.out 0).trans rfl, (blk_cell BK173.out 1).trans rfl⟩ (fun hHeld => ?_)
  generalize w4.drew = w5 at BK173 BK174 HB hHeld ⊢
  refine pure_ (i := 0) (N := some 3) (v := ?_) (a' := ?_) #[true, false, false, false, false, false, false] rfl rfl (by kernel_rfl) (fun _ _ _ h => h) (Or.inl ⟨by rfl, ?_⟩) ?_ ?_
  rotate_left
  · intro w'
    go_simp
    with_reducible rfl
  rotate_left
  · simp only [Act.put, List.setIfInBounds_toArray, List.set_cons_zero, List.set_cons_succ, i64_w, i32_w]
    rfl
  refine pure_ (i := 2) (N := some 5) (v := ?_) (a' := ?_) #[true, false, true, false, false, false, false] rfl rfl (by kernel_rfl) (fun _ _ _ h => h) (Or.inl ⟨by rfl, ?_⟩) ?_ ?_
  rotate_left
  · intro w'
    go_simp
    with_reducible rfl
  rotate_left
  · simp only [Act.put, List.setIfInBounds_toArray, List.set_cons_zero, List.set_cons_succ, i64_w, i32_w]
    rfl
  refine take_ (i := 1) (N := some 4) (v := ?_) (a' := ?_) #[true, true, true, false, false, false, false] rfl rfl (by kernel_rfl) (fun _ _ _ h => h) (Or.inl ⟨by rfl, ?_⟩) hHeld ?_ ?_
  rotate_left
  · rintro w' ⟨s0, s1⟩
    go_simp
    with_reducible rfl
  rotate_left
  · simp only [Act.put, List.setIfInBounds_toArray, List.set_cons_zero, List.set_cons_succ, i64_w, i32_w]
    rfl
  refine take_ (i := 3) (N := some 6) (v := ?_) (a' := ?_) #[true, true, true, true, false, false, false] rfl rfl (by kernel_rfl) (fun _ _ _ h => h) (Or.inl ⟨by rfl, ?_⟩) hHeld ?_ ?_
  rotate_left
  · rintro w' ⟨s0, s1⟩
    go_simp
    with_reducible rfl
  rotate_left
  · simp only [Act.put, List.setIfInBounds_toArray, List.set_cons_zero, List.set_cons_succ, i64_w, i32_w]
    rfl
  refine one_ (i := 4) (N := some 7) #[true, true, true, true, true, false, false] rfl rfl (by kernel_rfl) (by decide) (fun K hK => ?_)
  refine goes_ Try.func95 (by kernel_rfl) rfl #[.slice A0_1 l0_1.length c0_1] (by rfl) rfl rfl (by (try simp only [List.map_toArray, List.map_cons, List.map_nil]); first | done | rfl | (simp only [List.length_drop, List.length_take]; rfl)) ?_
  with_reducible refine (impl_Line.calls _ _ l0_1 t175 _ ?side1 ?side2 A2.out).mono ?_
  (case side1 => repeat (first | exact (Kd.C_below HR0_1.out HB.out) | (with_reducible refine Kd.C_alloc ?_ _) | (with_reducible refine Kd.C_drewN ?_ _) | (with_reducible refine Kd.C_drew ?_)))
  (case side2 => exact HC0_1.out)
  rintro e w6 ⟨v176, rfl, ho0, hb⟩
  refine ⟨_, rfl, ?_⟩
  have n0_ := Aside0.mk (Kd.R_lower ho0 (below_size (by repeat (first | (with_reducible first | exact HB.out | apply below_alloc | apply pw_below_drewN | apply below_drew1 | refine below_set ?_ GE173.out | refine below_set ?_ GE174.out) | exact HB.out))))
  have n1_ := Aside0.mk (blk_below (g := gb173) (o := .cells #[.string a0_0, .slice A0_1 l0_1.length c0_1] 30 (0, 0)) (by (with_reducible repeat (first | refine blk_drewN ?_ _ | refine blk_drew ?_ | refine blk_alloc ?_ _)); exact BK173.out) hb)
  have n2_ := Aside0.mk (blk_below (g := gb174) (o := .cells #[.string (⟨#[]⟩ : ByteArray), .slice none 0 0] 30 (0, 0)) (by (with_reducible repeat (first | refine blk_drewN ?_ _ | refine blk_drew ?_ | refine blk_alloc ?_ _)); exact BK174.out) hb)
  have n3_ := Aside0.mk (below_step (by repeat (first | (with_reducible first | exact HB.out | apply below_alloc | apply pw_below_drewN | apply below_drew1 | refine below_set ?_ GE173.out | refine below_set ?_ GE174.out) | exact HB.out)) hb)
  clear BK173
  clear BK174
  clear HB
  have HO177 := n0_
  have BK173 := n1_
  have BK174 := n2_
  have HB := n3_
  clear n0_ n1_ n2_ n3_
  (try clear hb)
  (try clear hb2)
  (try clear hk)
  (try clear hi)
  (try clear ho0)
  obtain ⟨Ao7, co7, eo7⟩ := Kd.R_slice HO177.out
  (first | subst eo7 | (injection eo7 with f1_ f2_ f3_; have f4_ := f1_.symm; have f5_ := f3_.symm; clear f1_ f2_ f3_; subst f4_; subst f5_))
  refine hK.out _ _ ⟨(blk_cell BK173.out 0).trans rfl, (blk_cell BK173.out 1).trans rfl⟩ (fun hHeld => ?_)
  clear hK K
  refine norm_ (a' := ?_) ?_ ?_
  rotate_left
  · show Act.put _ (some 7) _ = _
    simp only [Act.put, List.setIfInBounds_toArray, List.set_cons_zero, List.set_cons_succ, i64_w, i32_w]
    rfl
  refine pure_ (i := 5) (N := some 8) (v := ?_) (a' := ?_) #[true, true, true, true, true, true, false] rfl rfl (by kernel_rfl) (fun _ _ _ h => h) (Or.inl ⟨by rfl, ?_⟩) ?_ ?_
  rotate_left
  · intro w'
    go_simp
    with_reducible rfl
  rotate_left
  · simp only [Act.put, List.setIfInBounds_toArray, List.set_cons_zero, List.set_cons_succ, i64_w, i32_w]
    rfl
  refine one_ (i := 6) (N := none) #[true, true, true, true, true, true, true] rfl rfl (by kernel_rfl) (by decide) (fun K hK => ?_)
  have hs8 : w6.cell? ⟨gb174, 0, none⟩ = some (.string (⟨#[]⟩ : ByteArray)) := (blk_cell BK174.out 0).trans rfl
  have hfs8 := blk_frozen BK174.out 0
  have hns8_0 := NB173_174.out
  have hms8_0 := NB174_173.out
  have hs9 : w6.cell? ⟨gb174, 1, none⟩ = some (.slice none 0 0) := (blk_cell BK174.out 1).trans rfl
  have hfs9 := blk_frozen BK174.out 1
  have hns9_0 := NB173_174.out
  have hms9_0 := NB174_173.out
  refine skip_ (w1 := ?_) (by rfl) rfl ?_ ?_
  rotate_left
  · go_simp
    rfl
  refine hK.out _ _ ⟨((cell_far (p := ⟨gb174, _, none⟩) NB173_174.out _).trans (((cell_far (p := ⟨gb174, _, none⟩) NB173_174.out _).trans (hHeld.1)))), ((cell_far (p := ⟨gb174, _, none⟩) NB173_174.out _).trans (((cell_far (p := ⟨gb174, _, none⟩) NB173_174.out _).trans (hHeld.2))))⟩ (fun hHeld => ?_)
  clear hK K
  refine done_ (by kernel_rfl) ?_
  try go_wp2
  refine bodyPost_ret (results_cell_row rfl _ _ gb174 30 #[.string a0_0, .slice Ao7 t175.length co7] (0, 0) _ rfl (by (with_reducible repeat (first | refine blk_drewN ?_ _ | refine blk_drew ?_ | refine blk_alloc ?_ _)); refine blk_put (cs := #[.string a0_0, .slice none 0 0]) ?_ 1 _ rfl; (with_reducible repeat (first | refine blk_drewN ?_ _ | refine blk_drew ?_ | refine blk_alloc ?_ _)); refine blk_put (cs := #[.string (⟨#[]⟩ : ByteArray), .slice none 0 0]) ?_ 0 _ rfl; (with_reducible repeat (first | refine blk_drewN ?_ _ | refine blk_drew ?_ | refine blk_alloc ?_ _)); exact BK174.out) Try.underlying30 rfl (by kernel_rfl)) rfl ?_
  exact ⟨_, by first | rfl | (simp [errW_none, errW_some] <;> rfl) | (simp [*, errW_none, errW_some] <;> rfl), by (with_reducible repeat (first | apply Kd.R_alloc | apply Kd.R_drewN | apply Kd.R_drew)); exact Kd.R_mono (Kd.R_far (p := ⟨gb174, 1, none⟩) (Kd.R_far (p := ⟨gb174, 0, none⟩) (Kd.R_types HO177.out BK174.out (by decide)) (fun _ hk => hk.2) (.string a0_0)) (fun _ hk => hk.2) (.slice Ao7 t175.length co7)) (fun _ hk => trivial), by repeat (first | (with_reducible first | exact HB.out | apply below_alloc | apply pw_below_drewN | apply below_drew1 | refine below_set ?_ GE173.out | refine below_set ?_ GE174.out) | exact HB.out)⟩

/-! ### impl_Fence: function 30 -/
theorem impl_Fence.rfar {w : World} {base : Nat} {v : Value} {xs : List S67} (h : Kd.R k67 67 w base (fun _ => True) v xs) {p : Addr} (hp : ∀ k, v.ownBlock = some k → k ≠ p.block) (u : Value) : Kd.R k67 67 (w.setCell p u) base (fun _ => True) v xs :=
  Kd.R_mono (Kd.R_far (Kd.R_tight rfl h) (fun k hk => hp k hk.symm) u) (fun _ _ => trivial)
theorem impl_Fence.bstep {B : Nat} {w0 w w1 : World} (h : Below B w0 w) (hb : Below w.heap.size w w1) (hle : B ≤ w.heap.size) : Below B w0 w1 := h.trans (hb.mono hle)
theorem impl_Fence.sz {w U w8 : World} {row : Option Nat} {S : Nat → Prop} (_ : U.grownBy w8 row) (h : Kept w U S) : w.heap.size ≤ U.heap.size := h.1
theorem impl_Fence.app {P : Program} {ops : Array Oper} {rest : List Oper} {o : Oper} {a : Act} {Q : Exit → Act → World → Prop} {α : Type} (d : Kd α) {W : World} (base : Nat) (hgd : o.guard = none) (s x : Operand) (t e : TypeId) (z : Value) (bytes : Nat)
    (ho : o.op = .call { callee := .builtin .append, args := #[s, x], argTypes := #[t, t] })
    (ht : P.underlying t = some (.slice e)) (hinfo : (P.info? e).map (fun i => (i.zero, i.size, i.bytes)) = some (some z, d.sz, bytes)) (hz : z.cells.size = d.sz) (hs0 : 0 < d.sz) (hb0 : 0 < bytes)
    (v : Value) (xs : List α) (p : α) (cs : List Value) (hs : a.eval s = v) (hx : a.eval x = .slice (some ⟨W.heap.size, 0, none⟩) 1 1) (hp : d.M W base (fun _ => False) p cs)
    (HO : d.R e W base (fun _ => True) v xs) (hbase : base ≤ W.heap.size) (hl : (xs.length + 1) * bytes ≤ 140737488355328)
    (h : ∀ v1 w1, d.R e w1 base (fun _ => True) v1 (xs ++ [p]) → W.grownBy w1 v.ownBlock → wpList P ops Q rest (a.put o.dst v1) w1) :
    wpList P ops Q (o :: rest) a (W.alloc (.cells cs.toArray e)) :=
  Kd.R_append d (w0 := W) base hgd s x t e z bytes ho ht hinfo hz hs0 hb0 v xs p cs (fun _ => True) (fun _ => False) hs hx hp (fun _ hk => hk.elim) (fun _ _ => trivial) HO (Below.refl _ _) hbase hl (fun v1 w1 h1 _ h3 _ => h v1 w1 h1 h3)
def impl_Fence.safe (s : ByteArray) (x : S67) : Option ByteArray := if x.f2.toList = ([] : List UInt8) then some s else impl_replaced.f s (wrap64 (64 * x.f0)) x.f2
def impl_Fence.l : List S67 → ByteArray → List S67 → Option (ByteArray × List S67)
  | [], s, acc => some (s, acc)
  | x :: xs, s, acc => (impl_Fence.safe s x).bind fun s' => if x.f2.toList = x.f1.toList then impl_Fence.l xs s' acc else if acc.length < 3518437208880 then impl_Fence.l xs s' (acc ++ [⟨x.f0, x.f1, (⟨#[]⟩ : ByteArray)⟩]) else none
set_option maxHeartbeats 8000000 in
set_option maxRecDepth 1000000 in
theorem impl_Fence.fence (g : Nat) (s : ByteArray) (A : Option Addr) (c : Nat) (l : List S67) (s1 : ByteArray) (l1 : List S67) (w : World) (hbk : w.heap[g]? = some (.cells #[.string s, .slice A l.length c] 30 (0, 0)))
    (hC : Kd.C k67 w A l.length l) (hne : ∀ ad, A = some ad → 0 < l.length → ad.block ≠ g) (hf : impl_Fence.l l s [] = some (s1, l1)) :
    Calls Try.prog 66 #[.pointer (some ⟨g, 0, none⟩)] w fun e w' => e = .returned (.tuple #[]) ∧ ∃ v1, w'.heap[g]? = some (.cells #[.string s1, v1] 30 (0, 0)) ∧ Kd.R k67 67 w' w.heap.size (fun _ => True) v1 l1 ∧ Kept w w' (fun k => k = g) ∧ Below g w w' := by
  have hu30 := Try.underlying30
  have hu67 := Try.underlying67
  have H := Aside0.mk hf
  have BKg := Aside0.mk hbk
  have HC := Aside0.mk hC
  have HNE := Aside0.mk hne
  have HL := Aside0.mk (Kd.C_max hC)
  have KP := Aside0.mk (Kept.refl w (fun k => k = g))
  have HB := Aside0.mk (Below.refl g w)
  have GLT := Aside0.mk (blk_lt hbk)
  have HBW := Aside0.mk (Nat.le_of_lt (blk_lt hbk))
  have hcg0 : w.cell? ⟨g, 0, none⟩ = some (.string s) := (blk_cell BKg.out 0).trans rfl
  have hcg1 : w.cell? ⟨g, 1, none⟩ = some (.slice A l.length c) := (blk_cell BKg.out 1).trans rfl
  clear hbk hC hne hf
  go_enter Try.func66, Try.ntmps66
  go_wp2_with (first | ((with_reducible refine gate_dst (N := 5) rfl ?_); refine Kd.R_lit k67 _ 67 ?hg (N := 5) ?hd (xs := ([] : List S67)) (inner := []) (ok := fun _ => True) (okp := fun _ => True) ?hr ?hp (fun _ hk => hk) trivial (Below.refl _ _) (Nat.le_refl _) (by simp) ?_; (case hd => rfl); (case hg => rfl); (case hr => first | (go_simp; done) | (go_simp; rfl)); (case hp => exact (Reps.none _ _)); intro v1 w1 ho hb hg_ hnew_; clear hg_ hnew_; have n0_ := Aside0.mk ho; have n1_ := Aside0.mk (impl_Fence.bstep HB.out hb HBW.out); have n2_ := Aside0.mk (blk_below BKg.out hb); have n3_ := Aside0.mk (KP.out.below hb); clear HB BKg KP hcg0 hcg1; have HO := n0_; have HB := n1_; have BKg := n2_; have KP := n3_; clear n0_ n1_ n2_ n3_ hb ho; have hcg0 : w1.cell? ⟨g, 0, none⟩ = some (.string s) := (blk_cell BKg.out 0).trans rfl; have hcg1 : w1.cell? ⟨g, 1, none⟩ = some (.slice A l.length c) := (blk_cell BKg.out 1).trans rfl))
  clear hcg0 hcg1 HBW
  go_loopg [2, 11] l.length (fun kq v2 v11 w' => ∃ (i : Nat) (s0 : ByteArray) (acc : List S67) (v : Value), v2 = v ∧ v11 = .int .i64 (i : Int) ∧ i ≤ l.length ∧ l.length - i ≤ kq ∧ Aside0 (impl_Fence.l (l.drop i) s0 acc = some (s1, l1)) ∧ Aside0 (w'.heap[g]? = some (.cells #[.string s0, .slice A l.length c] 30 (0, 0))) ∧ Aside0 (Kd.R k67 67 w' w.heap.size (fun _ => True) v acc) ∧ Aside0 (Kept w w' (fun k => k = g)) ∧ Aside0 (Below g w w'))
  case atStart => exact ⟨0, s, [], _, rfl, rfl, Nat.zero_le _, by omega, ⟨by simpa using H.out⟩, BKg, HO, KP, HB⟩
  case round =>
    clear H BKg HO KP HB
    obtain ⟨i, s0, acc, v, hv, rfl, hi, hk, H, BKg, HO, KP, HB⟩ := hrel
    have hv2 := hv.symm
    clear hv
    subst hv2
    have HBW := Aside0.mk (show g ≤ wr.heap.size from Nat.le_of_lt (blk_lt BKg.out))
    have hil := HL.out
    by_cases ci : i < l.length
    · have h1 := H.out
      have ex : l.drop i = rd_T67 l i :: l.drop (i + 1) := by rw [List.drop_eq_getElem_cons ci]; simp [rd_T67, List.getD, ci]
      rw [ex] at h1
      unfold impl_Fence.l at h1
      obtain ⟨ad, ea, hx0, hx1, hx2⟩ := at_T67 HC.out (i : Int) (by omega) (by omega)
      cases ea
      have nad := HNE.out ad rfl (by omega)
      replace hx0 := cell_kept hx0 KP.out (by show ¬ (ad.add _).block = g; rw [add_block]; exact nad)
      replace hx1 := cell_kept hx1 KP.out (by show ¬ (ad.add _).block = g; rw [add_block]; exact nad)
      replace hx2 := cell_kept hx2 KP.out (by show ¬ (ad.add _).block = g; rw [add_block]; exact nad)
      simp only [Int.toNat_natCast] at hx0 hx1 hx2
      generalize rd_T67 l (i : Int) = x at *
      obtain ⟨xa, xd, xs⟩ := x
      simp only at *
      obtain ⟨s2, hs2, h2⟩ := Option.bind_eq_some_iff.mp h1
      have hcg0 : wr.cell? ⟨g, 0, none⟩ = some (.string s0) := (blk_cell BKg.out 0).trans rfl
      unfold impl_Fence.safe at hs2
      clear h1 H ex
      by_cases ce : xs.toList = ([] : List UInt8)
      · rw [if_pos ce] at hs2
        obtain rfl := Option.some.inj hs2
        have e1 : (xs.toList == ([] : List UInt8)) = true := beq_iff_eq.mpr ce
        have e2 : (xs.toList != ([] : List UInt8)) = false := bne_eq_false_iff_eq.mpr ce
        have e3 : xs.toList.isEmpty = true := by simpa using ce
        clear ce hs2
        by_cases cd : xs.toList = xd.toList
        · rw [if_pos cd] at h2
          have H3 := Aside0.mk h2
          have e4 : (xs.toList != xd.toList) = false := bne_eq_false_iff_eq.mpr cd
          have e5 : (xs.toList == xd.toList) = true := beq_iff_eq.mpr cd
          clear cd h2
          go_wp2_with (first | ((with_reducible refine gate_dst (N := 4) rfl ?_); refine box_event ?hg (N := 4) ?hd (cs := #[.int .i64 0, .string (⟨#[]⟩ : ByteArray), .string (⟨#[]⟩ : ByteArray)]) (t := 67) ?hr ?_; (case hd => rfl); (case hg => rfl); (case hr => first | (go_simp; done) | (go_simp; rfl)); intro gl hg w6 hbox hb; have n0_ := Aside0.mk (impl_Fence.bstep HB.out hb HBW.out); have n1_ := Aside0.mk (blk_below BKg.out hb); have n2_ := Aside0.mk (KP.out.below hb); have n5_ := Aside0.mk (Kd.R_below HO.out hb); have GEl := Aside0.mk (by rw [hg]; exact KP.out.1 : w.heap.size ≤ gl); have LTl := Aside0.mk (by rw [hg]; exact blk_lt BKg.out : g < gl); have NOV := Aside0.mk (show ∀ k, v.ownBlock = some k → k ≠ gl by intro k hk; rw [hg]; exact Nat.ne_of_lt (Kd.R_lt HO.out k hk)); have BKl := Aside0.mk hbox; clear HB BKg KP HO hcg0; have HB := n0_; have BKg := n1_; have KP := n2_; have HO := n5_; clear n0_ n1_ n2_ n5_ hbox hg; replace hx0 := (hb.cell (World.block_lt_of_cell? wr _ hx0)).trans hx0; replace hx1 := (hb.cell (World.block_lt_of_cell? wr _ hx1)).trans hx1; replace hx2 := (hb.cell (World.block_lt_of_cell? wr _ hx2)).trans hx2; clear hb; have hcg0 : w6.cell? ⟨g, 0, none⟩ = some (.string s0) := (blk_cell BKg.out 0).trans rfl; have hfg0 := blk_frozen BKg.out 0; have NGl := Nat.ne_of_lt LTl.out; have NGl2 := NGl.symm; have hcl0 : w6.cell? ⟨gl, 0, none⟩ = some (.int .i64 0) := (blk_cell BKl.out 0).trans rfl; have hcl1 : w6.cell? ⟨gl, 1, none⟩ = some (.string (⟨#[]⟩ : ByteArray)) := (blk_cell BKl.out 1).trans rfl; have hcl2 : w6.cell? ⟨gl, 2, none⟩ = some (.string (⟨#[]⟩ : ByteArray)) := (blk_cell BKl.out 2).trans rfl; have hfl0 := blk_frozen BKl.out 0; have hfl1 := blk_frozen BKl.out 1; have hfl2 := blk_frozen BKl.out 2))
          go_roundg (l.length - (i + 1))
          case measure => omega
          case rel => exact ⟨i + 1, _, acc, v, by first | rfl | (simp; done), by first | rfl | (simp; done), by omega, by omega, ⟨H3.out⟩, ⟨by (with_reducible repeat (first | exact BKg.out | refine blk_far ?_ NGl _))⟩, ⟨by (with_reducible repeat (first | exact HO.out | refine impl_Fence.rfar ?_ NOV.out _))⟩, ⟨Kept.setCell (Kept.setCell (Kept.setCell KP.out (p := ⟨gl, 0, none⟩) (.inr GEl.out) _) (p := ⟨gl, 1, none⟩) (.inr GEl.out) _) (p := ⟨gl, 2, none⟩) (.inr GEl.out) _⟩, ⟨Below.setCell (p := ⟨gl, 2, none⟩) (Below.setCell (p := ⟨gl, 1, none⟩) (Below.setCell (p := ⟨gl, 0, none⟩) HB.out (Nat.le_of_lt LTl.out) _) (Nat.le_of_lt LTl.out) _) (Nat.le_of_lt LTl.out) _⟩⟩
        · rw [if_neg cd] at h2
          by_cases cl : acc.length < 3518437208880
          · rw [if_pos cl] at h2
            obtain ⟨L8, hL8⟩ : ∃ L : List S67, L = acc ++ [⟨xa, xd, (⟨#[]⟩ : ByteArray)⟩] := ⟨_, rfl⟩
            rw [← hL8] at h2
            have NL8 := Aside0.mk hL8
            have H3 := Aside0.mk h2
            have LM := Aside0.mk cl
            have e4 : (xs.toList != xd.toList) = true := bne_iff_ne.mpr cd
            have e5 : (xs.toList == xd.toList) = false := beq_eq_false_iff_ne.mpr cd
            clear cd h2 hL8 cl
            obtain ⟨Av, cv, ev⟩ := Kd.R_slice HO.out
            subst ev
            go_wp2_with (first | ((with_reducible refine gate_dst (N := 4) rfl ?_); refine box_event ?hg (N := 4) ?hd (cs := #[.int .i64 0, .string (⟨#[]⟩ : ByteArray), .string (⟨#[]⟩ : ByteArray)]) (t := 67) ?hr ?_; (case hd => rfl); (case hg => rfl); (case hr => first | (go_simp; done) | (go_simp; rfl)); intro gl hg w6 hbox hb; have n0_ := Aside0.mk (impl_Fence.bstep HB.out hb HBW.out); have n1_ := Aside0.mk (blk_below BKg.out hb); have n2_ := Aside0.mk (KP.out.below hb); have n5_ := Aside0.mk (Kd.R_below HO.out hb); have GEl := Aside0.mk (by rw [hg]; exact KP.out.1 : w.heap.size ≤ gl); have LTl := Aside0.mk (by rw [hg]; exact blk_lt BKg.out : g < gl); have NOV := Aside0.mk (show ∀ k, (.slice Av acc.length cv : Value).ownBlock = some k → k ≠ gl by intro k hk; rw [hg]; exact Nat.ne_of_lt (Kd.R_lt HO.out k hk)); have BKl := Aside0.mk hbox; clear HB BKg KP HO hcg0; have HB := n0_; have BKg := n1_; have KP := n2_; have HO := n5_; clear n0_ n1_ n2_ n5_ hbox hg; replace hx0 := (hb.cell (World.block_lt_of_cell? wr _ hx0)).trans hx0; replace hx1 := (hb.cell (World.block_lt_of_cell? wr _ hx1)).trans hx1; replace hx2 := (hb.cell (World.block_lt_of_cell? wr _ hx2)).trans hx2; clear hb; have hcg0 : w6.cell? ⟨g, 0, none⟩ = some (.string s0) := (blk_cell BKg.out 0).trans rfl; have hfg0 := blk_frozen BKg.out 0; have NGl := Nat.ne_of_lt LTl.out; have NGl2 := NGl.symm; have hcl0 : w6.cell? ⟨gl, 0, none⟩ = some (.int .i64 0) := (blk_cell BKl.out 0).trans rfl; have hcl1 : w6.cell? ⟨gl, 1, none⟩ = some (.string (⟨#[]⟩ : ByteArray)) := (blk_cell BKl.out 1).trans rfl; have hcl2 : w6.cell? ⟨gl, 2, none⟩ = some (.string (⟨#[]⟩ : ByteArray)) := (blk_cell BKl.out 2).trans rfl; have hfl0 := blk_frozen BKl.out 0; have hfl1 := blk_frozen BKl.out 1; have hfl2 := blk_frozen BKl.out 2) | ((with_reducible refine gate_dst (N := 43) rfl ?_); refine impl_Fence.app k67 w.heap.size rfl (.tmp 36) (.tmp 42) 28 67 (.agg #[(.int .i64 0), (.string ⟨#[]⟩), (.string ⟨#[]⟩)]) 40 rfl Try.underlying28 info67 rfl (by decide) (by omega) (.slice Av acc.length cv) acc (⟨xa, xd, (⟨#[]⟩ : ByteArray)⟩ : S67) [.int .i64 xa, .string xd, .string (⟨#[]⟩ : ByteArray)] rfl (by first | (go_simp; done) | (go_simp; rfl)) ?aP ?aO ?aS ?aL ?_; (case aP => exact k67_mkM _ _ _ (⟨xa, xd, (⟨#[]⟩ : ByteArray)⟩ : S67)); (case aO => exact by (with_reducible repeat (first | exact HO.out | refine impl_Fence.rfar ?_ NOV.out _))); (case aS => have h_ := KP.out.1; simpa [World.setCell, World.drewN, World.drew] using h_); (case aL => have := LM.out; omega); intro v8 w8 ho8 hg8; rw [← NL8.out] at ho8; obtain ⟨A8, c8, e8⟩ := Kd.R_slice ho8; subst e8; have HG8 := Aside0.mk hg8; have HO8 := Aside0.mk ho8; clear hg8 ho8))
            have SZ8 := Aside0.mk (impl_Fence.sz HG8.out (Kept.setCell (Kept.setCell (Kept.setCell KP.out (p := ⟨gl, 0, none⟩) (.inr GEl.out) _) (p := ⟨gl, 1, none⟩) (.inr GEl.out) _) (p := ⟨gl, 2, none⟩) (.inr GEl.out) _ : Kept w _ (fun k => k = g)))
            have BK8 := Aside0.mk (blk_grown (o := .cells #[.string s0, .slice (some ad) l.length c] 30 (0, 0)) (by (with_reducible repeat (first | exact BKg.out | refine blk_far ?_ NGl _))) HG8.out (by have := Kd.R_ne HO.out BKg.out (by decide); exact this))
            have KP8 : Aside0 (Kept w w8 (fun k => k = g)) := Aside0.mk (Kept.of_grown HG8.out (Kept.setCell (Kept.setCell (Kept.setCell KP.out (p := ⟨gl, 0, none⟩) (.inr GEl.out) _) (p := ⟨gl, 1, none⟩) (.inr GEl.out) _) (p := ⟨gl, 2, none⟩) (.inr GEl.out) _ : Kept w _ (fun k => k = g)) (fun k hk => .inr (Kd.R_base HO.out k hk)))
            have HB8 : Aside0 (Below g w w8) := Aside0.mk (Below.grown (Below.setCell (p := ⟨gl, 2, none⟩) (Below.setCell (p := ⟨gl, 1, none⟩) (Below.setCell (p := ⟨gl, 0, none⟩) HB.out (Nat.le_of_lt LTl.out) _) (Nat.le_of_lt LTl.out) _) (Nat.le_of_lt LTl.out) _) HG8.out (Nat.le_trans (Nat.le_of_lt GLT.out) SZ8.out) (fun k hk => Nat.le_trans (Nat.le_of_lt GLT.out) (Kd.R_base HO.out k hk)))
            go_roundg (l.length - (i + 1))
            case measure => omega
            case rel => exact ⟨i + 1, _, L8, _, by first | rfl | (simp; done), by first | rfl | (simp; done), by omega, by omega, ⟨H3.out⟩, BK8, HO8, KP8, HB8⟩
          · rw [if_neg cl] at h2; cases h2
      · rw [if_neg ce] at hs2
        have e1 : (xs.toList == ([] : List UInt8)) = false := beq_eq_false_iff_ne.mpr ce
        have e2 : (xs.toList != ([] : List UInt8)) = true := bne_iff_ne.mpr ce
        have e3 : xs.toList.isEmpty = false := by simpa using ce
        have RP := Aside0.mk hs2
        obtain ⟨aw, haw⟩ : ∃ aw, aw = wrap64 (64 * xa) := ⟨_, rfl⟩
        have q3 : IntKind.i64.wrap (64 * xa) = aw := by rw [i64_w]; exact haw.symm
        rw [← haw] at hs2
        clear RP
        have RP := Aside0.mk hs2
        clear ce hs2 haw
        by_cases cd : xs.toList = xd.toList
        · rw [if_pos cd] at h2
          have H3 := Aside0.mk h2
          have e4 : (xs.toList != xd.toList) = false := bne_eq_false_iff_eq.mpr cd
          have e5 : (xs.toList == xd.toList) = true := beq_iff_eq.mpr cd
          clear cd h2
          go_wp2_with (first | ((with_reducible refine gate_dst (N := 4) rfl ?_); refine box_event ?hg (N := 4) ?hd (cs := #[.int .i64 0, .string (⟨#[]⟩ : ByteArray), .string (⟨#[]⟩ : ByteArray)]) (t := 67) ?hr ?_; (case hd => rfl); (case hg => rfl); (case hr => first | (go_simp; done) | (go_simp; rfl)); intro gl hg w6 hbox hb; have n0_ := Aside0.mk (impl_Fence.bstep HB.out hb HBW.out); have n1_ := Aside0.mk (blk_below BKg.out hb); have n2_ := Aside0.mk (KP.out.below hb); have n5_ := Aside0.mk (Kd.R_below HO.out hb); have GEl := Aside0.mk (by rw [hg]; exact KP.out.1 : w.heap.size ≤ gl); have LTl := Aside0.mk (by rw [hg]; exact blk_lt BKg.out : g < gl); have NOV := Aside0.mk (show ∀ k, v.ownBlock = some k → k ≠ gl by intro k hk; rw [hg]; exact Nat.ne_of_lt (Kd.R_lt HO.out k hk)); have BKl := Aside0.mk hbox; clear HB BKg KP HO hcg0; have HB := n0_; have BKg := n1_; have KP := n2_; have HO := n5_; clear n0_ n1_ n2_ n5_ hbox hg; replace hx0 := (hb.cell (World.block_lt_of_cell? wr _ hx0)).trans hx0; replace hx1 := (hb.cell (World.block_lt_of_cell? wr _ hx1)).trans hx1; replace hx2 := (hb.cell (World.block_lt_of_cell? wr _ hx2)).trans hx2; clear hb; have hcg0 : w6.cell? ⟨g, 0, none⟩ = some (.string s0) := (blk_cell BKg.out 0).trans rfl; have hfg0 := blk_frozen BKg.out 0; have NGl := Nat.ne_of_lt LTl.out; have NGl2 := NGl.symm; have hcl0 : w6.cell? ⟨gl, 0, none⟩ = some (.int .i64 0) := (blk_cell BKl.out 0).trans rfl; have hcl1 : w6.cell? ⟨gl, 1, none⟩ = some (.string (⟨#[]⟩ : ByteArray)) := (blk_cell BKl.out 1).trans rfl; have hcl2 : w6.cell? ⟨gl, 2, none⟩ = some (.string (⟨#[]⟩ : ByteArray)) := (blk_cell BKl.out 2).trans rfl; have hfl0 := blk_frozen BKl.out 0; have hfl1 := blk_frozen BKl.out 1; have hfl2 := blk_frozen BKl.out 2))
          go_region_law (refine goes_ Try.func62 (by kernel_rfl) rfl #[.string s0, .int .i64 aw, .string xs] (by simp [Region.wanted]) rfl rfl (by first | rfl | (simp [Act.eval, Act.put]; done)) ?_; (with_reducible refine (impl_replaced.calls s0 aw xs s2 _ RP.out).mono ?_); rintro e w9 ⟨rfl, ⟨nd, rfl⟩⟩; refine ⟨_, rfl, ?_⟩)
          all_goals
            go_wp2
            go_roundg (l.length - (i + 1))
            case measure => omega
            case rel => exact ⟨i + 1, _, acc, v, by first | rfl | (simp; done), by first | rfl | (simp; done), by omega, by omega, ⟨H3.out⟩, ⟨blk_put (cs := #[.string s0, .slice (some ad) l.length c]) (by (with_reducible repeat (first | exact BKg.out | refine blk_drewN ?_ _ | refine blk_drew ?_ | refine blk_far ?_ NGl _))) 0 _ rfl⟩, ⟨impl_Fence.rfar (by (with_reducible repeat (first | exact HO.out | apply Kd.R_drewN | apply Kd.R_drew | refine impl_Fence.rfar ?_ NOV.out _))) (fun k hk e_ => Kd.R_ne HO.out BKg.out (by decide) (by rw [hk, e_])) _⟩, ⟨Kept.setCell (p := ⟨g, 0, none⟩) (Kept.drewN (Kept.setCell (Kept.setCell (Kept.setCell KP.out (p := ⟨gl, 0, none⟩) (.inr GEl.out) _) (p := ⟨gl, 1, none⟩) (.inr GEl.out) _) (p := ⟨gl, 2, none⟩) (.inr GEl.out) _) _) (.inl rfl) _⟩, ⟨Below.setCell (p := ⟨g, 0, none⟩) (pw_below_drewN (Below.setCell (p := ⟨gl, 2, none⟩) (Below.setCell (p := ⟨gl, 1, none⟩) (Below.setCell (p := ⟨gl, 0, none⟩) HB.out (Nat.le_of_lt LTl.out) _) (Nat.le_of_lt LTl.out) _) (Nat.le_of_lt LTl.out) _) _) (Nat.le_refl _) _⟩⟩
        · rw [if_neg cd] at h2
          by_cases cl : acc.length < 3518437208880
          · rw [if_pos cl] at h2
            obtain ⟨L8, hL8⟩ : ∃ L : List S67, L = acc ++ [⟨xa, xd, (⟨#[]⟩ : ByteArray)⟩] := ⟨_, rfl⟩
            rw [← hL8] at h2
            have NL8 := Aside0.mk hL8
            have H3 := Aside0.mk h2
            have LM := Aside0.mk cl
            have e4 : (xs.toList != xd.toList) = true := bne_iff_ne.mpr cd
            have e5 : (xs.toList == xd.toList) = false := beq_eq_false_iff_ne.mpr cd
            clear cd h2 hL8 cl
            obtain ⟨Av, cv, ev⟩ := Kd.R_slice HO.out
            subst ev
            go_wp2_with (first | ((with_reducible refine gate_dst (N := 4) rfl ?_); refine box_event ?hg (N := 4) ?hd (cs := #[.int .i64 0, .string (⟨#[]⟩ : ByteArray), .string (⟨#[]⟩ : ByteArray)]) (t := 67) ?hr ?_; (case hd => rfl); (case hg => rfl); (case hr => first | (go_simp; done) | (go_simp; rfl)); intro gl hg w6 hbox hb; have n0_ := Aside0.mk (impl_Fence.bstep HB.out hb HBW.out); have n1_ := Aside0.mk (blk_below BKg.out hb); have n2_ := Aside0.mk (KP.out.below hb); have n5_ := Aside0.mk (Kd.R_below HO.out hb); have GEl := Aside0.mk (by rw [hg]; exact KP.out.1 : w.heap.size ≤ gl); have LTl := Aside0.mk (by rw [hg]; exact blk_lt BKg.out : g < gl); have NOV := Aside0.mk (show ∀ k, (.slice Av acc.length cv : Value).ownBlock = some k → k ≠ gl by intro k hk; rw [hg]; exact Nat.ne_of_lt (Kd.R_lt HO.out k hk)); have BKl := Aside0.mk hbox; clear HB BKg KP HO hcg0; have HB := n0_; have BKg := n1_; have KP := n2_; have HO := n5_; clear n0_ n1_ n2_ n5_ hbox hg; replace hx0 := (hb.cell (World.block_lt_of_cell? wr _ hx0)).trans hx0; replace hx1 := (hb.cell (World.block_lt_of_cell? wr _ hx1)).trans hx1; replace hx2 := (hb.cell (World.block_lt_of_cell? wr _ hx2)).trans hx2; clear hb; have hcg0 : w6.cell? ⟨g, 0, none⟩ = some (.string s0) := (blk_cell BKg.out 0).trans rfl; have hfg0 := blk_frozen BKg.out 0; have NGl := Nat.ne_of_lt LTl.out; have NGl2 := NGl.symm; have hcl0 : w6.cell? ⟨gl, 0, none⟩ = some (.int .i64 0) := (blk_cell BKl.out 0).trans rfl; have hcl1 : w6.cell? ⟨gl, 1, none⟩ = some (.string (⟨#[]⟩ : ByteArray)) := (blk_cell BKl.out 1).trans rfl; have hcl2 : w6.cell? ⟨gl, 2, none⟩ = some (.string (⟨#[]⟩ : ByteArray)) := (blk_cell BKl.out 2).trans rfl; have hfl0 := blk_frozen BKl.out 0; have hfl1 := blk_frozen BKl.out 1; have hfl2 := blk_frozen BKl.out 2))
            go_region_law (refine goes_ Try.func62 (by kernel_rfl) rfl #[.string s0, .int .i64 aw, .string xs] (by simp [Region.wanted]) rfl rfl (by first | rfl | (simp [Act.eval, Act.put]; done)) ?_; (with_reducible refine (impl_replaced.calls s0 aw xs s2 _ RP.out).mono ?_); rintro e w9 ⟨rfl, ⟨nd, rfl⟩⟩; refine ⟨_, rfl, ?_⟩)
            all_goals
              go_wp2_with (first | ((with_reducible refine gate_dst (N := 43) rfl ?_); refine impl_Fence.app k67 w.heap.size rfl (.tmp 36) (.tmp 42) 28 67 (.agg #[(.int .i64 0), (.string ⟨#[]⟩), (.string ⟨#[]⟩)]) 40 rfl Try.underlying28 info67 rfl (by decide) (by omega) (.slice Av acc.length cv) acc (⟨xa, xd, (⟨#[]⟩ : ByteArray)⟩ : S67) [.int .i64 xa, .string xd, .string (⟨#[]⟩ : ByteArray)] rfl (by first | (go_simp; done) | (go_simp; rfl)) ?aP ?aO ?aS ?aL ?_; (case aP => exact k67_mkM _ _ _ (⟨xa, xd, (⟨#[]⟩ : ByteArray)⟩ : S67)); (case aO => exact impl_Fence.rfar (by (with_reducible repeat (first | exact HO.out | apply Kd.R_drewN | apply Kd.R_drew | refine impl_Fence.rfar ?_ NOV.out _))) (fun k hk e_ => Kd.R_ne HO.out BKg.out (by decide) (by rw [hk, e_])) _); (case aS => have h_ := KP.out.1; simpa [World.setCell, World.drewN, World.drew] using h_); (case aL => have := LM.out; omega); intro v8 w8 ho8 hg8; rw [← NL8.out] at ho8; obtain ⟨A8, c8, e8⟩ := Kd.R_slice ho8; subst e8; have HG8 := Aside0.mk hg8; have HO8 := Aside0.mk ho8; clear hg8 ho8))
              have SZ8 := Aside0.mk (impl_Fence.sz HG8.out (Kept.setCell (p := ⟨g, 0, none⟩) (Kept.drewN (Kept.setCell (Kept.setCell (Kept.setCell KP.out (p := ⟨gl, 0, none⟩) (.inr GEl.out) _) (p := ⟨gl, 1, none⟩) (.inr GEl.out) _) (p := ⟨gl, 2, none⟩) (.inr GEl.out) _) _) (.inl rfl) _ : Kept w _ (fun k => k = g)))
              have BK8 := Aside0.mk (blk_grown (o := .cells #[.string s2, .slice (some ad) l.length c] 30 (0, 0)) (blk_put (cs := #[.string s0, .slice (some ad) l.length c]) (by (with_reducible repeat (first | exact BKg.out | refine blk_drewN ?_ _ | refine blk_drew ?_ | refine blk_far ?_ NGl _))) 0 _ rfl) HG8.out (by have := Kd.R_ne HO.out BKg.out (by decide); exact this))
              have KP8 : Aside0 (Kept w w8 (fun k => k = g)) := Aside0.mk (Kept.of_grown HG8.out (Kept.setCell (p := ⟨g, 0, none⟩) (Kept.drewN (Kept.setCell (Kept.setCell (Kept.setCell KP.out (p := ⟨gl, 0, none⟩) (.inr GEl.out) _) (p := ⟨gl, 1, none⟩) (.inr GEl.out) _) (p := ⟨gl, 2, none⟩) (.inr GEl.out) _) _) (.inl rfl) _ : Kept w _ (fun k => k = g)) (fun k hk => .inr (Kd.R_base HO.out k hk)))
              have HB8 : Aside0 (Below g w w8) := Aside0.mk (Below.grown (Below.setCell (p := ⟨g, 0, none⟩) (pw_below_drewN (Below.setCell (p := ⟨gl, 2, none⟩) (Below.setCell (p := ⟨gl, 1, none⟩) (Below.setCell (p := ⟨gl, 0, none⟩) HB.out (Nat.le_of_lt LTl.out) _) (Nat.le_of_lt LTl.out) _) (Nat.le_of_lt LTl.out) _) _) (Nat.le_refl _) _) HG8.out (Nat.le_trans (Nat.le_of_lt GLT.out) SZ8.out) (fun k hk => Nat.le_trans (Nat.le_of_lt GLT.out) (Kd.R_base HO.out k hk)))
              go_roundg (l.length - (i + 1))
              case measure => omega
              case rel => exact ⟨i + 1, _, L8, _, by first | rfl | (simp; done), by first | rfl | (simp; done), by omega, by omega, ⟨H3.out⟩, BK8, HO8, KP8, HB8⟩
          · rw [if_neg cl] at h2; cases h2
    · have h1 := H.out
      rw [List.drop_of_length_le (by omega)] at h1
      unfold impl_Fence.l at h1
      obtain ⟨rfl, rfl⟩ := Prod.mk.inj (Option.some.inj h1)
      have hin : i = l.length := by omega
      subst hin
      clear ci h1
      have hcg0 : wr.cell? ⟨g, 0, none⟩ = some (.string s0) := (blk_cell BKg.out 0).trans rfl
      have hcg1 : wr.cell? ⟨g, 1, none⟩ = some (.slice A l.length c) := (blk_cell BKg.out 1).trans rfl
      have hfg1 := blk_frozen BKg.out 1
      obtain ⟨Av, cv, ev⟩ := Kd.R_slice HO.out
      subst ev
      go_wp2
      go_end0
      exact ⟨rfl, _, blk_put BKg.out 1 _ rfl, impl_Fence.rfar HO.out (fun k hk e_ => Kd.R_ne HO.out BKg.out (by decide) (by rw [hk, e_])) _, KP.out.setCell (.inl rfl) _, HB.out.setCell (p := ⟨g, 1, none⟩) (Nat.le_refl _) _⟩
theorem impl_Fence.bstep2 {N B : Nat} {w0 w w1 : World} (h : Below N w0 w) (hb : Below B w w1) (hle : N ≤ B) : Below N w0 w1 := h.trans (hb.mono hle)
def impl_Fence.f (k : Nat) (a0_0 : ByteArray) (l0_1 : List S67) : Option (ByteArray × (List (S67))) := (impl_DeviceOk.f k a0_0 l0_1).bind fun t => if t = true then ((impl_Device_own.f a0_0 l0_1).bind fun o => impl_Fence.l o.2 o.1 []) else some ((⟨#[]⟩ : ByteArray), [])
theorem impl_Fence.mono : ∀ a0 a1 k, LeO (impl_Fence.f k a0 a1) (impl_Fence.f (k + 1) a0 a1) := by
  intro a0 a1 k
  unfold impl_Fence.f
  exact LeO.bind (impl_DeviceOk.mono _ _ _) (fun t => LeO.refl _)
set_option maxHeartbeats 8000000 in
set_option maxRecDepth 1000000 in
theorem impl_Fence.calls (k : Nat) (a0_0 : ByteArray) (A0_1 : Option Addr) (c0_1 : Nat) (l0_1 : List (S67)) (r1 : ByteArray) (r2 : List (S67)) (w : World) (hr0_1 : Kd.C k67 w A0_1 l0_1.length l0_1) (hc0_1 : l0_1.length ≤ c0_1) (h : impl_Fence.f k a0_0 l0_1 = some (r1, r2)) :
    Calls Try.prog 30 #[.agg #[.string a0_0, .slice A0_1 l0_1.length c0_1]] w fun e w' => ∃ v1_ : Value, e = .returned (.agg #[.string r1, v1_]) ∧ Kd.R k67 67 w' w.heap.size (fun _ => True) v1_ r2 ∧ Below w.heap.size w w' := by
  have hu30 := Try.underlying30
  have HR := Aside0.mk hr0_1
  have HC := Aside0.mk hc0_1
  clear hr0_1 hc0_1
  have HB := Aside0.mk (Below.refl w.heap.size w)
  unfold impl_Fence.f at h
  obtain ⟨t, ht, h⟩ := Option.bind_eq_some_iff.mp h
  have T := Aside0.mk ht
  clear ht
  by_cases ct : t = true
  · subst ct
    rw [if_pos rfl] at h
    obtain ⟨⟨s2, l2⟩, ho, hf⟩ := Option.bind_eq_some_iff.mp h
    obtain ⟨s3, hs3⟩ : ∃ s3, s3 = r1 := ⟨_, rfl⟩
    obtain ⟨l3, hl3⟩ : ∃ l3, l3 = r2 := ⟨_, rfl⟩
    subst hs3
    subst hl3
    simp only at hf
    have O := Aside0.mk ho
    have F := Aside0.mk hf
    clear ho hf h
    go_enter Try.func30, Try.ntmps30
    go_wp2_with (first | ((with_reducible refine gate_dst (N := 1) rfl ?_); refine box_event ?hg (N := 1) ?hd (cs := #[.string a0_0, .slice A0_1 l0_1.length c0_1]) (t := 30) ?hr ?_; (case hd => rfl); (case hg => rfl); (case hr => first | (go_simp; done) | (go_simp; rfl)); intro gd hg w4 hbox hb; have n0_ := Aside0.mk (below_step HB.out hb); have n1_ := Aside0.mk hbox; have n3_ := Aside0.mk (by rw [hg]; exact (below_size HB.out) : w.heap.size ≤ gd); clear HB; have HB := n0_; have BK := n1_; have GE := n3_; clear n0_ n1_ n3_; clear hb hbox hg; have hcz0 : w4.cell? ⟨gd, 0, none⟩ = some (.string a0_0) := (blk_cell BK.out 0).trans rfl; have hcz1 : w4.cell? ⟨gd, 1, none⟩ = some (.slice A0_1 l0_1.length c0_1) := (blk_cell BK.out 1).trans rfl) | ((with_reducible refine gate_dst (N := 2) rfl ?_); refine box_event ?hg (N := 2) ?hd (cs := #[.string (⟨#[]⟩ : ByteArray), .slice none 0 0]) (t := 30) ?hr ?_; (case hd => rfl); (case hg => rfl); (case hr => first | (go_simp; done) | (go_simp; rfl)); intro gr hg w5 hbox hb; have n0_ := Aside0.mk (below_step HB.out hb); have n1_ := Aside0.mk hbox; have n2_ := Aside0.mk (blk_below BK.out hb); have n3_ := Aside0.mk (by rw [hg]; exact (below_size HB.out) : w.heap.size ≤ gr); have n4_ := Aside0.mk (by rw [hg]; exact Nat.ne_of_lt (blk_lt BK.out) : gd ≠ gr); clear HB BK hcz0 hcz1; have HB := n0_; have BKr := n1_; have BK := n2_; have GEr := n3_; have NEr := n4_; clear n0_ n1_ n2_ n3_ n4_; clear hb hbox hg; have hcz0 : w5.cell? ⟨gd, 0, none⟩ = some (.string a0_0) := (blk_cell BK.out 0).trans rfl; have hcz1 : w5.cell? ⟨gd, 1, none⟩ = some (.slice A0_1 l0_1.length c0_1) := (blk_cell BK.out 1).trans rfl; have hcr0 : w5.cell? ⟨gr, 0, none⟩ = some (.string (⟨#[]⟩ : ByteArray)) := (blk_cell BKr.out 0).trans rfl; have hcr1 : w5.cell? ⟨gr, 1, none⟩ = some (.slice none 0 0) := (blk_cell BKr.out 1).trans rfl; have hfr0 := blk_frozen BKr.out 0; have hfr1 := blk_frozen BKr.out 1) | (go_at_call 45; (with_reducible refine (impl_DeviceOk.calls k a0_0 _ _ l0_1 true _ ?side1 ?side2 T.out).mono ?_); (case side1 => exact Kd.C_below HR.out HB.out); (case side2 => exact HC.out); rintro e w6 ⟨rfl, hb⟩; have n0_ := Aside0.mk (below_step HB.out hb); have n1_ := Aside0.mk (blk_below BK.out hb); have n2_ := Aside0.mk (blk_below BKr.out hb); clear HB BK BKr hcz0 hcz1 hcr0 hcr1 hfr0 hfr1; have HB := n0_; have BK := n1_; have BKr := n2_; clear n0_ n1_ n2_ hb; have hcz0 : w6.cell? ⟨gd, 0, none⟩ = some (.string a0_0) := (blk_cell BK.out 0).trans rfl; have hcz1 : w6.cell? ⟨gd, 1, none⟩ = some (.slice A0_1 l0_1.length c0_1) := (blk_cell BK.out 1).trans rfl; have hcr0 : w6.cell? ⟨gr, 0, none⟩ = some (.string (⟨#[]⟩ : ByteArray)) := (blk_cell BKr.out 0).trans rfl; have hcr1 : w6.cell? ⟨gr, 1, none⟩ = some (.slice none 0 0) := (blk_cell BKr.out 1).trans rfl; have hfr0 := blk_frozen BKr.out 0; have hfr1 := blk_frozen BKr.out 1) | (go_at_call 65; (with_reducible refine (impl_Device_own.calls a0_0 _ _ l0_1 s2 l2 _ ?side1 ?side2 O.out).mono ?_); (case side1 => exact Kd.C_below HR.out HB.out); (case side2 => exact HC.out); rintro e w8 ⟨vo, rfl, ho, hb⟩; have n3_ := Aside0.mk (Kd.R_lower ho (below_size HB.out)); have n0_ := Aside0.mk (below_step HB.out hb); have n1_ := Aside0.mk (blk_below BK.out hb); have n2_ := Aside0.mk (blk_below BKr.out hb); clear HB BK BKr hcz0 hcz1 hcr0 hcr1 hfr0 hfr1; have HB := n0_; have BK := n1_; have BKr := n2_; clear n0_ n1_ n2_ hb; have hcz0 : w8.cell? ⟨gd, 0, none⟩ = some (.string a0_0) := (blk_cell BK.out 0).trans rfl; have hcz1 : w8.cell? ⟨gd, 1, none⟩ = some (.slice A0_1 l0_1.length c0_1) := (blk_cell BK.out 1).trans rfl; have hcr0 : w8.cell? ⟨gr, 0, none⟩ = some (.string (⟨#[]⟩ : ByteArray)) := (blk_cell BKr.out 0).trans rfl; have hcr1 : w8.cell? ⟨gr, 1, none⟩ = some (.slice none 0 0) := (blk_cell BKr.out 1).trans rfl; have hfr0 := blk_frozen BKr.out 0; have hfr1 := blk_frozen BKr.out 1; have HO := n3_; clear n3_ ho; obtain ⟨Ao, co, eo⟩ := Kd.R_slice HO.out; subst eo) | ((with_reducible refine gate_dst (N := 3) rfl ?_); refine box_event ?hg (N := 3) ?hd (cs := #[.string (⟨#[]⟩ : ByteArray), .slice none 0 0]) (t := 30) ?hr ?_; (case hd => rfl); (case hg => rfl); (case hr => first | (go_simp; done) | (go_simp; rfl)); intro gO hg w9 hbox hb; have n3_ := Aside0.mk (Kd.R_below HO.out hb); have n4_ := Aside0.mk hbox; have GEo := Aside0.mk (by rw [hg]; exact (below_size HB.out) : w.heap.size ≤ gO); have NErO := (by rw [hg]; exact Nat.ne_of_lt (blk_lt BKr.out) : gr ≠ gO); have NEOr := NErO.symm; clear HO; have HO := n3_; have BKo := n4_; clear n3_ n4_ hbox hg; have n0_ := Aside0.mk (below_step HB.out hb); have n1_ := Aside0.mk (blk_below BK.out hb); have n2_ := Aside0.mk (blk_below BKr.out hb); clear HB BK BKr hcz0 hcz1 hcr0 hcr1 hfr0 hfr1; have HB := n0_; have BK := n1_; have BKr := n2_; clear n0_ n1_ n2_ hb; have hcz0 : w9.cell? ⟨gd, 0, none⟩ = some (.string a0_0) := (blk_cell BK.out 0).trans rfl; have hcz1 : w9.cell? ⟨gd, 1, none⟩ = some (.slice A0_1 l0_1.length c0_1) := (blk_cell BK.out 1).trans rfl; have hcr0 : w9.cell? ⟨gr, 0, none⟩ = some (.string (⟨#[]⟩ : ByteArray)) := (blk_cell BKr.out 0).trans rfl; have hcr1 : w9.cell? ⟨gr, 1, none⟩ = some (.slice none 0 0) := (blk_cell BKr.out 1).trans rfl; have hfr0 := blk_frozen BKr.out 0; have hfr1 := blk_frozen BKr.out 1; have hco0 : w9.cell? ⟨gO, 0, none⟩ = some (.string (⟨#[]⟩ : ByteArray)) := (blk_cell BKo.out 0).trans rfl; have hco1 : w9.cell? ⟨gO, 1, none⟩ = some (.slice none 0 0) := (blk_cell BKo.out 1).trans rfl; have hfo0 := blk_frozen BKo.out 0; have hfo1 := blk_frozen BKo.out 1) | (go_at_call 66; (refine (impl_Fence.fence gO s2 Ao co l2 s3 l3 _ ?side1 ?side2 ?side3 F.out).mono ?_); (case side1 => exact blk_put (cs := #[.string s2, .slice none 0 0]) (blk_put BKo.out 0 _ rfl) 1 _ rfl); (case side2 => exact (Kd.R_reads' (Kd.R_far (p := ⟨gO, 1, none⟩) (Kd.R_far (p := ⟨gO, 0, none⟩) (Kd.R_types HO.out BKo.out (by decide)) (fun _ hk => hk.2) _) (fun _ hk => hk.2) _)).2.2); (case side3 => intro ad ea _ e_; subst ea; exact Kd.R_ne HO.out BKo.out (by decide) (by simp [Value.ownBlock, e_])); rintro e w10 ⟨rfl, v3, hbo, hro, hkp, hb⟩; have n0_ := Aside0.mk (impl_Fence.bstep2 (below_set (below_set HB.out GEo.out) GEo.out) hb GEo.out); have n1_ := Aside0.mk hbo; have n2_ := Aside0.mk (blk_kept (blk_far (blk_far BKr.out NErO _) NErO _) hkp NErO); have n3_ := Aside0.mk (Kd.R_lower hro (by have := below_size HB.out; simpa [World.setCell] using this)); clear HB BK BKr BKo HO hcz0 hcz1 hcr0 hcr1 hfr0 hfr1 hco0 hco1 hfo0 hfo1; have HB := n0_; have BKo := n1_; have BKr := n2_; have HO := n3_; clear n0_ n1_ n2_ n3_ hb hbo hro hkp; obtain ⟨A3, c3, e3⟩ := Kd.R_slice HO.out; subst e3; have hcr0 : w10.cell? ⟨gr, 0, none⟩ = some (.string (⟨#[]⟩ : ByteArray)) := (blk_cell BKr.out 0).trans rfl; have hcr1 : w10.cell? ⟨gr, 1, none⟩ = some (.slice none 0 0) := (blk_cell BKr.out 1).trans rfl; have hfr0 := blk_frozen BKr.out 0; have hfr1 := blk_frozen BKr.out 1; have hco0 : w10.cell? ⟨gO, 0, none⟩ = some (.string s3) := (blk_cell BKo.out 0).trans rfl; have hco1 : w10.cell? ⟨gO, 1, none⟩ = some (.slice A3 l3.length c3) := (blk_cell BKo.out 1).trans rfl))
    refine bodyPost_ret (results_cell_row rfl _ _ gr 30 #[.string s3, .slice A3 l3.length c3] (0, 0) _ rfl (by refine blk_put (cs := #[.string s3, .slice none 0 0]) ?_ 1 _ rfl; refine blk_put (cs := #[.string (⟨#[]⟩ : ByteArray), .slice none 0 0]) ?_ 0 _ rfl; exact BKr.out) Try.underlying30 rfl (by kernel_rfl)) rfl ?_
    exact ⟨_, rfl, Kd.R_mono (Kd.R_far (p := ⟨gr, 1, none⟩) (Kd.R_far (p := ⟨gr, 0, none⟩) (Kd.R_types HO.out BKr.out (by decide)) (fun _ hk => hk.2) _) (fun _ hk => hk.2) _) (fun _ _ => trivial), below_set (below_set HB.out GEr.out) GEr.out⟩
  · replace ct := Bool.eq_false_iff.mpr ct
    subst ct
    rw [if_neg (by decide)] at h
    simp only [Option.some.injEq, Prod.mk.injEq] at h
    obtain ⟨rfl, rfl⟩ := h
    go_enter Try.func30, Try.ntmps30
    go_wp2_with (first | ((with_reducible refine gate_dst (N := 1) rfl ?_); refine box_event ?hg (N := 1) ?hd (cs := #[.string a0_0, .slice A0_1 l0_1.length c0_1]) (t := 30) ?hr ?_; (case hd => rfl); (case hg => rfl); (case hr => first | (go_simp; done) | (go_simp; rfl)); intro gd hg w4 hbox hb; have n0_ := Aside0.mk (below_step HB.out hb); have n1_ := Aside0.mk hbox; have n3_ := Aside0.mk (by rw [hg]; exact (below_size HB.out) : w.heap.size ≤ gd); clear HB; have HB := n0_; have BK := n1_; have GE := n3_; clear n0_ n1_ n3_; clear hb hbox hg; have hcz0 : w4.cell? ⟨gd, 0, none⟩ = some (.string a0_0) := (blk_cell BK.out 0).trans rfl; have hcz1 : w4.cell? ⟨gd, 1, none⟩ = some (.slice A0_1 l0_1.length c0_1) := (blk_cell BK.out 1).trans rfl) | ((with_reducible refine gate_dst (N := 2) rfl ?_); refine box_event ?hg (N := 2) ?hd (cs := #[.string (⟨#[]⟩ : ByteArray), .slice none 0 0]) (t := 30) ?hr ?_; (case hd => rfl); (case hg => rfl); (case hr => first | (go_simp; done) | (go_simp; rfl)); intro gr hg w5 hbox hb; have n0_ := Aside0.mk (below_step HB.out hb); have n1_ := Aside0.mk hbox; have n2_ := Aside0.mk (blk_below BK.out hb); have n3_ := Aside0.mk (by rw [hg]; exact (below_size HB.out) : w.heap.size ≤ gr); have n4_ := Aside0.mk (by rw [hg]; exact Nat.ne_of_lt (blk_lt BK.out) : gd ≠ gr); clear HB BK hcz0 hcz1; have HB := n0_; have BKr := n1_; have BK := n2_; have GEr := n3_; have NEr := n4_; clear n0_ n1_ n2_ n3_ n4_; clear hb hbox hg; have hcz0 : w5.cell? ⟨gd, 0, none⟩ = some (.string a0_0) := (blk_cell BK.out 0).trans rfl; have hcz1 : w5.cell? ⟨gd, 1, none⟩ = some (.slice A0_1 l0_1.length c0_1) := (blk_cell BK.out 1).trans rfl; have hcr0 : w5.cell? ⟨gr, 0, none⟩ = some (.string (⟨#[]⟩ : ByteArray)) := (blk_cell BKr.out 0).trans rfl; have hcr1 : w5.cell? ⟨gr, 1, none⟩ = some (.slice none 0 0) := (blk_cell BKr.out 1).trans rfl; have hfr0 := blk_frozen BKr.out 0; have hfr1 := blk_frozen BKr.out 1) | (go_at_call 45; (with_reducible refine (impl_DeviceOk.calls k a0_0 _ _ l0_1 false _ ?side1 ?side2 T.out).mono ?_); (case side1 => exact Kd.C_below HR.out HB.out); (case side2 => exact HC.out); rintro e w6 ⟨rfl, hb⟩; have n0_ := Aside0.mk (below_step HB.out hb); have n1_ := Aside0.mk (blk_below BK.out hb); have n2_ := Aside0.mk (blk_below BKr.out hb); clear HB BK BKr hcz0 hcz1 hcr0 hcr1 hfr0 hfr1; have HB := n0_; have BK := n1_; have BKr := n2_; clear n0_ n1_ n2_ hb; have hcz0 : w6.cell? ⟨gd, 0, none⟩ = some (.string a0_0) := (blk_cell BK.out 0).trans rfl; have hcz1 : w6.cell? ⟨gd, 1, none⟩ = some (.slice A0_1 l0_1.length c0_1) := (blk_cell BK.out 1).trans rfl; have hcr0 : w6.cell? ⟨gr, 0, none⟩ = some (.string (⟨#[]⟩ : ByteArray)) := (blk_cell BKr.out 0).trans rfl; have hcr1 : w6.cell? ⟨gr, 1, none⟩ = some (.slice none 0 0) := (blk_cell BKr.out 1).trans rfl; have hfr0 := blk_frozen BKr.out 0; have hfr1 := blk_frozen BKr.out 1))
    refine bodyPost_ret (results_cell_row rfl _ _ gr 30 #[.string (⟨#[]⟩ : ByteArray), .slice none 0 0] (0, 0) _ rfl (by refine blk_put (cs := #[.string (⟨#[]⟩ : ByteArray), .slice none 0 0]) ?_ 1 _ rfl; refine blk_put (cs := #[.string (⟨#[]⟩ : ByteArray), .slice none 0 0]) ?_ 0 _ rfl; exact BKr.out) Try.underlying30 rfl (by kernel_rfl)) rfl ?_
    exact ⟨_, rfl, Kd.R_nil _ _ _ _ _, below_set (below_set HB.out GEr.out) GEr.out⟩


end Go.Proofs.Ytbbbajnnoficbaa.PFnExactFence
