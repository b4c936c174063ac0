-- by a patched copy of the print (wip/tools/patch_print.py)
import Derived.Test.YtbbbajnnoficbaaPFnExactEvictx0
import Derived.Test.YtbbbajnnoficbaaPFnExactEvictx5
import Derived.Test.YtbbbajnnoficbaaPFnExactEvictx6
namespace Go.Proofs.Ytbbbajnnoficbaa.PFnExactEvict
open Go.RowKit Go.Proofs.YtbbbajnnoficbaaW.PrintWords Go.Proofs.YtbbbajnnoficbaaW.PrintLast Go.Proofs.YtbbbajnnoficbaaW.PrintMore
attribute [local go_sem] max2_int min2_int max_two min_two max_three min_three max_four min_four   -- for this text's walks alone
set_option linter.unusedVariables false
set_option linter.unusedSimpArgs false

/-! ### impl_replaced: function 62 -/
def impl_replaced.f (a0 : ByteArray) (a1 : Int) (a2 : ByteArray) : Option (ByteArray) := if 0 ≤ a1 then (if a1 ≤ (a0.size : Int) then (if (a0.extract 0 (a1 : Int).toNat).size + a2.size ≤ 9223372036854775807 then (if 0 ≤ (wrap64 (a1 + (a2.size : Int))) then (if (wrap64 (a1 + (a2.size : Int))) ≤ (a0.size : Int) then (if ((a0.extract 0 (a1 : Int).toNat) ++ a2).size + (a0.extract ((wrap64 (a1 + (a2.size : Int))) : Int).toNat a0.size).size ≤ 9223372036854775807 then (some (((a0.extract 0 (a1 : Int).toNat) ++ a2) ++ (a0.extract ((wrap64 (a1 + (a2.size : Int))) : Int).toNat a0.size))) else (none)) else (none)) else (none)) else (none)) else (none)) else (none)
set_option maxHeartbeats 8000000 in
set_option maxRecDepth 100000 in
theorem impl_replaced.calls (a0 : ByteArray) (a1 : Int) (a2 : ByteArray) (r : ByteArray) (w : World) (h : impl_replaced.f a0 a1 a2 = some r) :
    Calls Try.prog 62 #[.string a0, .int .i64 a1, .string a2] w fun e w' => e = .returned (.string r) ∧ Drawn0 w w' := by
  have H : (if 0 ≤ a1 then (if a1 ≤ (a0.size : Int) then (if (a0.extract 0 (a1 : Int).toNat).size + a2.size ≤ 9223372036854775807 then (if 0 ≤ (wrap64 (a1 + (a2.size : Int))) then (if (wrap64 (a1 + (a2.size : Int))) ≤ (a0.size : Int) then (if ((a0.extract 0 (a1 : Int).toNat) ++ a2).size + (a0.extract ((wrap64 (a1 + (a2.size : Int))) : Int).toNat a0.size).size ≤ 9223372036854775807 then (some (((a0.extract 0 (a1 : Int).toNat) ++ a2) ++ (a0.extract ((wrap64 (a1 + (a2.size : Int))) : Int).toNat a0.size))) else (none)) else (none)) else (none)) else (none)) else (none)) else (none)) = some r := h
  clear h
  by_cases c4 : 0 ≤ a1
  · rw [if_pos c4] at H
    have c4b0 := eq_true c4
    have c4b1 : decide (0 ≤ a1) = true := decide_eq_true c4
    clear c4
    by_cases c5 : a1 ≤ (a0.size : Int)
    · rw [if_pos c5] at H
      have c5b0 := eq_true c5
      have c5b1 : decide (a1 ≤ (a0.size : Int)) = true := decide_eq_true c5
      clear c5
      by_cases c6 : (a0.extract 0 (a1 : Int).toNat).size + a2.size ≤ 9223372036854775807
      · rw [if_pos c6] at H
        have c6b0 := eq_true c6
        have c6b1 : decide ((a0.extract 0 (a1 : Int).toNat).size + a2.size ≤ 9223372036854775807) = true := decide_eq_true c6
        try have c6b2 : (9223372036854775807 < (a0.extract 0 (a1 : Int).toNat).size + a2.size) = False := eq_false (Nat.not_lt.2 c6)
        obtain ⟨ji7, hji7⟩ : ∃ j_ : Int, (wrap64 (a1 + (a2.size : Int))) = j_ := ⟨_, rfl⟩
        replace H : (if 0 ≤ (ji7) then (if (ji7) ≤ (a0.size : Int) then (if ((a0.extract 0 (a1 : Int).toNat) ++ a2).size + (a0.extract ((ji7) : Int).toNat a0.size).size ≤ 9223372036854775807 then (some (((a0.extract 0 (a1 : Int).toNat) ++ a2) ++ (a0.extract ((ji7) : Int).toNat a0.size))) else (none)) else (none)) else (none)) = some r := by first | (rw [hji7] at H; exact H) | (simp only [hji7] at H ⊢; exact H)
        have hji7w : (IntKind.i64.wrap (a1 + (a2.size : Int))) = ji7 := (i64_w _).trans hji7
        by_cases c8 : 0 ≤ (ji7)
        · rw [if_pos c8] at H
          have c8b0 := eq_true c8
          have c8b1 : decide (0 ≤ (ji7)) = true := decide_eq_true c8
          clear c8
          by_cases c9 : (ji7) ≤ (a0.size : Int)
          · rw [if_pos c9] at H
            have c9b0 := eq_true c9
            have c9b1 : decide ((ji7) ≤ (a0.size : Int)) = true := decide_eq_true c9
            clear c9
            by_cases c10 : ((a0.extract 0 (a1 : Int).toNat) ++ a2).size + (a0.extract ((ji7) : Int).toNat a0.size).size ≤ 9223372036854775807
            · rw [if_pos c10] at H
              have c10b0 := eq_true c10
              have c10b1 : decide (((a0.extract 0 (a1 : Int).toNat) ++ a2).size + (a0.extract ((ji7) : Int).toNat a0.size).size ≤ 9223372036854775807) = true := decide_eq_true c10
              try have c10b2 : (9223372036854775807 < ((a0.extract 0 (a1 : Int).toNat) ++ a2).size + (a0.extract ((ji7) : Int).toNat a0.size).size) = False := eq_false (Nat.not_lt.2 c10)
              (try (have c10b5 := c10b0; simp only [ByteArray.size_append] at c10b5))
              (try (have c10b6 := c10b1; simp only [ByteArray.size_append] at c10b6))
              (try (have c10b7 := c10b2; simp only [ByteArray.size_append] at c10b7))
              obtain rfl := Option.some.inj H
              go_enter Try.func62, Try.ntmps62
              go_wp2
              repeat (go_quiet (fail); try go_wp2)
              go_ret
              exact ⟨by first | rfl | (simp; done) | (simp only [← hji7] <;> (first | rfl | simp)) | (simp [*]; done), by repeat (first | exact Drawn0.refl _ | apply Drawn0.step)⟩
            · rw [if_neg c10] at H
              exact absurd H (by simp)
          · rw [if_neg c9] at H
            exact absurd H (by simp)
        · rw [if_neg c8] at H
          exact absurd H (by simp)
      · rw [if_neg c6] at H
        exact absurd H (by simp)
    · rw [if_neg c5] at H
      exact absurd H (by simp)
  · rw [if_neg c4] at H
    exact absurd H (by simp)

/-! ### impl_Line: function 95 -/
def impl_Line.f (l0 : List S67) : Option (List S67) := if l0.length < 3518437208883 then some l0 else none
set_option maxHeartbeats 4000000 in
set_option maxRecDepth 1000000 in
theorem impl_Line.calls (A0 : Option Addr) (c0 : Nat) (l0 : List (S67)) (r : List (S67)) (w : World) (hr0 : Kd.C k67 w A0 l0.length l0) (hc0 : l0.length ≤ c0) (h : impl_Line.f l0 = some r) :
    Calls Try.prog 95 #[.slice A0 l0.length c0] w fun e w' => ∃ v0_ : Value, e = .returned (v0_) ∧ Kd.R k67 67 w' w.heap.size (fun _ => True) v0_ r ∧ Below w.heap.size w w' := by
  have hu28 := Try.underlying28
  have HB := Aside0.mk (Below.refl w.heap.size w)
  unfold impl_Line.f at h
  by_cases c : l0.length < 3518437208883
  · rw [if_pos c] at h
    obtain rfl := Option.some.inj h
    clear h
    have HR := Aside0.mk hr0
    have LM := Aside0.mk c
    cases A0 with
    | none =>
      have hz : l0 = [] := by
        rcases Nat.eq_zero_or_pos l0.length with h0 | h0
        · exact List.eq_nil_of_length_eq_zero h0
        · obtain ⟨ad, e, _⟩ := hr0.2.2 h0; cases e
      subst hz
      have EQ : ∀ W, (binOp .eql 28 (.slice none 0 c0) (.slice none 0 0)).run Try.prog W = .ok (.bool true) W := fun W => run_eql_slice_nil (P := Try.prog) W 28 67 none 0 c0 Try.underlying28
      clear hr0
      go_enter Try.func95, Try.ntmps95
      go_wp2
      go_ret
      exact ⟨_, rfl, Kd.R_nil _ _ _ _ _, HB.out⟩
    | some ad =>
      have EQ : ∀ W, (binOp .eql 28 (.slice (some ad) l0.length c0) (.slice none 0 0)).run Try.prog W = .ok (.bool false) W := fun W => run_eql_slice_nil (P := Try.prog) W 28 67 (some ad) l0.length c0 Try.underlying28
      clear hr0
      go_enter Try.func95, Try.ntmps95
      go_wp2_with (first | ((with_reducible refine gate_dst (N := 5) rfl ?_); refine Kd.R_lit k67 _ 67 ?hg (N := 5) ?hd (xs := ([] : List S67)) (inner := []) (ok := fun _ => True) (okp := fun _ => True) ?hr ?hp (fun _ hk => hk) trivial (Below.refl _ _) (Nat.le_refl _) (by simp) ?_; (case hd => rfl); (case hg => rfl); (case hr => first | (go_simp; done) | (go_simp; rfl)); (case hp => exact (Reps.none _ _)); intro v1 w7 ho hb hg_ hnew_; clear hg_ hnew_; have n0_ := Aside0.mk (Kd.R_lower ho (below_size HB.out)); have n1_ := Aside0.mk (below_step HB.out hb); clear HB; have HO := n0_; have HB := n1_; clear n0_ n1_ hb ho) | ((with_reducible refine gate_dst (N := 7) rfl ?_); refine Kd.R_append_rows k67 (w0 := w) w.heap.size rfl (.tmp 5) (.tmp 6) 28 67 (.agg #[(.int .i64 0), (.string ⟨#[]⟩), (.string ⟨#[]⟩)]) 40 rfl Try.underlying28 info67 rfl (by decide) (by omega) v1 [] l0 _ _ _ (fun _ => True) (fun _ => False) rfl rfl ?aO ?aR (fun _ _ h => h) (fun _ h => h.elim) ?aF ?aB ?aS ?aL ?_; (case aR => exact Kd.C_below HR.out HB.out); (case aB => exact HB.out); (case aF => exact (fun _ _ => trivial)); (case aO => exact HO.out); (case aS => exact below_size HB.out); (case aL => have := LM.out; simp only [List.length_nil]; omega); intro v2 w8 ho hb hg hat; have n0_ := Aside0.mk ho; have n1_ := Aside0.mk hb; clear HB HO; have HO := n0_; have HB := n1_; clear n0_ n1_ ho hb hg hat))
      go_ret
      exact ⟨_, rfl, HO.out, HB.out⟩
  · rw [if_neg c] at h; cases h


/-! ### impl_Device_own: function 65 -/
def impl_Device_own.f (a0_0 : ByteArray) (l0_1 : List (S67)) : Option (ByteArray × (List (S67))) := (impl_Line.f l0_1).bind fun t186 => (some (a0_0, t186))
set_option maxHeartbeats 8000000 in
set_option maxRecDepth 100000 in
theorem impl_Device_own.calls (a0_0 : ByteArray) (A0_1 : Option Addr) (c0_1 : Nat) (l0_1 : List (S67)) (r1 : ByteArray) (r2 : List (S67)) (w : World) (hr0_1 : Kd.C k67 w A0_1 l0_1.length l0_1) (hc0_1 : l0_1.length ≤ c0_1) (h : impl_Device_own.f a0_0 l0_1 = some (r1, r2)) :
    Calls Try.prog 65 #[.agg #[.string a0_0, .slice A0_1 l0_1.length c0_1]] w fun e w' => ∃ v1_ : Value, e = .returned (.agg #[.string r1, v1_]) ∧ Kd.R k67 67 w' w.heap.size (fun _ => True) v1_ r2 ∧ Below w.heap.size w w' := by
  have hu30 := Try.underlying30
  have HR0_1 := Aside0.mk hr0_1
  have HC0_1 := Aside0.mk hc0_1
  clear hr0_1 hc0_1
  have HB := Aside0.mk (Below.refl w.heap.size w)
  have H : ((impl_Line.f l0_1).bind fun t186 => (some (a0_0, t186))) = some (r1, r2) := h
  clear h
  replace H := Option.bind_eq_some_iff.mp H
  obtain ⟨t186, A20, H⟩ := H
  replace H : (some (a0_0, t186)) = some (r1, r2) := H
  have A2 := Aside0.mk A20
  clear A20
  simp only [Option.some.injEq, Prod.mk.injEq] at H
  obtain ⟨rfl, rfl⟩ := H
  go_enter Try.func65, Try.ntmps65
  try go_wp2_with (first | ((with_reducible refine gate_dst (N := 1) rfl ?_); refine box_event ?hg (N := 1) ?hd (cs := #[.string a0_0, .slice A0_1 l0_1.length c0_1]) (t := 30) ?hr ?_; (case hd => rfl); (case hg => rfl); (case hr => first | (go_simp; done) | (go_simp; rfl)); intro gb184 hg w3 hbox hb; have n0_ := Aside0.mk (below_step (by repeat (first | (with_reducible first | exact HB.out | apply below_alloc | apply pw_below_drewN | apply below_drew1) | exact HB.out)) hb); have n1_ := Aside0.mk (hbox); have n2_ := Aside0.mk ((by rw [hg]; exact (below_size (by repeat (first | (with_reducible first | exact HB.out | apply below_alloc | apply pw_below_drewN | apply below_drew1) | exact HB.out))) : w.heap.size ≤ gb184)); have n3_ := Aside0.mk ((by rw [hg]; exact (below_size (by repeat (first | (with_reducible first | exact HB.out | apply below_alloc | apply pw_below_drewN | apply below_drew1) | exact HB.out))) : w.heap.size ≤ gb184)); clear HB; have HB := n0_; have BK184 := n1_; have GW184 := n2_; have GE184 := n3_; clear n0_ n1_ n2_ n3_; clear hb hbox hg) | ((with_reducible refine gate_dst (N := 2) rfl ?_); refine box_event ?hg (N := 2) ?hd (cs := #[.string (⟨#[]⟩ : ByteArray), .slice none 0 0]) (t := 30) ?hr ?_; (case hd => rfl); (case hg => rfl); (case hr => first | (go_simp; done) | (go_simp; rfl)); intro gb185 hg w4 hbox hb; have n0_ := Aside0.mk (blk_below (g := gb184) (o := .cells #[.string a0_0, .slice A0_1 l0_1.length c0_1] 30 (0, 0)) (by (with_reducible repeat (first | refine blk_drewN ?_ _ | refine blk_drew ?_ | refine blk_alloc ?_ _)); exact BK184.out) hb); have n1_ := Aside0.mk (below_step (by repeat (first | (with_reducible first | exact HB.out | apply below_alloc | apply pw_below_drewN | apply below_drew1 | refine below_set ?_ GE184.out) | exact HB.out)) hb); have n2_ := Aside0.mk (hbox); have n3_ := Aside0.mk ((by rw [hg]; exact (below_size (by repeat (first | (with_reducible first | exact HB.out | apply below_alloc | apply pw_below_drewN | apply below_drew1 | refine below_set ?_ GE184.out) | exact HB.out))) : w.heap.size ≤ gb185)); have n4_ := Aside0.mk ((by rw [hg]; exact (below_size (by repeat (first | (with_reducible first | exact HB.out | apply below_alloc | apply pw_below_drewN | apply below_drew1 | refine below_set ?_ GE184.out) | exact HB.out))) : w.heap.size ≤ gb185)); have n5_ := Aside0.mk ((by rw [hg]; exact Nat.ne_of_lt (blk_lt (g := gb184) (o := .cells #[.string a0_0, .slice A0_1 l0_1.length c0_1] 30 (0, 0)) (by (with_reducible repeat (first | refine blk_drewN ?_ _ | refine blk_drew ?_ | refine blk_alloc ?_ _)); exact BK184.out)) : gb184 ≠ gb185)); have n6_ := Aside0.mk ((by rw [hg]; exact Nat.ne_of_gt (blk_lt (g := gb184) (o := .cells #[.string a0_0, .slice A0_1 l0_1.length c0_1] 30 (0, 0)) (by (with_reducible repeat (first | refine blk_drewN ?_ _ | refine blk_drew ?_ | refine blk_alloc ?_ _)); exact BK184.out)) : gb185 ≠ gb184)); clear BK184; clear HB; have BK184 := n0_; have HB := n1_; have BK185 := n2_; have GW185 := n3_; have GE185 := n4_; have NB184_185 := n5_; have NB185_184 := n6_; clear n0_ n1_ n2_ n3_ n4_ n5_ n6_; clear hb hbox hg))
  have n0_ := Aside0.mk (blk_drew BK184.out)
  have n1_ := Aside0.mk (blk_drew BK185.out)
  have n2_ := Aside0.mk (below_drew1 HB.out)
  clear BK184
  clear BK185
  clear HB
  have BK184 := n0_
  have BK185 := n1_
  have HB := n2_
  clear n0_ n1_ n2_
  refine start_ (n := 7) (S := fun w' => w'.cell? ⟨gb184, 0, none⟩ = some (.string a0_0) ∧ w'.cell? ⟨gb184, 1, none⟩ = some (.slice A0_1 l0_1.length c0_1)) (ds := []) #[false, false, false, false, false, false, false] (by kernel_rfl) rfl rfl ⟨(blk_cell BK184.out 0).trans rfl, (blk_cell BK184.out 1).trans rfl⟩ (fun hHeld => ?_)
  generalize w4.drew = w5 at BK184 BK185 HB hHeld ⊢
  refine pure_ (i := 0) (N := some 3) (v := ?_) (a' := ?_) #[true, false, false, false, false, false, false] rfl rfl (by kernel_rfl) (fun _ _ _ h => h) (Or.inl ⟨by rfl, ?_⟩) ?_ ?_
  rotate_left
  · intro w'
    go_simp
    with_reducible rfl
  rotate_left
  · simp only [Act.put, List.setIfInBounds_toArray, List.set_cons_zero, List.set_cons_succ, i64_w, i32_w]
    rfl
  refine pure_ (i := 2) (N := some 5) (v := ?_) (a' := ?_) #[true, false, true, false, false, false, false] rfl rfl (by kernel_rfl) (fun _ _ _ h => h) (Or.inl ⟨by rfl, ?_⟩) ?_ ?_
  rotate_left
  · intro w'
    go_simp
    with_reducible rfl
  rotate_left
  · simp only [Act.put, List.setIfInBounds_toArray, List.set_cons_zero, List.set_cons_succ, i64_w, i32_w]
    rfl
  refine take_ (i := 1) (N := some 4) (v := ?_) (a' := ?_) #[true, true, true, false, false, false, false] rfl rfl (by kernel_rfl) (fun _ _ _ h => h) (Or.inl ⟨by rfl, ?_⟩) hHeld ?_ ?_
  rotate_left
  · rintro w' ⟨s0, s1⟩
    go_simp
    with_reducible rfl
  rotate_left
  · simp only [Act.put, List.setIfInBounds_toArray, List.set_cons_zero, List.set_cons_succ, i64_w, i32_w]
    rfl
  refine take_ (i := 3) (N := some 6) (v := ?_) (a' := ?_) #[true, true, true, true, false, false, false] rfl rfl (by kernel_rfl) (fun _ _ _ h => h) (Or.inl ⟨by rfl, ?_⟩) hHeld ?_ ?_
  rotate_left
  · rintro w' ⟨s0, s1⟩
    go_simp
    with_reducible rfl
  rotate_left
  · simp only [Act.put, List.setIfInBounds_toArray, List.set_cons_zero, List.set_cons_succ, i64_w, i32_w]
    rfl
  refine one_ (i := 4) (N := some 7) #[true, true, true, true, true, false, false] rfl rfl (by kernel_rfl) (by decide) (fun K hK => ?_)
  refine goes_ Try.func95 (by kernel_rfl) rfl #[.slice A0_1 l0_1.length c0_1] (by rfl) rfl rfl (by (try simp only [List.map_toArray, List.map_cons, List.map_nil]); first | done | rfl | (simp only [List.length_drop, List.length_take]; rfl)) ?_
  with_reducible refine (impl_Line.calls _ _ l0_1 t186 _ ?side1 ?side2 A2.out).mono ?_
  (case side1 => repeat (first | exact (Kd.C_below HR0_1.out HB.out) | (with_reducible refine Kd.C_alloc ?_ _) | (with_reducible refine Kd.C_drewN ?_ _) | (with_reducible refine Kd.C_drew ?_)))
  (case side2 => exact HC0_1.out)
  rintro e w6 ⟨v187, rfl, ho0, hb⟩
  refine ⟨_, rfl, ?_⟩
  have n0_ := Aside0.mk (Kd.R_lower ho0 (below_size (by repeat (first | (with_reducible first | exact HB.out | apply below_alloc | apply pw_below_drewN | apply below_drew1 | refine below_set ?_ GE184.out | refine below_set ?_ GE185.out) | exact HB.out))))
  have n1_ := Aside0.mk (blk_below (g := gb184) (o := .cells #[.string a0_0, .slice A0_1 l0_1.length c0_1] 30 (0, 0)) (by (with_reducible repeat (first | refine blk_drewN ?_ _ | refine blk_drew ?_ | refine blk_alloc ?_ _)); exact BK184.out) hb)
  have n2_ := Aside0.mk (blk_below (g := gb185) (o := .cells #[.string (⟨#[]⟩ : ByteArray), .slice none 0 0] 30 (0, 0)) (by (with_reducible repeat (first | refine blk_drewN ?_ _ | refine blk_drew ?_ | refine blk_alloc ?_ _)); exact BK185.out) hb)
  have n3_ := Aside0.mk (below_step (by repeat (first | (with_reducible first | exact HB.out | apply below_alloc | apply pw_below_drewN | apply below_drew1 | refine below_set ?_ GE184.out | refine below_set ?_ GE185.out) | exact HB.out)) hb)
  clear BK184
  clear BK185
  clear HB
  have HO188 := n0_
  have BK184 := n1_
  have BK185 := n2_
  have HB := n3_
  clear n0_ n1_ n2_ n3_
  (try clear hb)
  (try clear hb2)
  (try clear hk)
  (try clear hi)
  (try clear ho0)
  obtain ⟨Ao7, co7, eo7⟩ := Kd.R_slice HO188.out
  (first | subst eo7 | (injection eo7 with f1_ f2_ f3_; have f4_ := f1_.symm; have f5_ := f3_.symm; clear f1_ f2_ f3_; subst f4_; subst f5_))
  refine hK.out _ _ ⟨(blk_cell BK184.out 0).trans rfl, (blk_cell BK184.out 1).trans rfl⟩ (fun hHeld => ?_)
  clear hK K
  refine norm_ (a' := ?_) ?_ ?_
  rotate_left
  · show Act.put _ (some 7) _ = _
    simp only [Act.put, List.setIfInBounds_toArray, List.set_cons_zero, List.set_cons_succ, i64_w, i32_w]
    rfl
  refine pure_ (i := 5) (N := some 8) (v := ?_) (a' := ?_) #[true, true, true, true, true, true, false] rfl rfl (by kernel_rfl) (fun _ _ _ h => h) (Or.inl ⟨by rfl, ?_⟩) ?_ ?_
  rotate_left
  · intro w'
    go_simp
    with_reducible rfl
  rotate_left
  · simp only [Act.put, List.setIfInBounds_toArray, List.set_cons_zero, List.set_cons_succ, i64_w, i32_w]
    rfl
  refine one_ (i := 6) (N := none) #[true, true, true, true, true, true, true] rfl rfl (by kernel_rfl) (by decide) (fun K hK => ?_)
  have hs8 : w6.cell? ⟨gb185, 0, none⟩ = some (.string (⟨#[]⟩ : ByteArray)) := (blk_cell BK185.out 0).trans rfl
  have hfs8 := blk_frozen BK185.out 0
  have hns8_0 := NB184_185.out
  have hms8_0 := NB185_184.out
  have hs9 : w6.cell? ⟨gb185, 1, none⟩ = some (.slice none 0 0) := (blk_cell BK185.out 1).trans rfl
  have hfs9 := blk_frozen BK185.out 1
  have hns9_0 := NB184_185.out
  have hms9_0 := NB185_184.out
  refine skip_ (w1 := ?_) (by rfl) rfl ?_ ?_
  rotate_left
  · go_simp
    rfl
  refine hK.out _ _ ⟨((cell_far (p := ⟨gb185, _, none⟩) NB184_185.out _).trans (((cell_far (p := ⟨gb185, _, none⟩) NB184_185.out _).trans (hHeld.1)))), ((cell_far (p := ⟨gb185, _, none⟩) NB184_185.out _).trans (((cell_far (p := ⟨gb185, _, none⟩) NB184_185.out _).trans (hHeld.2))))⟩ (fun hHeld => ?_)
  clear hK K
  refine done_ (by kernel_rfl) ?_
  try go_wp2
  refine bodyPost_ret (results_cell_row rfl _ _ gb185 30 #[.string a0_0, .slice Ao7 t186.length co7] (0, 0) _ rfl (by (with_reducible repeat (first | refine blk_drewN ?_ _ | refine blk_drew ?_ | refine blk_alloc ?_ _)); refine blk_put (cs := #[.string a0_0, .slice none 0 0]) ?_ 1 _ rfl; (with_reducible repeat (first | refine blk_drewN ?_ _ | refine blk_drew ?_ | refine blk_alloc ?_ _)); refine blk_put (cs := #[.string (⟨#[]⟩ : ByteArray), .slice none 0 0]) ?_ 0 _ rfl; (with_reducible repeat (first | refine blk_drewN ?_ _ | refine blk_drew ?_ | refine blk_alloc ?_ _)); exact BK185.out) Try.underlying30 rfl (by kernel_rfl)) rfl ?_
  exact ⟨_, by first | rfl | (simp [errW_none, errW_some] <;> rfl) | (simp [*, errW_none, errW_some] <;> rfl), by (with_reducible repeat (first | apply Kd.R_alloc | apply Kd.R_drewN | apply Kd.R_drew)); exact Kd.R_mono (Kd.R_far (p := ⟨gb185, 1, none⟩) (Kd.R_far (p := ⟨gb185, 0, none⟩) (Kd.R_types HO188.out BK185.out (by decide)) (fun _ hk => hk.2) (.string a0_0)) (fun _ hk => hk.2) (.slice Ao7 t186.length co7)) (fun _ hk => trivial), by repeat (first | (with_reducible first | exact HB.out | apply below_alloc | apply pw_below_drewN | apply below_drew1 | refine below_set ?_ GE184.out | refine below_set ?_ GE185.out) | exact HB.out)⟩

/-! ### impl_Device_find: function 76 -/
set_option maxHeartbeats 4000000 in
set_option maxRecDepth 1000000 in
theorem impl_Device_find.nan (x : Int) (w : World) : Calls Try.prog 112 #[.int .i64 x] w fun e w' => e = .returned (.bool false) ∧ Below w.heap.size w w' := by
  have HB := Aside0.mk (Below.refl w.heap.size w)
  go_enter Try.func112, Try.ntmps112
  go_wp2
  go_ret
  exact ⟨by first | rfl | (simp; done), by (with_reducible repeat (first | exact HB.out | refine below_drew ?_))⟩
def impl_Device_find.cmp (x y : Int) : Int := if x < y then -1 else if y < x then 1 else 0
set_option maxHeartbeats 4000000 in
set_option maxRecDepth 1000000 in
theorem impl_Device_find.compare (x y : Int) (w : World) : Calls Try.prog 103 #[.int .i64 x, .int .i64 y] w fun e w' => e = .returned (.int .i64 (impl_Device_find.cmp x y)) ∧ Below w.heap.size w w' := by
  have HB := Aside0.mk (Below.refl w.heap.size w)
  have N1 := Aside0.mk (fun W => impl_Device_find.nan x W)
  have N2 := Aside0.mk (fun W => impl_Device_find.nan y W)
  unfold impl_Device_find.cmp
  by_cases c1 : x < y
  · rw [if_pos c1]
    go_enter Try.func103, Try.ntmps103
    go_wp2_with (first | (go_at_call 112; (first | refine (N1.out _).mono ?_ | refine (N2.out _).mono ?_); rintro e w2 ⟨rfl, hb⟩; have n0_ := Aside0.mk (below_step HB.out hb); clear HB; have HB := n0_; clear n0_ hb))
    go_ret
    exact ⟨rfl, HB.out⟩
  · rw [if_neg c1]
    by_cases c2 : y < x
    · rw [if_pos c2]
      go_enter Try.func103, Try.ntmps103
      go_wp2_with (first | (go_at_call 112; (first | refine (N1.out _).mono ?_ | refine (N2.out _).mono ?_); rintro e w2 ⟨rfl, hb⟩; have n0_ := Aside0.mk (below_step HB.out hb); clear HB; have HB := n0_; clear n0_ hb))
      go_ret
      exact ⟨rfl, HB.out⟩
    · rw [if_neg c2]
      go_enter Try.func103, Try.ntmps103
      go_wp2_with (first | (go_at_call 112; (first | refine (N1.out _).mono ?_ | refine (N2.out _).mono ?_); rintro e w2 ⟨rfl, hb⟩; have n0_ := Aside0.mk (below_step HB.out hb); clear HB; have HB := n0_; clear n0_ hb))
      go_ret
      exact ⟨rfl, HB.out⟩
set_option maxHeartbeats 4000000 in
set_option maxRecDepth 1000000 in
theorem impl_Device_find.closure (x : Int) (a b : ByteArray) (y : Int) (w : World) : Calls Try.prog 102 #[.agg #[.int .i64 x, .string a, .string b], .int .i64 y] w fun e w' => e = .returned (.int .i64 (impl_Device_find.cmp x y)) ∧ Below w.heap.size w w' := by
  have hu67 := Try.underlying67
  have HB := Aside0.mk (Below.refl w.heap.size w)
  have N1 := Aside0.mk (fun W => impl_Device_find.compare x y W)
  go_enter Try.func102, Try.ntmps102
  go_wp2_with (first | ((with_reducible refine gate_dst (N := 2) rfl ?_); refine box_event ?hg (N := 2) ?hd (cs := #[.int .i64 x, .string a, .string b]) (t := 67) ?hr ?_; (case hd => rfl); (case hg => rfl); (case hr => first | (go_simp; done) | (go_simp; rfl)); intro gd hg w4 hbox hb; have n0_ := Aside0.mk (below_step HB.out hb); clear HB; have HB := n0_; have hcz0 : w4.cell? ⟨gd, 0, none⟩ = some (.int .i64 x) := (blk_cell hbox 0).trans rfl; clear n0_ hb hbox hg) | (go_at_call 103; (refine (N1.out _).mono ?_); rintro e w2 ⟨rfl, hb⟩; have n0_ := Aside0.mk (below_step HB.out hb); clear HB; have HB := n0_; clear n0_ hb))
  go_ret
  exact ⟨rfl, HB.out⟩
def impl_Device_find.idx (l : List S67) (y : Int) : Nat := l.countP (fun x => decide (x.f0 < y))
theorem impl_Device_find.idx_eq (l : List S67) (y : Int) (i : Nat) (hi : i ≤ l.length) (h1 : ∀ t, t < i → (rd_T67 l (t : Int)).f0 < y) (h2 : ∀ t, i ≤ t → t < l.length → y ≤ (rd_T67 l (t : Int)).f0) : impl_Device_find.idx l y = i := by
  unfold impl_Device_find.idx
  have g : ∀ t (ht : t < l.length), rd_T67 l (t : Int) = l[t] := fun t ht => by simp [rd_T67, List.getD, ht]
  rw [← List.take_append_drop i l, List.countP_append]
  have e1 : (l.take i).countP (fun x => decide (x.f0 < y)) = (l.take i).length := by
    rw [List.countP_eq_length]
    intro a ha
    obtain ⟨t, ht, rfl⟩ := List.getElem_of_mem ha
    rw [List.length_take] at ht
    have := h1 t (by omega)
    rw [g t (by omega)] at this
    simpa using this
  have e2 : (l.drop i).countP (fun x => decide (x.f0 < y)) = 0 := by
    rw [List.countP_eq_zero]
    intro a ha
    obtain ⟨t, ht, rfl⟩ := List.getElem_of_mem ha
    rw [List.length_drop] at ht
    have := h2 (i + t) (by omega) (by omega)
    rw [g (i + t) (by omega)] at this
    simp; omega
  rw [e1, e2, List.length_take]; omega
def impl_Device_find.srt (l : List S67) : Prop := l.Pairwise (fun x y => x.f0 < y.f0)
instance (l : List S67) : Decidable (impl_Device_find.srt l) := by unfold impl_Device_find.srt; infer_instance
def impl_Device_find.f (a0_0 : ByteArray) (l0_1 : List S67) (a1 : Int) : Option (Int × Bool) := if impl_Device_find.srt l0_1 then if l0_1.length ≤ 4611686018427387903 then some ((impl_Device_find.idx l0_1 a1 : Nat), decide (impl_Device_find.idx l0_1 a1 < l0_1.length) && decide ((rd_T67 l0_1 (impl_Device_find.idx l0_1 a1 : Nat)).f0 = a1)) else none else none
set_option maxHeartbeats 4000000 in
set_option maxRecDepth 1000000 in
theorem impl_Device_find.search (A : Option Addr) (c : Nat) (l : List S67) (y : Int) (w : World) (hr : Kd.C k67 w A l.length l) (hc : l.length ≤ c) (hs : impl_Device_find.srt l) (hsz : l.length ≤ 4611686018427387903) :
    Calls Try.prog 101 #[.slice A l.length c, .int .i64 y, .func (.func 102) #[] #[]] w fun e w' => e = .returned (.tuple #[.int .i64 (impl_Device_find.idx l y : Nat), .bool (decide (impl_Device_find.idx l y < l.length) && decide ((rd_T67 l (impl_Device_find.idx l y : Nat)).f0 = y))]) ∧ Below w.heap.size w w' := by
  have hu67 := Try.underlying67
  have eg : ∀ args w, (callFunc 102 args).run Try.prog w = .ok (.enter 102 args) w := enters_of Try.func102 (by kernel_rfl) rfl
  have HB := Aside0.mk (Below.refl w.heap.size w)
  have HR := Aside0.mk hr
  have M : Aside0 (∀ a b : Nat, a ≤ b → b < l.length → (rd_T67 l (b : Int)).f0 < y → (rd_T67 l (a : Int)).f0 < y) := ⟨by
    intro a b hab hb h
    have g : ∀ t (ht : t < l.length), rd_T67 l (t : Int) = l[t] := fun t ht => by simp [rd_T67, List.getD, ht]
    rw [g b hb] at h
    rw [g a (by omega)]
    rcases Nat.lt_or_ge a b with h1 | h1
    · have := (List.pairwise_iff_getElem.1 hs) a b (by omega) hb h1
      omega
    · obtain rfl : a = b := by omega
      exact h⟩
  clear hr hs
  generalize hidx : impl_Device_find.idx l y = cnt
  have CN := Aside0.mk hidx
  clear hidx
  go_enter Try.func101, Try.ntmps101
  go_wp2
  go_loopg [9, 10] l.length (fun kx s9 s10 wr => ∃ lo hi : Nat, s9 = .int .i64 lo ∧ s10 = .int .i64 hi ∧ lo ≤ hi ∧ hi ≤ l.length ∧ hi - lo ≤ kx ∧ Aside0 (Below w.heap.size w wr) ∧
    Aside0 ((∀ t : Nat, t < lo → (rd_T67 l (t : Int)).f0 < y) ∧ (∀ t : Nat, hi ≤ t → t < l.length → y ≤ (rd_T67 l (t : Int)).f0)))
  case atStart => exact ⟨0, l.length, rfl, rfl, Nat.zero_le _, Nat.le_refl _, by omega, HB, ⟨fun t ht => absurd ht (Nat.not_lt_zero _), fun t h1 h2 => by omega⟩⟩
  case round =>
    clear HB
    obtain ⟨lo, hi, rfl, rfl, hlh, hin, hg, HB, I⟩ := hrel
    by_cases hlt : lo < hi
    · obtain ⟨ad, ea, hx0, hx1, hx2⟩ := at_T67 HR.out (((lo + hi) / 2 : Nat) : Int) (by omega) (by omega)
      cases ea
      replace hx0 := (HB.out.cell (World.block_lt_of_cell? w _ hx0)).trans hx0
      replace hx1 := (HB.out.cell (World.block_lt_of_cell? w _ hx1)).trans hx1
      replace hx2 := (HB.out.cell (World.block_lt_of_cell? w _ hx2)).trans hx2
      simp only [Int.toNat_natCast] at hx0 hx1 hx2
      generalize hy : rd_T67 l (((lo + hi) / 2 : Nat) : Int) = x at hx0 hx1 hx2
      have Y := Aside0.mk hy
      clear hy
      have N1 := Aside0.mk (fun W => impl_Device_find.closure x.f0 x.f1 x.f2 y W)
      generalize hcm : impl_Device_find.cmp x.f0 y = cm at N1
      have CM := Aside0.mk hcm
      clear hcm
      by_cases hyx : cm < 0
      · have hxy : x.f0 < y := by have := CM.out; unfold impl_Device_find.cmp at this; split at this <;> first | assumption | (split at this <;> omega)
        go_wp2_with (go_at_fn 102; (refine (N1.out _).mono ?_); rintro e w2 ⟨rfl, hb⟩; have n0_ := Aside0.mk (below_step HB.out hb); clear HB; have HB := n0_; clear n0_ hb)
        go_roundg (hi - ((lo + hi) / 2 + 1))
        case measure => omega
        case rel => exact ⟨(lo + hi) / 2 + 1, hi, by rw [show ((lo : Int) + (hi : Int)) / 2 + 1 = (((lo + hi) / 2 + 1 : Nat) : Int) by omega], rfl, by omega, hin, Nat.le_refl _, HB, ⟨⟨fun t ht => M.out t ((lo + hi) / 2) (by omega) (by omega) (by rw [Y.out]; exact hxy), I.out.2⟩⟩⟩
      · have hxy : y ≤ x.f0 := by have := CM.out; unfold impl_Device_find.cmp at this; split at this <;> omega
        go_wp2_with (go_at_fn 102; (refine (N1.out _).mono ?_); rintro e w2 ⟨rfl, hb⟩; have n0_ := Aside0.mk (below_step HB.out hb); clear HB; have HB := n0_; clear n0_ hb)
        go_roundg ((lo + hi) / 2 - lo)
        case measure => omega
        case rel => exact ⟨lo, (lo + hi) / 2, rfl, by rw [show ((lo : Int) + (hi : Int)) / 2 = (((lo + hi) / 2 : Nat) : Int) by omega], by omega, by omega, Nat.le_refl _, HB, ⟨⟨I.out.1, fun t ht htn => Int.not_lt.1 fun h => by have := M.out ((lo + hi) / 2) t ht htn h; rw [Y.out] at this; omega⟩⟩⟩
    · obtain rfl : hi = lo := by omega
      have ecnt : cnt = hi := by
        rw [← CN.out]
        exact impl_Device_find.idx_eq l y hi hin (fun t ht => I.out.1 t ht) (fun t h3 h4 => I.out.2 t h3 h4)
      subst ecnt
      by_cases hn : cnt < l.length
      · obtain ⟨ad, ea, hx0, hx1, hx2⟩ := at_T67 HR.out (cnt : Int) (by omega) (by omega)
        cases ea
        replace hx0 := (HB.out.cell (World.block_lt_of_cell? w _ hx0)).trans hx0
        replace hx1 := (HB.out.cell (World.block_lt_of_cell? w _ hx1)).trans hx1
        replace hx2 := (HB.out.cell (World.block_lt_of_cell? w _ hx2)).trans hx2
        simp only [Int.toNat_natCast] at hx0 hx1 hx2
        generalize hy : rd_T67 l (cnt : Int) = x at hx0 hx1 hx2 ⊢
        have N1 := Aside0.mk (fun W => impl_Device_find.closure x.f0 x.f1 x.f2 y W)
        generalize hcm : impl_Device_find.cmp x.f0 y = cm at N1
        have CM := Aside0.mk hcm
        have Y := Aside0.mk hy
        clear hcm hy
        by_cases hyx : cm = 0
        · have hxy := Aside0.mk (show x.f0 = y by have := CM.out; unfold impl_Device_find.cmp at this; split at this <;> first | omega | (split at this <;> omega))
          go_wp2_with (go_at_fn 102; (refine (N1.out _).mono ?_); rintro e w2 ⟨rfl, hb⟩; have n0_ := Aside0.mk (below_step HB.out hb); clear HB; have HB := n0_; clear n0_ hb)
          go_ret2
          exact ⟨by try rw [Y.out]
                    simp [hn, hyx, hxy.out], HB.out⟩
        · have hxy := Aside0.mk (show ¬ x.f0 = y by intro e; apply hyx; rw [← CM.out, e]; unfold impl_Device_find.cmp; simp)
          go_wp2_with (go_at_fn 102; (refine (N1.out _).mono ?_); rintro e w2 ⟨rfl, hb⟩; have n0_ := Aside0.mk (below_step HB.out hb); clear HB; have HB := n0_; clear n0_ hb)
          go_ret2
          exact ⟨by try rw [Y.out]
                    simp [hn, hyx, hxy.out], HB.out⟩
      · go_wp2
        go_ret2
        exact ⟨by simp [hn], HB.out⟩
set_option maxHeartbeats 4000000 in
set_option maxRecDepth 1000000 in
theorem impl_Device_find.calls (a0_0 : ByteArray) (A0_1 : Option Addr) (c0_1 : Nat) (l0_1 : List (S67)) (a1 : Int) (r1 : Int) (r2 : Bool) (w : World) (hr0_1 : Kd.C k67 w A0_1 l0_1.length l0_1) (hc0_1 : l0_1.length ≤ c0_1) (h : impl_Device_find.f a0_0 l0_1 a1 = some (r1, r2)) :
    Calls Try.prog 76 #[.agg #[.string a0_0, .slice A0_1 l0_1.length c0_1], .int .i64 a1] w fun e w' => e = .returned (.tuple #[.int .i64 r1, .bool r2]) ∧ Below w.heap.size w w' := by
  have hu30 := Try.underlying30
  unfold impl_Device_find.f at h
  by_cases c1 : impl_Device_find.srt l0_1
  · rw [if_pos c1] at h
    by_cases c2 : l0_1.length ≤ 4611686018427387903
    · rw [if_pos c2] at h
      obtain ⟨rfl, rfl⟩ := Prod.mk.inj (Option.some.inj h)
      clear h
      have HB := Aside0.mk (Below.refl w.heap.size w)
      have N1 := Aside0.mk (fun W (hW : Kd.C k67 W A0_1 l0_1.length l0_1) => impl_Device_find.search A0_1 c0_1 l0_1 a1 W hW hc0_1 c1 c2)
      have HR := Aside0.mk hr0_1
      clear hr0_1
      go_enter Try.func76, Try.ntmps76
      go_wp2_with (first | ((with_reducible refine gate_dst (N := 2) rfl ?_); refine box_event ?hg (N := 2) ?hd (cs := #[.string a0_0, .slice A0_1 l0_1.length c0_1]) (t := 30) ?hr ?_; (case hd => rfl); (case hg => rfl); (case hr => first | (go_simp; done) | (go_simp; rfl)); intro gd hg w4 hbox hb; have n0_ := Aside0.mk (below_step HB.out hb); clear HB; have HB := n0_; have hcz1 : w4.cell? ⟨gd, 1, none⟩ = some (.slice A0_1 l0_1.length c0_1) := (blk_cell hbox 1).trans rfl; clear n0_ hb hbox hg) | (go_at_call 101; (refine (N1.out _ (Kd.C_below HR.out HB.out)).mono ?_); rintro e w2 ⟨rfl, hb⟩; have n0_ := Aside0.mk (below_step HB.out hb); clear HB; have HB := n0_; clear n0_ hb))
      go_ret2
      exact ⟨rfl, HB.out⟩
    · rw [if_neg c2] at h; cases h
  · rw [if_neg c1] at h; cases h


/-! ### impl_Evict: function 38 -/
def slices_Delete.cs (x : S67) : List Value := [.int .i64 x.f0, .string x.f1, .string x.f2]
theorem slices_Delete.setCells_append {b : Nat} : ∀ (a c : List Value) (o : Nat) (w : World), w.setCells b o (a ++ c) = (w.setCells b o a).setCells b (o + a.length) c
  | [], c, o, w => rfl
  | v :: a, c, o, w => by
    show (w.setCell ⟨b, o, none⟩ v).setCells b (o + 1) (a ++ c) = ((w.setCell ⟨b, o, none⟩ v).setCells b (o + 1) a).setCells b (o + (a.length + 1)) c
    rw [slices_Delete.setCells_append a c (o + 1) _, show o + 1 + a.length = o + (a.length + 1) by omega]
theorem slices_Delete.over {α : Type} (l : List α) (o : Nat) (x : α) (t : List α) (h : o + (t.length + 1) ≤ l.length) : (l.set o x).take (o + 1) ++ t ++ (l.set o x).drop (o + 1 + t.length) = l.take o ++ (x :: t) ++ l.drop (o + (x :: t).length) := by
  rw [List.take_set, List.drop_set, if_pos (by omega), List.take_add_one, List.getElem?_eq_getElem (by omega)]
  rw [List.set_append_right o x (by simp; omega)]
  have : o - (l.take o).length = 0 := by simp; omega
  rw [this]
  simp [Nat.add_comm, Nat.add_left_comm]
theorem slices_Delete.moves {base g cap : Nat} {ok : Nat → Prop} : ∀ (ys : List S67) (i : Nat) (xs : List S67) (W : World), Kd.R k67 67 W base ok (.slice (some ⟨g, 0, none⟩) xs.length cap) xs → i + ys.length ≤ xs.length →
    Kd.R k67 67 (W.setCells g (i * 3) (ys.flatMap slices_Delete.cs)) base ok (.slice (some ⟨g, 0, none⟩) xs.length cap) (xs.take i ++ ys ++ xs.drop (i + ys.length))
  | [], i, xs, W, h, _ => by simpa [World.setCells] using h
  | y :: ys, i, xs, W, h, hl => by
    simp only [List.length_cons] at hl
    obtain ⟨ce, hcl, hM, hcc, hfr⟩ := Kd.R_elem h z67 (i : Int) (by omega) (by omega)
    obtain rfl := k67_openM hM
    have h1 := (Kd.R_seg h (i : Int) (by omega) (by omega) (seg := slices_Delete.cs y) (j := 0) hcl hcc (show 3 ≤ 3 from by decide) (x' := y) (k67_mkM _ _ _ y) (fun _ hk => hk)).1
    have h2 : Kd.R k67 67 (W.setCells g (i * 3) (slices_Delete.cs y)) base ok (.slice (some ⟨g, 0, none⟩) (xs.set i y).length cap) (xs.set i y) := by rw [List.length_set]; exact h1
    have h3 := slices_Delete.moves ys (i + 1) (xs.set i y) _ h2 (by rw [List.length_set]; omega)
    rw [List.length_set, slices_Delete.over xs i y ys (by omega)] at h3
    rw [List.flatMap_cons, slices_Delete.setCells_append, show i * 3 + (slices_Delete.cs y).length = (i + 1) * 3 by simp [slices_Delete.cs]; omega]
    exact h3
theorem slices_Delete.news {base g cap : Nat} {ok : Nat → Prop} {xs : List S67} {W : World} (h : Kd.R k67 67 W base ok (.slice (some ⟨g, 0, none⟩) xs.length cap) xs) : ∀ (d m : Nat), m + d = xs.length → ∀ (j : Nat) (u : Value), ((xs.drop m).flatMap slices_Delete.cs)[j]? = some u → W.cell? ⟨g, m * 3 + j, none⟩ = some u ∧ W.frozen? ⟨g, m * 3 + j, none⟩ = false
  | 0, m, hm, j, u, hu => by
    rw [List.drop_of_length_le (by omega)] at hu
    simp at hu
  | d + 1, m, hm, j, u, hu => by
    have hlt : m < xs.length := by omega
    rw [List.drop_eq_getElem_cons hlt, List.flatMap_cons] at hu
    obtain ⟨ce, hcl, hM, hcc, hfr⟩ := Kd.R_elem h z67 (m : Int) (by omega) (by omega)
    obtain rfl := k67_openM hM
    have e : xs.getD ((m : Int)).toNat z67 = xs[m] := by simp [List.getD, hlt]
    rw [e] at hcc
    by_cases hj : j < 3
    · rw [List.getElem?_append_left (by simpa [slices_Delete.cs] using hj)] at hu
      exact ⟨hcc j u hu, hfr j⟩
    · rw [List.getElem?_append_right (by simp [slices_Delete.cs]; omega)] at hu
      have := slices_Delete.news h d (m + 1) (by omega) (j - 3) u (by simpa [slices_Delete.cs] using hu)
      rw [show m * 3 + j = (m + 1) * 3 + (j - 3) by omega]
      exact this
theorem slices_Delete.setCells_block {g k : Nat} (hk : k ≠ g) : ∀ (vs : List Value) (o : Nat) (w : World), (w.setCells g o vs).heap[k]? = w.heap[k]?
  | [], _, _ => rfl
  | v :: r, o, w => by
    rw [show w.setCells g o (v :: r) = (w.setCell ⟨g, o, none⟩ v).setCells g (o + 1) r from rfl, slices_Delete.setCells_block hk r]
    simp [World.setCell, Array.getElem?_modify, Ne.symm hk]
theorem slices_Delete.setCells_size {g : Nat} : ∀ (vs : List Value) (o : Nat) (w : World), (w.setCells g o vs).heap.size = w.heap.size
  | [], _, _ => rfl
  | v :: r, o, w => by
    rw [show w.setCells g o (v :: r) = (w.setCell ⟨g, o, none⟩ v).setCells g (o + 1) r from rfl, slices_Delete.setCells_size r]
    simp [World.setCell]
theorem slices_Delete.below_setCells {B b : Nat} {a : World} (hb : B ≤ b) : ∀ (vs : List Value) (o : Nat) (w : World), Below B a w → Below B a (w.setCells b o vs)
  | [], _, _, h => h
  | v :: r, o, w, h => slices_Delete.below_setCells hb r (o + 1) _ (h.setCell (by exact hb) v)
theorem slices_Delete.cslen : ∀ l : List S67, (l.flatMap slices_Delete.cs).length = l.length * 3
  | [] => rfl
  | x :: l => by rw [List.flatMap_cons, List.length_append, slices_Delete.cslen l]; simp [slices_Delete.cs]; omega
def slices_Delete.zs : List Value := [.int .i64 0, .string (⟨#[]⟩ : ByteArray), .string (⟨#[]⟩ : ByteArray)]
theorem slices_Delete.runClear {P : Program} {W : World} (t e ty : TypeId) (hu : P.underlying t = some (.slice e)) (hv : ∀ w, (zeroValue e).run P w = .ok (.agg #[.int .i64 0, .string (⟨#[]⟩ : ByteArray), .string (⟨#[]⟩ : ByteArray)]) w)
    (g off c : Nat) (hc : ∀ j, j < 3 → (W.cell? ⟨g, off + j, none⟩).isSome = true ∧ W.frozen? ⟨g, off + j, none⟩ = false) :
    (Builtin.clear_ #[t] ty #[.slice (some ⟨g, off, none⟩) 1 c]).run P W = .ok (.tuple #[]) (W.setCells g off slices_Delete.zs) := by
  have hst := run_storeCells_cells (P := P) g off slices_Delete.zs 0 W (by intro j hj; rw [show off + 0 + j = off + j by omega]; exact (hc j hj).1) (by intro j hj; rw [show off + 0 + j = off + j by omega]; exact (hc j hj).2) (by intro v hv; simp [slices_Delete.zs] at hv; rcases hv with rfl | rfl <;> rfl)
  have hz : (Builtin.zeroCells (Value.agg #[.int .i64 0, .string (⟨#[]⟩ : ByteArray), .string (⟨#[]⟩ : ByteArray)]).cells 1).toList = slices_Delete.zs := by first | rfl | simp [Builtin.zeroCells, Value.cells, slices_Delete.zs, List.range_succ]
  rw [Nat.add_zero] at hst
  simp only [Builtin.clear_]
  simp [run_underlying hu, hv, Result.andThen, -Array.toList_map]
  first | (rw [hz, hst]) | (rw [show _ = slices_Delete.zs from hz, hst]) | (simp [Builtin.zeroCells, List.range_succ] at hz ⊢; first | (rw [hz, hst]) | (erw [hst]) | simp_all)
set_option maxHeartbeats 4000000 in
set_option maxRecDepth 1000000 in
theorem slices_Delete.walk (base g cap : Nat) (ok : Nat → Prop) (l : List S67) (i : Nat) (w : World) (hR : Kd.R k67 67 w base ok (.slice (some ⟨g, 0, none⟩) l.length cap) l) (hi : i < l.length) :
    Calls Try.prog 77 #[.slice (some ⟨g, 0, none⟩) l.length cap, .int .i64 (i : Int), .int .i64 ((i : Int) + 1)] w fun e w' => e = .returned (.slice (some ⟨g, 0, none⟩) (l.length - 1) cap) ∧ Kd.R k67 67 w' base ok (.slice (some ⟨g, 0, none⟩) (l.length - 1) cap) (l.eraseIdx i) ∧ (∀ k, k ≠ g → w'.heap[k]? = w.heap[k]?) ∧ w.heap.size ≤ w'.heap.size ∧ Below g w w' := by
  have hu67 := Try.underlying67
  have HR := Aside0.mk hR
  obtain ⟨hn, hnc, hC⟩ := Kd.R_reads' hR
  have hmax := Kd.C_max hC
  clear hR hn hC
  obtain ⟨n1, hn1⟩ : ∃ n1, n1 + 1 = l.length := ⟨l.length - 1, by omega⟩
  rw [show l.length - 1 = n1 by omega]
  have HN1 := Aside0.mk hn1
  clear hn1
  have q1 : (0 : Int) ≤ (i : Int) := by omega
  have q2 : (i : Int) ≤ (i : Int) + 1 := by omega
  have q3 : (i : Int) + 1 ≤ (l.length : Int) := by omega
  have q4 : (l.length : Int) ≤ (cap : Int) := by omega
  have q5 : ((i : Int) == (i : Int) + 1) = false := beq_eq_false_iff_ne.mpr (by omega)
  have q6 : ¬ (i : Int) = (i : Int) + 1 := by omega
  have q7 : ((i : Int) + 1).toNat = i + 1 := by omega
  have q8 : i ≤ cap := by omega
  have q9 : i + 1 ≤ l.length := by omega
  have q10 : i + 1 ≤ cap := by omega
  have q11 : (0 : Int) ≤ (i : Int) + 1 := by omega
  go_enter Try.func77, Try.ntmps77
  go_wp2
  obtain ⟨i0, hi0, hz0⟩ := Option.map_eq_some_iff.1 info67
  simp only [Prod.mk.injEq] at hz0
  have NW := Aside0.mk (slices_Delete.news HR.out (l.length - (i + 1)) (i + 1) (by omega))
  have NS := Aside0.mk (slices_Delete.news HR.out (l.length - i) i (by omega))
  have LN := Aside0.mk (show ((l.drop (i + 1)).flatMap slices_Delete.cs).length = (l.length - (i + 1)) * 3 by rw [slices_Delete.cslen, List.length_drop])
  have LS := Aside0.mk (show ((l.drop i).flatMap slices_Delete.cs).length = (l.length - i) * 3 by rw [slices_Delete.cslen, List.length_drop])
  generalize hnews : (l.drop (i + 1)).flatMap slices_Delete.cs = news at NW LN
  have HN := Aside0.mk hnews
  have ONE := Aside0.mk (show ∀ u ∈ news, u.oneCell' = true by
    intro u hu
    rw [← hnews] at hu
    obtain ⟨x, _, hx⟩ := List.mem_flatMap.1 hu
    simp [slices_Delete.cs] at hx
    rcases hx with rfl | rfl | rfl <;> rfl)
  clear hnews
  have SP := Aside0.mk (show ∀ j, j < news.length → (w.drew.cell? ⟨g, 0 + i * 3 + j, none⟩).isSome = true ∧ w.drew.frozen? ⟨g, 0 + i * 3 + j, none⟩ = false by
    intro j hj
    have h1 := NS.out j
    have hj2 : j < ((l.drop i).flatMap slices_Delete.cs).length := by rw [LS.out]; rw [LN.out] at hj; omega
    have h2 := h1 _ (List.getElem?_eq_getElem hj2)
    rw [show 0 + i * 3 + j = i * 3 + j by omega]
    exact ⟨by rw [show w.drew.cell? ⟨g, i * 3 + j, none⟩ = w.cell? ⟨g, i * 3 + j, none⟩ from rfl, h2.1]; rfl, h2.2⟩)
  obtain ⟨AD, hAD, hNC⟩ : ∃ AD : Addr, (if cap = i + 1 then (⟨g, 0, none⟩ : Addr) else ⟨g, (i + 1) * 3, none⟩) = AD ∧ Aside0 (∀ j u, news[j]? = some u → w.drew.cell? (AD.add j) = some u) := by
    refine ⟨_, rfl, ⟨fun j u hu => ?_⟩⟩
    by_cases hc : cap = i + 1
    · have : news.length = 0 := by rw [LN.out]; omega
      rw [List.eq_nil_of_length_eq_zero this] at hu; simp at hu
    · rw [if_neg hc]
      have := (NW.out j u hu).1
      rw [show (⟨g, (i + 1) * 3, none⟩ : Addr).add j = ⟨g, (i + 1) * 3 + j, none⟩ from by unfold Addr.add; split <;> simp_all]
      exact this
  by_cases hcap : cap = i + 1
  · subst hcap
    have hni : i = n1 := by have := HN1.out; omega
    subst hni
    go_region_law (refine step_append_room rfl (.tmp 22) (.tmp 25) 28 rfl 67 i0 3 Try.underlying28 hi0 hz0.2.1 g 0 i (i + 1) (by simp [Act.eval, Act.put]) AD (l.length - (i + 1)) (i + 1 - (i + 1)) news (by simp [Act.eval, Act.put, ← hAD] <;> omega) LN.out hNC.out ONE.out (by omega) SP.out ?_)
    all_goals
      have hn1 := HN1.out
      have M1 := slices_Delete.moves (l.drop (i + 1)) i l w.drew (Kd.R_drew HR.out) (by rw [List.length_drop]; omega)
      rw [HN.out] at M1
      have ELen : (l.take i ++ l.drop (i + 1) ++ l.drop (i + (l.drop (i + 1)).length)).length = l.length := by simp; omega
      have ETak : (l.take i ++ l.drop (i + 1) ++ l.drop (i + (l.drop (i + 1)).length)).take i = l.eraseIdx i := by
        rw [List.take_append_of_le_length (by simp; omega), List.take_of_length_le (by simp; omega), List.eraseIdx_eq_take_drop_succ]
      have OTH : ∀ k, k ≠ g → (w.drew.setCells g (i * 3) news).heap[k]? = w.heap[k]? := fun k hk => slices_Delete.setCells_block hk _ _ _
      have SZ : (w.drew.setCells g (i * 3) news).heap.size = w.heap.size := slices_Delete.setCells_size _ _ _
      have BEL : Below g w (w.drew.setCells g (i * 3) news) := slices_Delete.below_setCells (Nat.le_refl _) _ _ _ (Below.drew (Below.refl g w))
      generalize w.drew.setCells g (i * 3) news = w2 at *
      generalize l.take i ++ l.drop (i + 1) ++ l.drop (i + (l.drop (i + 1)).length) = L1 at *
      have e1 : i + (l.length - (i + 1)) = i := by omega
      have M2 : Kd.R k67 67 w2 base ok (.slice (some ⟨g, 0, none⟩) L1.length (i + 1)) L1 := by rw [ELen]; exact M1
      have NZ := slices_Delete.news M2 1 i (by rw [ELen]; omega)
      have DL : ((L1.drop i).flatMap slices_Delete.cs).length = 3 := by rw [slices_Delete.cslen, List.length_drop, ELen]; omega
      have CL := Aside0.mk (show ∀ j, j < 3 → (w2.cell? ⟨g, i * 3 + j, none⟩).isSome = true ∧ w2.frozen? ⟨g, i * 3 + j, none⟩ = false by
        intro j hj
        have h2 := NZ j _ (List.getElem?_eq_getElem (by rw [DL]; exact hj))
        exact ⟨by rw [h2.1]; rfl, h2.2⟩)
      have M3 := slices_Delete.moves [z67] i L1 w2 M2 (by rw [ELen]; simp; omega)
      have M4 := Kd.R_take (m := i) (by rw [ELen] at M3; exact M3) (by simp; omega)
      have M5 := Aside0.mk (show Kd.R k67 67 (w2.setCells g (i * 3) slices_Delete.zs) base ok (.slice (some ⟨g, 0, none⟩) i (i + 1)) (l.eraseIdx i) by
        rw [← ETak]
        have e3 : (L1.take i ++ [z67] ++ L1.drop (i + [z67].length)).take i = L1.take i := by
          rw [List.append_assoc, List.take_append_of_le_length (by simp; omega), List.take_of_length_le (by simp; omega)]
        rw [e3] at M4
        exact M4)
      have OTH2 := Aside0.mk (show ∀ k, k ≠ g → (w2.setCells g (i * 3) slices_Delete.zs).heap[k]? = w.heap[k]? from fun k hk => (slices_Delete.setCells_block hk _ _ _).trans (OTH k hk))
      have SZ2 := Aside0.mk (show w.heap.size ≤ (w2.setCells g (i * 3) slices_Delete.zs).heap.size by rw [slices_Delete.setCells_size, SZ]; exact Nat.le_refl _)
      have BEL2 := Aside0.mk (show Below g w (w2.setCells g (i * 3) slices_Delete.zs) from slices_Delete.below_setCells (Nat.le_refl _) _ _ _ BEL)
      have HV := Aside0.mk (show ∀ w, (zeroValue 67).run Try.prog w = .ok (.agg #[.int .i64 0, .string (⟨#[]⟩ : ByteArray), .string (⟨#[]⟩ : ByteArray)]) w by intro w; go_simp)
      have p1 : (i : Int) ≤ (l.length : Int) := by omega
      have p2 : (l.length : Int) ≤ ((i + 1) : Nat) := by omega
      have p3 : ¬ (i + 1) = i := by omega
      have p4 : l.length - i = 1 := by omega
      have p5 : i ≤ l.length := by omega
      have p6 : l.length ≤ (i + 1) := by omega
      clear hn1 M1 ELen ETak OTH SZ BEL M2 NZ DL M3 M4
      try simp only [e1]
      go_wp2
      rw [slices_Delete.runClear 28 67 _ Try.underlying28 HV.out g (i * 3) _ CL.out]
      simp only [Result.andThen]
      rw [Oper.upon_value]
      go_wp2
      go_ret
      exact ⟨by simp [e1], M5.out, OTH2.out, SZ2.out, BEL2.out⟩
  · go_region_law (refine step_append_room rfl (.tmp 22) (.tmp 25) 28 rfl 67 i0 3 Try.underlying28 hi0 hz0.2.1 g 0 i cap (by simp [Act.eval, Act.put]) AD (l.length - (i + 1)) (cap - (i + 1)) news (by simp [Act.eval, Act.put, ← hAD, hcap] <;> omega) LN.out hNC.out ONE.out (by omega) SP.out ?_)
    all_goals
      have hn1 := HN1.out
      have M1 := slices_Delete.moves (l.drop (i + 1)) i l w.drew (Kd.R_drew HR.out) (by rw [List.length_drop]; omega)
      rw [HN.out] at M1
      have ELen : (l.take i ++ l.drop (i + 1) ++ l.drop (i + (l.drop (i + 1)).length)).length = l.length := by simp; omega
      have ETak : (l.take i ++ l.drop (i + 1) ++ l.drop (i + (l.drop (i + 1)).length)).take n1 = l.eraseIdx i := by
        rw [List.take_append_of_le_length (by simp; omega), List.take_of_length_le (by simp; omega), List.eraseIdx_eq_take_drop_succ]
      have OTH : ∀ k, k ≠ g → (w.drew.setCells g (i * 3) news).heap[k]? = w.heap[k]? := fun k hk => slices_Delete.setCells_block hk _ _ _
      have SZ : (w.drew.setCells g (i * 3) news).heap.size = w.heap.size := slices_Delete.setCells_size _ _ _
      have BEL : Below g w (w.drew.setCells g (i * 3) news) := slices_Delete.below_setCells (Nat.le_refl _) _ _ _ (Below.drew (Below.refl g w))
      generalize w.drew.setCells g (i * 3) news = w2 at *
      generalize l.take i ++ l.drop (i + 1) ++ l.drop (i + (l.drop (i + 1)).length) = L1 at *
      have e1 : i + (l.length - (i + 1)) = n1 := by omega
      have M2 : Kd.R k67 67 w2 base ok (.slice (some ⟨g, 0, none⟩) L1.length cap) L1 := by rw [ELen]; exact M1
      have NZ := slices_Delete.news M2 1 n1 (by rw [ELen]; omega)
      have DL : ((L1.drop n1).flatMap slices_Delete.cs).length = 3 := by rw [slices_Delete.cslen, List.length_drop, ELen]; omega
      have CL := Aside0.mk (show ∀ j, j < 3 → (w2.cell? ⟨g, n1 * 3 + j, none⟩).isSome = true ∧ w2.frozen? ⟨g, n1 * 3 + j, none⟩ = false by
        intro j hj
        have h2 := NZ j _ (List.getElem?_eq_getElem (by rw [DL]; exact hj))
        exact ⟨by rw [h2.1]; rfl, h2.2⟩)
      have M3 := slices_Delete.moves [z67] n1 L1 w2 M2 (by rw [ELen]; simp; omega)
      have M4 := Kd.R_take (m := n1) (by rw [ELen] at M3; exact M3) (by simp; omega)
      have M5 := Aside0.mk (show Kd.R k67 67 (w2.setCells g (n1 * 3) slices_Delete.zs) base ok (.slice (some ⟨g, 0, none⟩) n1 cap) (l.eraseIdx i) by
        rw [← ETak]
        have e3 : (L1.take n1 ++ [z67] ++ L1.drop (n1 + [z67].length)).take n1 = L1.take n1 := by
          rw [List.append_assoc, List.take_append_of_le_length (by simp; omega), List.take_of_length_le (by simp; omega)]
        rw [e3] at M4
        exact M4)
      have OTH2 := Aside0.mk (show ∀ k, k ≠ g → (w2.setCells g (n1 * 3) slices_Delete.zs).heap[k]? = w.heap[k]? from fun k hk => (slices_Delete.setCells_block hk _ _ _).trans (OTH k hk))
      have SZ2 := Aside0.mk (show w.heap.size ≤ (w2.setCells g (n1 * 3) slices_Delete.zs).heap.size by rw [slices_Delete.setCells_size, SZ]; exact Nat.le_refl _)
      have BEL2 := Aside0.mk (show Below g w (w2.setCells g (n1 * 3) slices_Delete.zs) from slices_Delete.below_setCells (Nat.le_refl _) _ _ _ BEL)
      have HV := Aside0.mk (show ∀ w, (zeroValue 67).run Try.prog w = .ok (.agg #[.int .i64 0, .string (⟨#[]⟩ : ByteArray), .string (⟨#[]⟩ : ByteArray)]) w by intro w; go_simp)
      have p1 : (n1 : Int) ≤ (l.length : Int) := by omega
      have p2 : (l.length : Int) ≤ (cap : Nat) := by omega
      have p3 : ¬ cap = n1 := by omega
      have p4 : l.length - n1 = 1 := by omega
      have p5 : n1 ≤ l.length := by omega
      have p6 : l.length ≤ cap := by omega
      clear hn1 M1 ELen ETak OTH SZ BEL M2 NZ DL M3 M4
      try simp only [e1]
      go_wp2
      rw [slices_Delete.runClear 28 67 _ Try.underlying28 HV.out g (n1 * 3) _ CL.out]
      simp only [Result.andThen]
      rw [Oper.upon_value]
      go_wp2
      go_ret
      exact ⟨by simp [e1], M5.out, OTH2.out, SZ2.out, BEL2.out⟩
theorem impl_Evict.bstep2 {N B : Nat} {w0 w w1 : World} (h : Below N w0 w) (hb : Below B w w1) (hle : N ≤ B) : Below N w0 w1 := h.trans (hb.mono hle)
theorem impl_Evict.bound (s : ByteArray) (l : List S67) (y i : Int) (b : Bool) (h : impl_Device_find.f s l y = some (i, b)) : 0 ≤ i ∧ (b = true → i < (l.length : Int)) := by
  unfold impl_Device_find.f at h
  split at h
  · split at h
    · obtain ⟨rfl, rfl⟩ := Prod.mk.inj (Option.some.inj h)
      refine ⟨by omega, fun hb => ?_⟩
      simp only [Bool.and_eq_true, decide_eq_true_eq] at hb
      omega
    · cases h
  · cases h
def impl_Evict.out (s : ByteArray) (l : List S67) (y i : Int) (b : Bool) : Option (ByteArray × (List (S67)) × Bool) := if b = true then (impl_replaced.f s (wrap64 (64 * y)) (rd_T67 l i).f1).bind fun s' => some (s', l.eraseIdx i.toNat, true) else some (s, l, true)
def impl_Evict.f (k : Nat) (a0_0 : ByteArray) (l0_1 : List S67) (a1 : Int) : Option (ByteArray × (List (S67)) × Bool) := (impl_DeviceOk.f k a0_0 l0_1).bind fun t => if t = true then ((impl_Device_has.f a0_0 l0_1 a1).bind fun u => if u = true then ((impl_Device_own.f a0_0 l0_1).bind fun o => (impl_Device_find.f o.1 o.2 a1).bind fun q => impl_Evict.out o.1 o.2 a1 q.1 q.2) else some ((⟨#[]⟩ : ByteArray), [], false)) else some ((⟨#[]⟩ : ByteArray), [], false)
theorem impl_Evict.mono : ∀ a0 a1 a2 k, LeO (impl_Evict.f k a0 a1 a2) (impl_Evict.f (k + 1) a0 a1 a2) := by
  intro a0 a1 a2 k
  unfold impl_Evict.f
  exact LeO.bind (impl_DeviceOk.mono _ _ _) (fun t => LeO.refl _)
set_option maxHeartbeats 8000000 in
set_option maxRecDepth 1000000 in
theorem impl_Evict.calls (k : Nat) (a0_0 : ByteArray) (A0_1 : Option Addr) (c0_1 : Nat) (l0_1 : List (S67)) (a1 : Int) (r1 : ByteArray) (r2 : List (S67)) (r3 : Bool) (w : World) (hr0_1 : Kd.C k67 w A0_1 l0_1.length l0_1) (hc0_1 : l0_1.length ≤ c0_1) (h : impl_Evict.f k a0_0 l0_1 a1 = some (r1, r2, r3)) :
    Calls Try.prog 38 #[.agg #[.string a0_0, .slice A0_1 l0_1.length c0_1], .int .i64 a1] w fun e w' => ∃ v1_ : Value, e = .returned (.tuple #[.agg #[.string r1, v1_], .bool r3]) ∧ Kd.R k67 67 w' w.heap.size (fun _ => True) v1_ r2 ∧ Below w.heap.size w w' := by
  have hu30 := Try.underlying30
  have hu67 := Try.underlying67
  have HR := Aside0.mk hr0_1
  have HC := Aside0.mk hc0_1
  clear hr0_1 hc0_1
  have HB := Aside0.mk (Below.refl w.heap.size w)
  unfold impl_Evict.f at h
  obtain ⟨t, ht, h⟩ := Option.bind_eq_some_iff.mp h
  have T := Aside0.mk ht
  clear ht
  by_cases ct : t = true
  · subst ct
    rw [if_pos rfl] at h
    obtain ⟨u, hu, h⟩ := Option.bind_eq_some_iff.mp h
    have U := Aside0.mk hu
    clear hu
    by_cases cu : u = true
    · subst cu
      rw [if_pos rfl] at h
      obtain ⟨⟨s2, l2⟩, ho, h⟩ := Option.bind_eq_some_iff.mp h
      obtain ⟨⟨i, b⟩, hf, h⟩ := Option.bind_eq_some_iff.mp h
      simp only at h hf
      obtain ⟨i0, ib⟩ := impl_Evict.bound s2 l2 a1 i b hf
      have O := Aside0.mk ho
      have F := Aside0.mk hf
      clear ho hf
      unfold impl_Evict.out at h
      by_cases cb : b = true
      · subst cb
        rw [if_pos rfl] at h
        obtain ⟨s3, hs3, h⟩ := Option.bind_eq_some_iff.mp h
        simp only [Option.some.injEq, Prod.mk.injEq] at h
        obtain ⟨rfl, rfl, rfl⟩ := h
        obtain ⟨n, rfl⟩ := Int.eq_ofNat_of_zero_le i0
        have n1 : n < l2.length := by have := ib rfl; omega
        have hmax : l2.length ≤ 9223372036854775807 := by have := F.out; unfold impl_Device_find.f at this; split at this <;> (try split at this) <;> first | omega | cases this
        have q7 : IntKind.i64.wrap ((n : Int) + 1) = (n : Int) + 1 := by rw [i64_w]; unfold wrap64; omega
        obtain ⟨aw, haw⟩ : ∃ aw, aw = wrap64 (64 * a1) := ⟨_, rfl⟩
        have q3 : IntKind.i64.wrap (64 * a1) = aw := by rw [i64_w]; exact haw.symm
        rw [← haw] at hs3
        have RP := Aside0.mk hs3
        have N1 := Aside0.mk n1
        clear hs3 haw ib n1
        go_enter Try.func38, Try.ntmps38
        go_wp2_with (first | ((with_reducible refine gate_dst (N := 2) rfl ?_); refine box_event ?hg (N := 2) ?hd (cs := #[.string a0_0, .slice A0_1 l0_1.length c0_1]) (t := 30) ?hr ?_; (case hd => rfl); (case hg => rfl); (case hr => first | (go_simp; done) | (go_simp; rfl)); intro gd hg w4 hbox hb; have n0_ := Aside0.mk (below_step HB.out hb); have n1_ := Aside0.mk hbox; have n3_ := Aside0.mk (by rw [hg]; exact (below_size HB.out) : w.heap.size ≤ gd); clear HB; have HB := n0_; have BK := n1_; have GE := n3_; clear n0_ n1_ n3_; clear hb hbox hg; have hcz0 : w4.cell? ⟨gd, 0, none⟩ = some (.string a0_0) := (blk_cell BK.out 0).trans rfl; have hcz1 : w4.cell? ⟨gd, 1, none⟩ = some (.slice A0_1 l0_1.length c0_1) := (blk_cell BK.out 1).trans rfl) | ((with_reducible refine gate_dst (N := 4) rfl ?_); refine box_event ?hg (N := 4) ?hd (cs := #[.string (⟨#[]⟩ : ByteArray), .slice none 0 0]) (t := 30) ?hr ?_; (case hd => rfl); (case hg => rfl); (case hr => first | (go_simp; done) | (go_simp; rfl)); intro gr hg w5 hbox hb; have n0_ := Aside0.mk (below_step HB.out hb); have n1_ := Aside0.mk hbox; have n2_ := Aside0.mk (blk_below BK.out hb); have n3_ := Aside0.mk (by rw [hg]; exact (below_size HB.out) : w.heap.size ≤ gr); have n4_ := Aside0.mk (by rw [hg]; exact Nat.ne_of_lt (blk_lt BK.out) : gd ≠ gr); clear HB BK hcz0 hcz1; have HB := n0_; have BKr := n1_; have BK := n2_; have GEr := n3_; have NEr := n4_; clear n0_ n1_ n2_ n3_ n4_; clear hb hbox hg; have hcz0 : w5.cell? ⟨gd, 0, none⟩ = some (.string a0_0) := (blk_cell BK.out 0).trans rfl; have hcz1 : w5.cell? ⟨gd, 1, none⟩ = some (.slice A0_1 l0_1.length c0_1) := (blk_cell BK.out 1).trans rfl; have hcr0 : w5.cell? ⟨gr, 0, none⟩ = some (.string (⟨#[]⟩ : ByteArray)) := (blk_cell BKr.out 0).trans rfl; have hcr1 : w5.cell? ⟨gr, 1, none⟩ = some (.slice none 0 0) := (blk_cell BKr.out 1).trans rfl; have hfr0 := blk_frozen BKr.out 0; have hfr1 := blk_frozen BKr.out 1) | (go_at_call 45; (with_reducible refine (impl_DeviceOk.calls k a0_0 _ _ l0_1 true _ ?side1 ?side2 T.out).mono ?_); (case side1 => exact Kd.C_below HR.out HB.out); (case side2 => exact HC.out); rintro e w6 ⟨rfl, hb⟩; have n0_ := Aside0.mk (below_step HB.out hb); have n1_ := Aside0.mk (blk_below BK.out hb); have n2_ := Aside0.mk (blk_below BKr.out hb); clear HB BK BKr hcz0 hcz1 hcr0 hcr1 hfr0 hfr1; have HB := n0_; have BK := n1_; have BKr := n2_; clear n0_ n1_ n2_ hb; have hcz0 : w6.cell? ⟨gd, 0, none⟩ = some (.string a0_0) := (blk_cell BK.out 0).trans rfl; have hcz1 : w6.cell? ⟨gd, 1, none⟩ = some (.slice A0_1 l0_1.length c0_1) := (blk_cell BK.out 1).trans rfl; have hcr0 : w6.cell? ⟨gr, 0, none⟩ = some (.string (⟨#[]⟩ : ByteArray)) := (blk_cell BKr.out 0).trans rfl; have hcr1 : w6.cell? ⟨gr, 1, none⟩ = some (.slice none 0 0) := (blk_cell BKr.out 1).trans rfl; have hfr0 := blk_frozen BKr.out 0; have hfr1 := blk_frozen BKr.out 1) | (go_at_call 73; (with_reducible refine (impl_Device_has.calls a0_0 _ _ l0_1 a1 true _ ?side1 ?side2 U.out).mono ?_); (case side1 => exact Kd.C_below HR.out HB.out); (case side2 => exact HC.out); rintro e w7 ⟨rfl, hb⟩; have n0_ := Aside0.mk (below_step HB.out hb); have n1_ := Aside0.mk (blk_below BK.out hb); have n2_ := Aside0.mk (blk_below BKr.out hb); clear HB BK BKr hcz0 hcz1 hcr0 hcr1 hfr0 hfr1; have HB := n0_; have BK := n1_; have BKr := n2_; clear n0_ n1_ n2_ hb; have hcz0 : w7.cell? ⟨gd, 0, none⟩ = some (.string a0_0) := (blk_cell BK.out 0).trans rfl; have hcz1 : w7.cell? ⟨gd, 1, none⟩ = some (.slice A0_1 l0_1.length c0_1) := (blk_cell BK.out 1).trans rfl; have hcr0 : w7.cell? ⟨gr, 0, none⟩ = some (.string (⟨#[]⟩ : ByteArray)) := (blk_cell BKr.out 0).trans rfl; have hcr1 : w7.cell? ⟨gr, 1, none⟩ = some (.slice none 0 0) := (blk_cell BKr.out 1).trans rfl; have hfr0 := blk_frozen BKr.out 0; have hfr1 := blk_frozen BKr.out 1) | (go_at_call 65; (with_reducible refine (impl_Device_own.calls a0_0 _ _ l0_1 s2 l2 _ ?side1 ?side2 O.out).mono ?_); (case side1 => exact Kd.C_below HR.out HB.out); (case side2 => exact HC.out); rintro e w8 ⟨vo, rfl, ho, hb⟩; have n3_ := Aside0.mk (Kd.R_lower ho (below_size HB.out)); have n0_ := Aside0.mk (below_step HB.out hb); have n1_ := Aside0.mk (blk_below BK.out hb); have n2_ := Aside0.mk (blk_below BKr.out hb); clear HB BK BKr hcz0 hcz1 hcr0 hcr1 hfr0 hfr1; have HB := n0_; have BK := n1_; have BKr := n2_; clear n0_ n1_ n2_ hb; have hcz0 : w8.cell? ⟨gd, 0, none⟩ = some (.string a0_0) := (blk_cell BK.out 0).trans rfl; have hcz1 : w8.cell? ⟨gd, 1, none⟩ = some (.slice A0_1 l0_1.length c0_1) := (blk_cell BK.out 1).trans rfl; have hcr0 : w8.cell? ⟨gr, 0, none⟩ = some (.string (⟨#[]⟩ : ByteArray)) := (blk_cell BKr.out 0).trans rfl; have hcr1 : w8.cell? ⟨gr, 1, none⟩ = some (.slice none 0 0) := (blk_cell BKr.out 1).trans rfl; have hfr0 := blk_frozen BKr.out 0; have hfr1 := blk_frozen BKr.out 1; have HO := n3_; clear n3_ ho; obtain ⟨Ao, co, eo⟩ := Kd.R_slice HO.out; subst eo) | ((with_reducible refine gate_dst (N := 6) rfl ?_); refine box_event ?hg (N := 6) ?hd (cs := #[.string (⟨#[]⟩ : ByteArray), .slice none 0 0]) (t := 30) ?hr ?_; (case hd => rfl); (case hg => rfl); (case hr => first | (go_simp; done) | (go_simp; rfl)); intro gO hg w9 hbox hb; have n3_ := Aside0.mk (Kd.R_below HO.out hb); have n4_ := Aside0.mk hbox; have GEo := Aside0.mk (by rw [hg]; exact (below_size HB.out) : w.heap.size ≤ gO); have NErO := (by rw [hg]; exact Nat.ne_of_lt (blk_lt BKr.out) : gr ≠ gO); have NEOr := NErO.symm; clear HO; have HO := n3_; have BKo := n4_; clear n3_ n4_ hbox hg; have n0_ := Aside0.mk (below_step HB.out hb); have n1_ := Aside0.mk (blk_below BK.out hb); have n2_ := Aside0.mk (blk_below BKr.out hb); clear HB BK BKr hcz0 hcz1 hcr0 hcr1 hfr0 hfr1; have HB := n0_; have BK := n1_; have BKr := n2_; clear n0_ n1_ n2_ hb; have hcz0 : w9.cell? ⟨gd, 0, none⟩ = some (.string a0_0) := (blk_cell BK.out 0).trans rfl; have hcz1 : w9.cell? ⟨gd, 1, none⟩ = some (.slice A0_1 l0_1.length c0_1) := (blk_cell BK.out 1).trans rfl; have hcr0 : w9.cell? ⟨gr, 0, none⟩ = some (.string (⟨#[]⟩ : ByteArray)) := (blk_cell BKr.out 0).trans rfl; have hcr1 : w9.cell? ⟨gr, 1, none⟩ = some (.slice none 0 0) := (blk_cell BKr.out 1).trans rfl; have hfr0 := blk_frozen BKr.out 0; have hfr1 := blk_frozen BKr.out 1; have hco0 : w9.cell? ⟨gO, 0, none⟩ = some (.string (⟨#[]⟩ : ByteArray)) := (blk_cell BKo.out 0).trans rfl; have hco1 : w9.cell? ⟨gO, 1, none⟩ = some (.slice none 0 0) := (blk_cell BKo.out 1).trans rfl; have hfo0 := blk_frozen BKo.out 0; have hfo1 := blk_frozen BKo.out 1) | (go_at_call 76; (with_reducible refine (impl_Device_find.calls s2 _ _ l2 a1 (n : Int) true _ ?side1 ?side2 F.out).mono ?_); (case side1 => exact (Kd.R_reads' (Kd.R_far (p := ⟨gO, 1, none⟩) (Kd.R_far (p := ⟨gO, 0, none⟩) (Kd.R_types HO.out BKo.out (by decide)) (fun _ hk => hk.2) _) (fun _ hk => hk.2) _)).2.2); (case side2 => exact (Kd.R_reads' HO.out).2.1); rintro e w10 ⟨rfl, hb⟩; have n0_ := Aside0.mk (below_step (below_set (below_set HB.out GEo.out) GEo.out) hb); have n1_ := Aside0.mk (blk_below (blk_put (cs := #[.string s2, .slice none 0 0]) (blk_put BKo.out 0 _ rfl) 1 _ rfl) hb); have n2_ := Aside0.mk (blk_below (blk_far (blk_far BKr.out NErO _) NErO _) hb); have n3_ := Aside0.mk (Kd.R_below (Kd.R_far (p := ⟨gO, 1, none⟩) (Kd.R_far (p := ⟨gO, 0, none⟩) (Kd.R_types HO.out BKo.out (by decide)) (fun _ hk => hk.2) _) (fun _ hk => hk.2) _) hb); clear HB BK BKr BKo HO hcz0 hcz1 hcr0 hcr1 hfr0 hfr1 hco0 hco1 hfo0 hfo1; have HB := n0_; have BKo := n1_; have BKr := n2_; have HO := n3_; clear n0_ n1_ n2_ n3_ hb; have hcr0 : w10.cell? ⟨gr, 0, none⟩ = some (.string (⟨#[]⟩ : ByteArray)) := (blk_cell BKr.out 0).trans rfl; have hcr1 : w10.cell? ⟨gr, 1, none⟩ = some (.slice none 0 0) := (blk_cell BKr.out 1).trans rfl; have hfr0 := blk_frozen BKr.out 0; have hfr1 := blk_frozen BKr.out 1; have hco0 : w10.cell? ⟨gO, 0, none⟩ = some (.string s2) := (blk_cell BKo.out 0).trans rfl; have hco1 : w10.cell? ⟨gO, 1, none⟩ = some (.slice Ao l2.length co) := (blk_cell BKo.out 1).trans rfl; have hfo0 := blk_frozen BKo.out 0; have hfo1 := blk_frozen BKo.out 1))
        have n1 := N1.out
        obtain ⟨gs, cap, eo, gsb, gsl, cells, hgs⟩ := Kd.R_form HO.out (by omega)
        obtain ⟨rfl, -, rfl⟩ := Value.slice.inj eo
        clear eo
        have nso : gs ≠ gO := fun e_ => Kd.R_ne HO.out BKo.out (by decide) (by simp [Value.ownBlock, e_])
        have nsr : gs ≠ gr := fun e_ => Kd.R_ne HO.out BKr.out (by decide) (by simp [Value.ownBlock, e_])
        obtain ⟨ce, hcl, hM, hcc, hfr⟩ := Kd.R_elem HO.out z67 (n : Int) (by omega) (by omega)
        obtain rfl := k67_openM hM
        have hx1 : w10.cell? ⟨gs, n * 3 + 1, none⟩ = some (.string (rd_T67 l2 (n : Int)).f1) := hcc 1 _ rfl
        have e7 : ((n : Int)).toNat = n := by omega
        rw [e7] at *
        generalize rd_T67 l2 (n : Int) = x at *
        have q8 : (n : Int) < (l2.length : Int) := by omega
        clear hcl hM hcc hfr hgs F O
        go_wp2
        go_region_law (refine goes_ Try.func62 (by kernel_rfl) rfl #[.string s2, .int .i64 aw, .string x.f1] (by simp [Region.wanted]) rfl rfl (by first | rfl | (simp [Act.eval, Act.put]; done)) ?_; (with_reducible refine (impl_replaced.calls s2 aw x.f1 s3 _ RP.out).mono ?_); rintro e w11 ⟨rfl, ⟨nd, rfl⟩⟩; refine ⟨_, rfl, ?_⟩)
        all_goals
          go_wp2_with (first | (go_at_call 77; (refine (slices_Delete.walk w.heap.size gs co (fun k => True ∧ k ≠ gO) l2 n _ ?side1 n1).mono ?_); (case side1 => exact Kd.R_far (p := ⟨gO, 0, none⟩) (Kd.R_drewN HO.out _) (fun _ hk => hk.2) _); rintro e w12 ⟨rfl, hrd, hoth, hsz, hbel⟩; have n0_ := Aside0.mk (impl_Evict.bstep2 (below_set (pw_below_drewN HB.out _) GEo.out) hbel gsb); have n1_ := Aside0.mk ((hoth gO (Ne.symm nso)).trans (blk_put (cs := #[.string s2, .slice (some ⟨gs, 0, none⟩) l2.length co]) (blk_drewN BKo.out _) 0 _ rfl)); have n2_ := Aside0.mk ((hoth gr (Ne.symm nsr)).trans (blk_far (blk_drewN BKr.out _) NErO _)); have n3_ := Aside0.mk hrd; clear HB BKr BKo HO hcr0 hcr1 hfr0 hfr1 hco0 hco1 hfo0 hfo1; have HB := n0_; have BKo := n1_; have BKr := n2_; have HO := n3_; clear n0_ n1_ n2_ n3_ hrd hoth hsz hbel; have hcr0 : w12.cell? ⟨gr, 0, none⟩ = some (.string (⟨#[]⟩ : ByteArray)) := (blk_cell BKr.out 0).trans rfl; have hcr1 : w12.cell? ⟨gr, 1, none⟩ = some (.slice none 0 0) := (blk_cell BKr.out 1).trans rfl; have hfr0 := blk_frozen BKr.out 0; have hfr1 := blk_frozen BKr.out 1; have hco0 : w12.cell? ⟨gO, 0, none⟩ = some (.string s3) := (blk_cell BKo.out 0).trans rfl; have hco1 : w12.cell? ⟨gO, 1, none⟩ = some (.slice (some ⟨gs, 0, none⟩) l2.length co) := (blk_cell BKo.out 1).trans rfl; have hfo0 := blk_frozen BKo.out 0; have hfo1 := blk_frozen BKo.out 1))
          refine bodyPost_ret (results_ct rfl _ _ gr 30 #[.string s3, .slice (some ⟨gs, 0, none⟩) (l2.length - 1) co] (0, 0) _ rfl (by refine blk_put (cs := #[.string s3, .slice none 0 0]) ?_ 1 _ rfl; refine blk_put (cs := #[.string (⟨#[]⟩ : ByteArray), .slice none 0 0]) ?_ 0 _ rfl; exact blk_far BKr.out NErO _) Try.underlying30 rfl (by kernel_rfl)) rfl ?_
          exact ⟨_, rfl, Kd.R_mono (Kd.R_far (p := ⟨gr, 1, none⟩) (Kd.R_far (p := ⟨gr, 0, none⟩) (Kd.R_far (p := ⟨gO, 1, none⟩) (Kd.R_types HO.out BKr.out (by decide)) (fun _ hk => hk.1.2) _) (fun _ hk => hk.2) _) (fun _ hk => hk.2) _) (fun _ _ => trivial), below_set (below_set (below_set HB.out GEo.out) GEr.out) GEr.out⟩
      · replace cb := Bool.eq_false_iff.mpr cb
        subst cb
        rw [if_neg (by decide)] at h
        simp only [Option.some.injEq, Prod.mk.injEq] at h
        obtain ⟨rfl, rfl, rfl⟩ := h
        clear ib
        go_enter Try.func38, Try.ntmps38
        go_wp2_with (first | ((with_reducible refine gate_dst (N := 2) rfl ?_); refine box_event ?hg (N := 2) ?hd (cs := #[.string a0_0, .slice A0_1 l0_1.length c0_1]) (t := 30) ?hr ?_; (case hd => rfl); (case hg => rfl); (case hr => first | (go_simp; done) | (go_simp; rfl)); intro gd hg w4 hbox hb; have n0_ := Aside0.mk (below_step HB.out hb); have n1_ := Aside0.mk hbox; have n3_ := Aside0.mk (by rw [hg]; exact (below_size HB.out) : w.heap.size ≤ gd); clear HB; have HB := n0_; have BK := n1_; have GE := n3_; clear n0_ n1_ n3_; clear hb hbox hg; have hcz0 : w4.cell? ⟨gd, 0, none⟩ = some (.string a0_0) := (blk_cell BK.out 0).trans rfl; have hcz1 : w4.cell? ⟨gd, 1, none⟩ = some (.slice A0_1 l0_1.length c0_1) := (blk_cell BK.out 1).trans rfl) | ((with_reducible refine gate_dst (N := 4) rfl ?_); refine box_event ?hg (N := 4) ?hd (cs := #[.string (⟨#[]⟩ : ByteArray), .slice none 0 0]) (t := 30) ?hr ?_; (case hd => rfl); (case hg => rfl); (case hr => first | (go_simp; done) | (go_simp; rfl)); intro gr hg w5 hbox hb; have n0_ := Aside0.mk (below_step HB.out hb); have n1_ := Aside0.mk hbox; have n2_ := Aside0.mk (blk_below BK.out hb); have n3_ := Aside0.mk (by rw [hg]; exact (below_size HB.out) : w.heap.size ≤ gr); have n4_ := Aside0.mk (by rw [hg]; exact Nat.ne_of_lt (blk_lt BK.out) : gd ≠ gr); clear HB BK hcz0 hcz1; have HB := n0_; have BKr := n1_; have BK := n2_; have GEr := n3_; have NEr := n4_; clear n0_ n1_ n2_ n3_ n4_; clear hb hbox hg; have hcz0 : w5.cell? ⟨gd, 0, none⟩ = some (.string a0_0) := (blk_cell BK.out 0).trans rfl; have hcz1 : w5.cell? ⟨gd, 1, none⟩ = some (.slice A0_1 l0_1.length c0_1) := (blk_cell BK.out 1).trans rfl; have hcr0 : w5.cell? ⟨gr, 0, none⟩ = some (.string (⟨#[]⟩ : ByteArray)) := (blk_cell BKr.out 0).trans rfl; have hcr1 : w5.cell? ⟨gr, 1, none⟩ = some (.slice none 0 0) := (blk_cell BKr.out 1).trans rfl; have hfr0 := blk_frozen BKr.out 0; have hfr1 := blk_frozen BKr.out 1) | (go_at_call 45; (with_reducible refine (impl_DeviceOk.calls k a0_0 _ _ l0_1 true _ ?side1 ?side2 T.out).mono ?_); (case side1 => exact Kd.C_below HR.out HB.out); (case side2 => exact HC.out); rintro e w6 ⟨rfl, hb⟩; have n0_ := Aside0.mk (below_step HB.out hb); have n1_ := Aside0.mk (blk_below BK.out hb); have n2_ := Aside0.mk (blk_below BKr.out hb); clear HB BK BKr hcz0 hcz1 hcr0 hcr1 hfr0 hfr1; have HB := n0_; have BK := n1_; have BKr := n2_; clear n0_ n1_ n2_ hb; have hcz0 : w6.cell? ⟨gd, 0, none⟩ = some (.string a0_0) := (blk_cell BK.out 0).trans rfl; have hcz1 : w6.cell? ⟨gd, 1, none⟩ = some (.slice A0_1 l0_1.length c0_1) := (blk_cell BK.out 1).trans rfl; have hcr0 : w6.cell? ⟨gr, 0, none⟩ = some (.string (⟨#[]⟩ : ByteArray)) := (blk_cell BKr.out 0).trans rfl; have hcr1 : w6.cell? ⟨gr, 1, none⟩ = some (.slice none 0 0) := (blk_cell BKr.out 1).trans rfl; have hfr0 := blk_frozen BKr.out 0; have hfr1 := blk_frozen BKr.out 1) | (go_at_call 73; (with_reducible refine (impl_Device_has.calls a0_0 _ _ l0_1 a1 true _ ?side1 ?side2 U.out).mono ?_); (case side1 => exact Kd.C_below HR.out HB.out); (case side2 => exact HC.out); rintro e w7 ⟨rfl, hb⟩; have n0_ := Aside0.mk (below_step HB.out hb); have n1_ := Aside0.mk (blk_below BK.out hb); have n2_ := Aside0.mk (blk_below BKr.out hb); clear HB BK BKr hcz0 hcz1 hcr0 hcr1 hfr0 hfr1; have HB := n0_; have BK := n1_; have BKr := n2_; clear n0_ n1_ n2_ hb; have hcz0 : w7.cell? ⟨gd, 0, none⟩ = some (.string a0_0) := (blk_cell BK.out 0).trans rfl; have hcz1 : w7.cell? ⟨gd, 1, none⟩ = some (.slice A0_1 l0_1.length c0_1) := (blk_cell BK.out 1).trans rfl; have hcr0 : w7.cell? ⟨gr, 0, none⟩ = some (.string (⟨#[]⟩ : ByteArray)) := (blk_cell BKr.out 0).trans rfl; have hcr1 : w7.cell? ⟨gr, 1, none⟩ = some (.slice none 0 0) := (blk_cell BKr.out 1).trans rfl; have hfr0 := blk_frozen BKr.out 0; have hfr1 := blk_frozen BKr.out 1) | (go_at_call 65; (with_reducible refine (impl_Device_own.calls a0_0 _ _ l0_1 s2 l2 _ ?side1 ?side2 O.out).mono ?_); (case side1 => exact Kd.C_below HR.out HB.out); (case side2 => exact HC.out); rintro e w8 ⟨vo, rfl, ho, hb⟩; have n3_ := Aside0.mk (Kd.R_lower ho (below_size HB.out)); have n0_ := Aside0.mk (below_step HB.out hb); have n1_ := Aside0.mk (blk_below BK.out hb); have n2_ := Aside0.mk (blk_below BKr.out hb); clear HB BK BKr hcz0 hcz1 hcr0 hcr1 hfr0 hfr1; have HB := n0_; have BK := n1_; have BKr := n2_; clear n0_ n1_ n2_ hb; have hcz0 : w8.cell? ⟨gd, 0, none⟩ = some (.string a0_0) := (blk_cell BK.out 0).trans rfl; have hcz1 : w8.cell? ⟨gd, 1, none⟩ = some (.slice A0_1 l0_1.length c0_1) := (blk_cell BK.out 1).trans rfl; have hcr0 : w8.cell? ⟨gr, 0, none⟩ = some (.string (⟨#[]⟩ : ByteArray)) := (blk_cell BKr.out 0).trans rfl; have hcr1 : w8.cell? ⟨gr, 1, none⟩ = some (.slice none 0 0) := (blk_cell BKr.out 1).trans rfl; have hfr0 := blk_frozen BKr.out 0; have hfr1 := blk_frozen BKr.out 1; have HO := n3_; clear n3_ ho; obtain ⟨Ao, co, eo⟩ := Kd.R_slice HO.out; subst eo) | ((with_reducible refine gate_dst (N := 6) rfl ?_); refine box_event ?hg (N := 6) ?hd (cs := #[.string (⟨#[]⟩ : ByteArray), .slice none 0 0]) (t := 30) ?hr ?_; (case hd => rfl); (case hg => rfl); (case hr => first | (go_simp; done) | (go_simp; rfl)); intro gO hg w9 hbox hb; have n3_ := Aside0.mk (Kd.R_below HO.out hb); have n4_ := Aside0.mk hbox; have GEo := Aside0.mk (by rw [hg]; exact (below_size HB.out) : w.heap.size ≤ gO); have NErO := (by rw [hg]; exact Nat.ne_of_lt (blk_lt BKr.out) : gr ≠ gO); have NEOr := NErO.symm; clear HO; have HO := n3_; have BKo := n4_; clear n3_ n4_ hbox hg; have n0_ := Aside0.mk (below_step HB.out hb); have n1_ := Aside0.mk (blk_below BK.out hb); have n2_ := Aside0.mk (blk_below BKr.out hb); clear HB BK BKr hcz0 hcz1 hcr0 hcr1 hfr0 hfr1; have HB := n0_; have BK := n1_; have BKr := n2_; clear n0_ n1_ n2_ hb; have hcz0 : w9.cell? ⟨gd, 0, none⟩ = some (.string a0_0) := (blk_cell BK.out 0).trans rfl; have hcz1 : w9.cell? ⟨gd, 1, none⟩ = some (.slice A0_1 l0_1.length c0_1) := (blk_cell BK.out 1).trans rfl; have hcr0 : w9.cell? ⟨gr, 0, none⟩ = some (.string (⟨#[]⟩ : ByteArray)) := (blk_cell BKr.out 0).trans rfl; have hcr1 : w9.cell? ⟨gr, 1, none⟩ = some (.slice none 0 0) := (blk_cell BKr.out 1).trans rfl; have hfr0 := blk_frozen BKr.out 0; have hfr1 := blk_frozen BKr.out 1; have hco0 : w9.cell? ⟨gO, 0, none⟩ = some (.string (⟨#[]⟩ : ByteArray)) := (blk_cell BKo.out 0).trans rfl; have hco1 : w9.cell? ⟨gO, 1, none⟩ = some (.slice none 0 0) := (blk_cell BKo.out 1).trans rfl; have hfo0 := blk_frozen BKo.out 0; have hfo1 := blk_frozen BKo.out 1) | (go_at_call 76; (with_reducible refine (impl_Device_find.calls s2 _ _ l2 a1 i false _ ?side1 ?side2 F.out).mono ?_); (case side1 => exact (Kd.R_reads' (Kd.R_far (p := ⟨gO, 1, none⟩) (Kd.R_far (p := ⟨gO, 0, none⟩) (Kd.R_types HO.out BKo.out (by decide)) (fun _ hk => hk.2) _) (fun _ hk => hk.2) _)).2.2); (case side2 => exact (Kd.R_reads' HO.out).2.1); rintro e w10 ⟨rfl, hb⟩; have n0_ := Aside0.mk (below_step (below_set (below_set HB.out GEo.out) GEo.out) hb); have n1_ := Aside0.mk (blk_below (blk_put (cs := #[.string s2, .slice none 0 0]) (blk_put BKo.out 0 _ rfl) 1 _ rfl) hb); have n2_ := Aside0.mk (blk_below (blk_far (blk_far BKr.out NErO _) NErO _) hb); have n3_ := Aside0.mk (Kd.R_below (Kd.R_far (p := ⟨gO, 1, none⟩) (Kd.R_far (p := ⟨gO, 0, none⟩) (Kd.R_types HO.out BKo.out (by decide)) (fun _ hk => hk.2) _) (fun _ hk => hk.2) _) hb); clear HB BK BKr BKo HO hcz0 hcz1 hcr0 hcr1 hfr0 hfr1 hco0 hco1 hfo0 hfo1; have HB := n0_; have BKo := n1_; have BKr := n2_; have HO := n3_; clear n0_ n1_ n2_ n3_ hb; have hcr0 : w10.cell? ⟨gr, 0, none⟩ = some (.string (⟨#[]⟩ : ByteArray)) := (blk_cell BKr.out 0).trans rfl; have hcr1 : w10.cell? ⟨gr, 1, none⟩ = some (.slice none 0 0) := (blk_cell BKr.out 1).trans rfl; have hfr0 := blk_frozen BKr.out 0; have hfr1 := blk_frozen BKr.out 1; have hco0 : w10.cell? ⟨gO, 0, none⟩ = some (.string s2) := (blk_cell BKo.out 0).trans rfl; have hco1 : w10.cell? ⟨gO, 1, none⟩ = some (.slice Ao l2.length co) := (blk_cell BKo.out 1).trans rfl; have hfo0 := blk_frozen BKo.out 0; have hfo1 := blk_frozen BKo.out 1))
        refine bodyPost_ret (results_ct rfl _ _ gr 30 #[.string s2, .slice Ao l2.length co] (0, 0) _ rfl (by refine blk_put (cs := #[.string s2, .slice none 0 0]) ?_ 1 _ rfl; refine blk_put (cs := #[.string (⟨#[]⟩ : ByteArray), .slice none 0 0]) ?_ 0 _ rfl; exact BKr.out) Try.underlying30 rfl (by kernel_rfl)) rfl ?_
        exact ⟨_, rfl, Kd.R_mono (Kd.R_far (p := ⟨gr, 1, none⟩) (Kd.R_far (p := ⟨gr, 0, none⟩) (Kd.R_types HO.out BKr.out (by decide)) (fun _ hk => hk.2) _) (fun _ hk => hk.2) _) (fun _ _ => trivial), below_set (below_set HB.out GEr.out) GEr.out⟩
    · replace cu := Bool.eq_false_iff.mpr cu
      subst cu
      rw [if_neg (by decide)] at h
      simp only [Option.some.injEq, Prod.mk.injEq] at h
      obtain ⟨rfl, rfl, rfl⟩ := h
      go_enter Try.func38, Try.ntmps38
      go_wp2_with (first | ((with_reducible refine gate_dst (N := 2) rfl ?_); refine box_event ?hg (N := 2) ?hd (cs := #[.string a0_0, .slice A0_1 l0_1.length c0_1]) (t := 30) ?hr ?_; (case hd => rfl); (case hg => rfl); (case hr => first | (go_simp; done) | (go_simp; rfl)); intro gd hg w4 hbox hb; have n0_ := Aside0.mk (below_step HB.out hb); have n1_ := Aside0.mk hbox; have n3_ := Aside0.mk (by rw [hg]; exact (below_size HB.out) : w.heap.size ≤ gd); clear HB; have HB := n0_; have BK := n1_; have GE := n3_; clear n0_ n1_ n3_; clear hb hbox hg; have hcz0 : w4.cell? ⟨gd, 0, none⟩ = some (.string a0_0) := (blk_cell BK.out 0).trans rfl; have hcz1 : w4.cell? ⟨gd, 1, none⟩ = some (.slice A0_1 l0_1.length c0_1) := (blk_cell BK.out 1).trans rfl) | ((with_reducible refine gate_dst (N := 4) rfl ?_); refine box_event ?hg (N := 4) ?hd (cs := #[.string (⟨#[]⟩ : ByteArray), .slice none 0 0]) (t := 30) ?hr ?_; (case hd => rfl); (case hg => rfl); (case hr => first | (go_simp; done) | (go_simp; rfl)); intro gr hg w5 hbox hb; have n0_ := Aside0.mk (below_step HB.out hb); have n1_ := Aside0.mk hbox; have n2_ := Aside0.mk (blk_below BK.out hb); have n3_ := Aside0.mk (by rw [hg]; exact (below_size HB.out) : w.heap.size ≤ gr); have n4_ := Aside0.mk (by rw [hg]; exact Nat.ne_of_lt (blk_lt BK.out) : gd ≠ gr); clear HB BK hcz0 hcz1; have HB := n0_; have BKr := n1_; have BK := n2_; have GEr := n3_; have NEr := n4_; clear n0_ n1_ n2_ n3_ n4_; clear hb hbox hg; have hcz0 : w5.cell? ⟨gd, 0, none⟩ = some (.string a0_0) := (blk_cell BK.out 0).trans rfl; have hcz1 : w5.cell? ⟨gd, 1, none⟩ = some (.slice A0_1 l0_1.length c0_1) := (blk_cell BK.out 1).trans rfl; have hcr0 : w5.cell? ⟨gr, 0, none⟩ = some (.string (⟨#[]⟩ : ByteArray)) := (blk_cell BKr.out 0).trans rfl; have hcr1 : w5.cell? ⟨gr, 1, none⟩ = some (.slice none 0 0) := (blk_cell BKr.out 1).trans rfl; have hfr0 := blk_frozen BKr.out 0; have hfr1 := blk_frozen BKr.out 1) | (go_at_call 45; (with_reducible refine (impl_DeviceOk.calls k a0_0 _ _ l0_1 true _ ?side1 ?side2 T.out).mono ?_); (case side1 => exact Kd.C_below HR.out HB.out); (case side2 => exact HC.out); rintro e w6 ⟨rfl, hb⟩; have n0_ := Aside0.mk (below_step HB.out hb); have n1_ := Aside0.mk (blk_below BK.out hb); have n2_ := Aside0.mk (blk_below BKr.out hb); clear HB BK BKr hcz0 hcz1 hcr0 hcr1 hfr0 hfr1; have HB := n0_; have BK := n1_; have BKr := n2_; clear n0_ n1_ n2_ hb; have hcz0 : w6.cell? ⟨gd, 0, none⟩ = some (.string a0_0) := (blk_cell BK.out 0).trans rfl; have hcz1 : w6.cell? ⟨gd, 1, none⟩ = some (.slice A0_1 l0_1.length c0_1) := (blk_cell BK.out 1).trans rfl; have hcr0 : w6.cell? ⟨gr, 0, none⟩ = some (.string (⟨#[]⟩ : ByteArray)) := (blk_cell BKr.out 0).trans rfl; have hcr1 : w6.cell? ⟨gr, 1, none⟩ = some (.slice none 0 0) := (blk_cell BKr.out 1).trans rfl; have hfr0 := blk_frozen BKr.out 0; have hfr1 := blk_frozen BKr.out 1) | (go_at_call 73; (with_reducible refine (impl_Device_has.calls a0_0 _ _ l0_1 a1 false _ ?side1 ?side2 U.out).mono ?_); (case side1 => exact Kd.C_below HR.out HB.out); (case side2 => exact HC.out); rintro e w7 ⟨rfl, hb⟩; have n0_ := Aside0.mk (below_step HB.out hb); have n1_ := Aside0.mk (blk_below BK.out hb); have n2_ := Aside0.mk (blk_below BKr.out hb); clear HB BK BKr hcz0 hcz1 hcr0 hcr1 hfr0 hfr1; have HB := n0_; have BK := n1_; have BKr := n2_; clear n0_ n1_ n2_ hb; have hcz0 : w7.cell? ⟨gd, 0, none⟩ = some (.string a0_0) := (blk_cell BK.out 0).trans rfl; have hcz1 : w7.cell? ⟨gd, 1, none⟩ = some (.slice A0_1 l0_1.length c0_1) := (blk_cell BK.out 1).trans rfl; have hcr0 : w7.cell? ⟨gr, 0, none⟩ = some (.string (⟨#[]⟩ : ByteArray)) := (blk_cell BKr.out 0).trans rfl; have hcr1 : w7.cell? ⟨gr, 1, none⟩ = some (.slice none 0 0) := (blk_cell BKr.out 1).trans rfl; have hfr0 := blk_frozen BKr.out 0; have hfr1 := blk_frozen BKr.out 1))
      refine bodyPost_ret (results_ct rfl _ _ gr 30 #[.string (⟨#[]⟩ : ByteArray), .slice none 0 0] (0, 0) _ rfl (by refine blk_put (cs := #[.string (⟨#[]⟩ : ByteArray), .slice none 0 0]) ?_ 1 _ rfl; refine blk_put (cs := #[.string (⟨#[]⟩ : ByteArray), .slice none 0 0]) ?_ 0 _ rfl; exact BKr.out) Try.underlying30 rfl (by kernel_rfl)) rfl ?_
      exact ⟨_, rfl, Kd.R_nil _ _ _ _ _, below_set (below_set HB.out GEr.out) GEr.out⟩
  · replace ct := Bool.eq_false_iff.mpr ct
    subst ct
    rw [if_neg (by decide)] at h
    simp only [Option.some.injEq, Prod.mk.injEq] at h
    obtain ⟨rfl, rfl, rfl⟩ := h
    go_enter Try.func38, Try.ntmps38
    go_wp2_with (first | ((with_reducible refine gate_dst (N := 2) rfl ?_); refine box_event ?hg (N := 2) ?hd (cs := #[.string a0_0, .slice A0_1 l0_1.length c0_1]) (t := 30) ?hr ?_; (case hd => rfl); (case hg => rfl); (case hr => first | (go_simp; done) | (go_simp; rfl)); intro gd hg w4 hbox hb; have n0_ := Aside0.mk (below_step HB.out hb); have n1_ := Aside0.mk hbox; have n3_ := Aside0.mk (by rw [hg]; exact (below_size HB.out) : w.heap.size ≤ gd); clear HB; have HB := n0_; have BK := n1_; have GE := n3_; clear n0_ n1_ n3_; clear hb hbox hg; have hcz0 : w4.cell? ⟨gd, 0, none⟩ = some (.string a0_0) := (blk_cell BK.out 0).trans rfl; have hcz1 : w4.cell? ⟨gd, 1, none⟩ = some (.slice A0_1 l0_1.length c0_1) := (blk_cell BK.out 1).trans rfl) | ((with_reducible refine gate_dst (N := 4) rfl ?_); refine box_event ?hg (N := 4) ?hd (cs := #[.string (⟨#[]⟩ : ByteArray), .slice none 0 0]) (t := 30) ?hr ?_; (case hd => rfl); (case hg => rfl); (case hr => first | (go_simp; done) | (go_simp; rfl)); intro gr hg w5 hbox hb; have n0_ := Aside0.mk (below_step HB.out hb); have n1_ := Aside0.mk hbox; have n2_ := Aside0.mk (blk_below BK.out hb); have n3_ := Aside0.mk (by rw [hg]; exact (below_size HB.out) : w.heap.size ≤ gr); have n4_ := Aside0.mk (by rw [hg]; exact Nat.ne_of_lt (blk_lt BK.out) : gd ≠ gr); clear HB BK hcz0 hcz1; have HB := n0_; have BKr := n1_; have BK := n2_; have GEr := n3_; have NEr := n4_; clear n0_ n1_ n2_ n3_ n4_; clear hb hbox hg; have hcz0 : w5.cell? ⟨gd, 0, none⟩ = some (.string a0_0) := (blk_cell BK.out 0).trans rfl; have hcz1 : w5.cell? ⟨gd, 1, none⟩ = some (.slice A0_1 l0_1.length c0_1) := (blk_cell BK.out 1).trans rfl; have hcr0 : w5.cell? ⟨gr, 0, none⟩ = some (.string (⟨#[]⟩ : ByteArray)) := (blk_cell BKr.out 0).trans rfl; have hcr1 : w5.cell? ⟨gr, 1, none⟩ = some (.slice none 0 0) := (blk_cell BKr.out 1).trans rfl; have hfr0 := blk_frozen BKr.out 0; have hfr1 := blk_frozen BKr.out 1) | (go_at_call 45; (with_reducible refine (impl_DeviceOk.calls k a0_0 _ _ l0_1 false _ ?side1 ?side2 T.out).mono ?_); (case side1 => exact Kd.C_below HR.out HB.out); (case side2 => exact HC.out); rintro e w6 ⟨rfl, hb⟩; have n0_ := Aside0.mk (below_step HB.out hb); have n1_ := Aside0.mk (blk_below BK.out hb); have n2_ := Aside0.mk (blk_below BKr.out hb); clear HB BK BKr hcz0 hcz1 hcr0 hcr1 hfr0 hfr1; have HB := n0_; have BK := n1_; have BKr := n2_; clear n0_ n1_ n2_ hb; have hcz0 : w6.cell? ⟨gd, 0, none⟩ = some (.string a0_0) := (blk_cell BK.out 0).trans rfl; have hcz1 : w6.cell? ⟨gd, 1, none⟩ = some (.slice A0_1 l0_1.length c0_1) := (blk_cell BK.out 1).trans rfl; have hcr0 : w6.cell? ⟨gr, 0, none⟩ = some (.string (⟨#[]⟩ : ByteArray)) := (blk_cell BKr.out 0).trans rfl; have hcr1 : w6.cell? ⟨gr, 1, none⟩ = some (.slice none 0 0) := (blk_cell BKr.out 1).trans rfl; have hfr0 := blk_frozen BKr.out 0; have hfr1 := blk_frozen BKr.out 1))
    refine bodyPost_ret (results_ct rfl _ _ gr 30 #[.string (⟨#[]⟩ : ByteArray), .slice none 0 0] (0, 0) _ rfl (by refine blk_put (cs := #[.string (⟨#[]⟩ : ByteArray), .slice none 0 0]) ?_ 1 _ rfl; refine blk_put (cs := #[.string (⟨#[]⟩ : ByteArray), .slice none 0 0]) ?_ 0 _ rfl; exact BKr.out) Try.underlying30 rfl (by kernel_rfl)) rfl ?_
    exact ⟨_, rfl, Kd.R_nil _ _ _ _ _, below_set (below_set HB.out GEr.out) GEr.out⟩


end Go.Proofs.Ytbbbajnnoficbaa.PFnExactEvict
