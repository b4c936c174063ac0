-- by a patched copy of the print (wip/tools/patch_print.py)
import Derived.Shelf.Abstract
import Derived.Test.YtbbbajnnoficbaaPFnExactFlushx0
import Derived.Test.YtbbbajnnoficbaaPFnExactFlushx5
import Derived.Test.YtbbbajnnoficbaaPFnExactFlushx6
namespace Go.Proofs.Ytbbbajnnoficbaa.PFnExactFlush
open Go.RowKit Go.Proofs.YtbbbajnnoficbaaW.PrintWords Go.Proofs.YtbbbajnnoficbaaW.PrintLast Go.Proofs.YtbbbajnnoficbaaW.PrintMore
attribute [local go_sem] max2_int min2_int max_two min_two max_three min_three max_four min_four   -- for this text's walks alone
set_option linter.unusedVariables false
set_option linter.unusedSimpArgs false

/-! ### impl_Line: function 95 -/
def impl_Line.f (l0 : List S67) : Option (List S67) := if l0.length < 3518437208883 then some l0 else none
set_option maxHeartbeats 4000000 in
set_option maxRecDepth 1000000 in
theorem impl_Line.calls (A0 : Option Addr) (c0 : Nat) (l0 : List (S67)) (r : List (S67)) (w : World) (hr0 : Kd.C k67 w A0 l0.length l0) (hc0 : l0.length ≤ c0) (h : impl_Line.f l0 = some r) :
    Calls Try.prog 95 #[.slice A0 l0.length c0] w fun e w' => ∃ v0_ : Value, e = .returned (v0_) ∧ Kd.R k67 67 w' w.heap.size (fun _ => True) v0_ r ∧ Below w.heap.size w w' := by
  have hu28 := Try.underlying28
  have HB := Aside0.mk (Below.refl w.heap.size w)
  unfold impl_Line.f at h
  by_cases c : l0.length < 3518437208883
  · rw [if_pos c] at h
    obtain rfl := Option.some.inj h
    clear h
    have HR := Aside0.mk hr0
    have LM := Aside0.mk c
    cases A0 with
    | none =>
      have hz : l0 = [] := by
        rcases Nat.eq_zero_or_pos l0.length with h0 | h0
        · exact List.eq_nil_of_length_eq_zero h0
        · obtain ⟨ad, e, _⟩ := hr0.2.2 h0; cases e
      subst hz
      have EQ : ∀ W, (binOp .eql 28 (.slice none 0 c0) (.slice none 0 0)).run Try.prog W = .ok (.bool true) W := fun W => run_eql_slice_nil (P := Try.prog) W 28 67 none 0 c0 Try.underlying28
      clear hr0
      go_enter Try.func95, Try.ntmps95
      go_wp2
      go_ret
      exact ⟨_, rfl, Kd.R_nil _ _ _ _ _, HB.out⟩
    | some ad =>
      have EQ : ∀ W, (binOp .eql 28 (.slice (some ad) l0.length c0) (.slice none 0 0)).run Try.prog W = .ok (.bool false) W := fun W => run_eql_slice_nil (P := Try.prog) W 28 67 (some ad) l0.length c0 Try.underlying28
      clear hr0
      go_enter Try.func95, Try.ntmps95
      go_wp2_with (first | ((with_reducible refine gate_dst (N := 5) rfl ?_); refine Kd.R_lit k67 _ 67 ?hg (N := 5) ?hd (xs := ([] : List S67)) (inner := []) (ok := fun _ => True) (okp := fun _ => True) ?hr ?hp (fun _ hk => hk) trivial (Below.refl _ _) (Nat.le_refl _) (by simp) ?_; (case hd => rfl); (case hg => rfl); (case hr => first | (go_simp; done) | (go_simp; rfl)); (case hp => exact (Reps.none _ _)); intro v1 w7 ho hb hg_ hnew_; clear hg_ hnew_; have n0_ := Aside0.mk (Kd.R_lower ho (below_size HB.out)); have n1_ := Aside0.mk (below_step HB.out hb); clear HB; have HO := n0_; have HB := n1_; clear n0_ n1_ hb ho) | ((with_reducible refine gate_dst (N := 7) rfl ?_); refine Kd.R_append_rows k67 (w0 := w) w.heap.size rfl (.tmp 5) (.tmp 6) 28 67 (.agg #[(.int .i64 0), (.string ⟨#[]⟩), (.string ⟨#[]⟩)]) 40 rfl Try.underlying28 info67 rfl (by decide) (by omega) v1 [] l0 _ _ _ (fun _ => True) (fun _ => False) rfl rfl ?aO ?aR (fun _ _ h => h) (fun _ h => h.elim) ?aF ?aB ?aS ?aL ?_; (case aR => exact Kd.C_below HR.out HB.out); (case aB => exact HB.out); (case aF => exact (fun _ _ => trivial)); (case aO => exact HO.out); (case aS => exact below_size HB.out); (case aL => have := LM.out; simp only [List.length_nil]; omega); intro v2 w8 ho hb hg hat; have n0_ := Aside0.mk ho; have n1_ := Aside0.mk hb; clear HB HO; have HO := n0_; have HB := n1_; clear n0_ n1_ ho hb hg hat))
      go_ret
      exact ⟨_, rfl, HO.out, HB.out⟩
  · rw [if_neg c] at h; cases h


/-! ### impl_Device_own: function 65 -/
def impl_Device_own.f (a0_0 : ByteArray) (l0_1 : List (S67)) : Option (ByteArray × (List (S67))) := (impl_Line.f l0_1).bind fun t195 => (some (a0_0, t195))
set_option maxHeartbeats 8000000 in
set_option maxRecDepth 100000 in
theorem impl_Device_own.calls (a0_0 : ByteArray) (A0_1 : Option Addr) (c0_1 : Nat) (l0_1 : List (S67)) (r1 : ByteArray) (r2 : List (S67)) (w : World) (hr0_1 : Kd.C k67 w A0_1 l0_1.length l0_1) (hc0_1 : l0_1.length ≤ c0_1) (h : impl_Device_own.f a0_0 l0_1 = some (r1, r2)) :
    Calls Try.prog 65 #[.agg #[.string a0_0, .slice A0_1 l0_1.length c0_1]] w fun e w' => ∃ v1_ : Value, e = .returned (.agg #[.string r1, v1_]) ∧ Kd.R k67 67 w' w.heap.size (fun _ => True) v1_ r2 ∧ Below w.heap.size w w' := by
  have hu30 := Try.underlying30
  have HR0_1 := Aside0.mk hr0_1
  have HC0_1 := Aside0.mk hc0_1
  clear hr0_1 hc0_1
  have HB := Aside0.mk (Below.refl w.heap.size w)
  have H : ((impl_Line.f l0_1).bind fun t195 => (some (a0_0, t195))) = some (r1, r2) := h
  clear h
  replace H := Option.bind_eq_some_iff.mp H
  obtain ⟨t195, A20, H⟩ := H
  replace H : (some (a0_0, t195)) = some (r1, r2) := H
  have A2 := Aside0.mk A20
  clear A20
  simp only [Option.some.injEq, Prod.mk.injEq] at H
  obtain ⟨rfl, rfl⟩ := H
  go_enter Try.func65, Try.ntmps65
  try go_wp2_with (first | ((with_reducible refine gate_dst (N := 1) rfl ?_); refine box_event ?hg (N := 1) ?hd (cs := #[.string a0_0, .slice A0_1 l0_1.length c0_1]) (t := 30) ?hr ?_; (case hd => rfl); (case hg => rfl); (case hr => first | (go_simp; done) | (go_simp; rfl)); intro gb193 hg w3 hbox hb; have n0_ := Aside0.mk (below_step (by repeat (first | (with_reducible first | exact HB.out | apply below_alloc | apply pw_below_drewN | apply below_drew1) | exact HB.out)) hb); have n1_ := Aside0.mk (hbox); have n2_ := Aside0.mk ((by rw [hg]; exact (below_size (by repeat (first | (with_reducible first | exact HB.out | apply below_alloc | apply pw_below_drewN | apply below_drew1) | exact HB.out))) : w.heap.size ≤ gb193)); have n3_ := Aside0.mk ((by rw [hg]; exact (below_size (by repeat (first | (with_reducible first | exact HB.out | apply below_alloc | apply pw_below_drewN | apply below_drew1) | exact HB.out))) : w.heap.size ≤ gb193)); clear HB; have HB := n0_; have BK193 := n1_; have GW193 := n2_; have GE193 := n3_; clear n0_ n1_ n2_ n3_; clear hb hbox hg) | ((with_reducible refine gate_dst (N := 2) rfl ?_); refine box_event ?hg (N := 2) ?hd (cs := #[.string (⟨#[]⟩ : ByteArray), .slice none 0 0]) (t := 30) ?hr ?_; (case hd => rfl); (case hg => rfl); (case hr => first | (go_simp; done) | (go_simp; rfl)); intro gb194 hg w4 hbox hb; have n0_ := Aside0.mk (blk_below (g := gb193) (o := .cells #[.string a0_0, .slice A0_1 l0_1.length c0_1] 30 (0, 0)) (by (with_reducible repeat (first | refine blk_drewN ?_ _ | refine blk_drew ?_ | refine blk_alloc ?_ _)); exact BK193.out) hb); have n1_ := Aside0.mk (below_step (by repeat (first | (with_reducible first | exact HB.out | apply below_alloc | apply pw_below_drewN | apply below_drew1 | refine below_set ?_ GE193.out) | exact HB.out)) hb); have n2_ := Aside0.mk (hbox); have n3_ := Aside0.mk ((by rw [hg]; exact (below_size (by repeat (first | (with_reducible first | exact HB.out | apply below_alloc | apply pw_below_drewN | apply below_drew1 | refine below_set ?_ GE193.out) | exact HB.out))) : w.heap.size ≤ gb194)); have n4_ := Aside0.mk ((by rw [hg]; exact (below_size (by repeat (first | (with_reducible first | exact HB.out | apply below_alloc | apply pw_below_drewN | apply below_drew1 | refine below_set ?_ GE193.out) | exact HB.out))) : w.heap.size ≤ gb194)); have n5_ := Aside0.mk ((by rw [hg]; exact Nat.ne_of_lt (blk_lt (g := gb193) (o := .cells #[.string a0_0, .slice A0_1 l0_1.length c0_1] 30 (0, 0)) (by (with_reducible repeat (first | refine blk_drewN ?_ _ | refine blk_drew ?_ | refine blk_alloc ?_ _)); exact BK193.out)) : gb193 ≠ gb194)); have n6_ := Aside0.mk ((by rw [hg]; exact Nat.ne_of_gt (blk_lt (g := gb193) (o := .cells #[.string a0_0, .slice A0_1 l0_1.length c0_1] 30 (0, 0)) (by (with_reducible repeat (first | refine blk_drewN ?_ _ | refine blk_drew ?_ | refine blk_alloc ?_ _)); exact BK193.out)) : gb194 ≠ gb193)); clear BK193; clear HB; have BK193 := n0_; have HB := n1_; have BK194 := n2_; have GW194 := n3_; have GE194 := n4_; have NB193_194 := n5_; have NB194_193 := n6_; clear n0_ n1_ n2_ n3_ n4_ n5_ n6_; clear hb hbox hg))
  have n0_ := Aside0.mk (blk_drew BK193.out)
  have n1_ := Aside0.mk (blk_drew BK194.out)
  have n2_ := Aside0.mk (below_drew1 HB.out)
  clear BK193
  clear BK194
  clear HB
  have BK193 := n0_
  have BK194 := n1_
  have HB := n2_
  clear n0_ n1_ n2_
  refine start_ (n := 7) (S := fun w' => w'.cell? ⟨gb193, 0, none⟩ = some (.string a0_0) ∧ w'.cell? ⟨gb193, 1, none⟩ = some (.slice A0_1 l0_1.length c0_1)) (ds := []) #[false, false, false, false, false, false, false] (by kernel_rfl) rfl rfl ⟨(blk_cell BK193.out 0).trans rfl, (blk_cell BK193.out 1).trans rfl⟩ (fun hHeld => ?_)
  generalize w4.drew = w5 at BK193 BK194 HB hHeld ⊢
  refine pure_ (i := 0) (N := some 3) (v := ?_) (a' := ?_) #[true, false, false, false, false, false, false] rfl rfl (by kernel_rfl) (fun _ _ _ h => h) (Or.inl ⟨by rfl, ?_⟩) ?_ ?_
  rotate_left
  · intro w'
    go_simp
    with_reducible rfl
  rotate_left
  · simp only [Act.put, List.setIfInBounds_toArray, List.set_cons_zero, List.set_cons_succ, i64_w, i32_w]
    rfl
  refine pure_ (i := 2) (N := some 5) (v := ?_) (a' := ?_) #[true, false, true, false, false, false, false] rfl rfl (by kernel_rfl) (fun _ _ _ h => h) (Or.inl ⟨by rfl, ?_⟩) ?_ ?_
  rotate_left
  · intro w'
    go_simp
    with_reducible rfl
  rotate_left
  · simp only [Act.put, List.setIfInBounds_toArray, List.set_cons_zero, List.set_cons_succ, i64_w, i32_w]
    rfl
  refine take_ (i := 1) (N := some 4) (v := ?_) (a' := ?_) #[true, true, true, false, false, false, false] rfl rfl (by kernel_rfl) (fun _ _ _ h => h) (Or.inl ⟨by rfl, ?_⟩) hHeld ?_ ?_
  rotate_left
  · rintro w' ⟨s0, s1⟩
    go_simp
    with_reducible rfl
  rotate_left
  · simp only [Act.put, List.setIfInBounds_toArray, List.set_cons_zero, List.set_cons_succ, i64_w, i32_w]
    rfl
  refine take_ (i := 3) (N := some 6) (v := ?_) (a' := ?_) #[true, true, true, true, false, false, false] rfl rfl (by kernel_rfl) (fun _ _ _ h => h) (Or.inl ⟨by rfl, ?_⟩) hHeld ?_ ?_
  rotate_left
  · rintro w' ⟨s0, s1⟩
    go_simp
    with_reducible rfl
  rotate_left
  · simp only [Act.put, List.setIfInBounds_toArray, List.set_cons_zero, List.set_cons_succ, i64_w, i32_w]
    rfl
  refine one_ (i := 4) (N := some 7) #[true, true, true, true, true, false, false] rfl rfl (by kernel_rfl) (by decide) (fun K hK => ?_)
  refine goes_ Try.func95 (by kernel_rfl) rfl #[.slice A0_1 l0_1.length c0_1] (by rfl) rfl rfl (by (try simp only [List.map_toArray, List.map_cons, List.map_nil]); first | done | rfl | (simp only [List.length_drop, List.length_take]; rfl)) ?_
  with_reducible refine (impl_Line.calls _ _ l0_1 t195 _ ?side1 ?side2 A2.out).mono ?_
  (case side1 => repeat (first | exact (Kd.C_below HR0_1.out HB.out) | (with_reducible refine Kd.C_alloc ?_ _) | (with_reducible refine Kd.C_drewN ?_ _) | (with_reducible refine Kd.C_drew ?_)))
  (case side2 => exact HC0_1.out)
  rintro e w6 ⟨v196, rfl, ho0, hb⟩
  refine ⟨_, rfl, ?_⟩
  have n0_ := Aside0.mk (Kd.R_lower ho0 (below_size (by repeat (first | (with_reducible first | exact HB.out | apply below_alloc | apply pw_below_drewN | apply below_drew1 | refine below_set ?_ GE193.out | refine below_set ?_ GE194.out) | exact HB.out))))
  have n1_ := Aside0.mk (blk_below (g := gb193) (o := .cells #[.string a0_0, .slice A0_1 l0_1.length c0_1] 30 (0, 0)) (by (with_reducible repeat (first | refine blk_drewN ?_ _ | refine blk_drew ?_ | refine blk_alloc ?_ _)); exact BK193.out) hb)
  have n2_ := Aside0.mk (blk_below (g := gb194) (o := .cells #[.string (⟨#[]⟩ : ByteArray), .slice none 0 0] 30 (0, 0)) (by (with_reducible repeat (first | refine blk_drewN ?_ _ | refine blk_drew ?_ | refine blk_alloc ?_ _)); exact BK194.out) hb)
  have n3_ := Aside0.mk (below_step (by repeat (first | (with_reducible first | exact HB.out | apply below_alloc | apply pw_below_drewN | apply below_drew1 | refine below_set ?_ GE193.out | refine below_set ?_ GE194.out) | exact HB.out)) hb)
  clear BK193
  clear BK194
  clear HB
  have HO197 := n0_
  have BK193 := n1_
  have BK194 := n2_
  have HB := n3_
  clear n0_ n1_ n2_ n3_
  (try clear hb)
  (try clear hb2)
  (try clear hk)
  (try clear hi)
  (try clear ho0)
  obtain ⟨Ao7, co7, eo7⟩ := Kd.R_slice HO197.out
  (first | subst eo7 | (injection eo7 with f1_ f2_ f3_; have f4_ := f1_.symm; have f5_ := f3_.symm; clear f1_ f2_ f3_; subst f4_; subst f5_))
  refine hK.out _ _ ⟨(blk_cell BK193.out 0).trans rfl, (blk_cell BK193.out 1).trans rfl⟩ (fun hHeld => ?_)
  clear hK K
  refine norm_ (a' := ?_) ?_ ?_
  rotate_left
  · show Act.put _ (some 7) _ = _
    simp only [Act.put, List.setIfInBounds_toArray, List.set_cons_zero, List.set_cons_succ, i64_w, i32_w]
    rfl
  refine pure_ (i := 5) (N := some 8) (v := ?_) (a' := ?_) #[true, true, true, true, true, true, false] rfl rfl (by kernel_rfl) (fun _ _ _ h => h) (Or.inl ⟨by rfl, ?_⟩) ?_ ?_
  rotate_left
  · intro w'
    go_simp
    with_reducible rfl
  rotate_left
  · simp only [Act.put, List.setIfInBounds_toArray, List.set_cons_zero, List.set_cons_succ, i64_w, i32_w]
    rfl
  refine one_ (i := 6) (N := none) #[true, true, true, true, true, true, true] rfl rfl (by kernel_rfl) (by decide) (fun K hK => ?_)
  have hs8 : w6.cell? ⟨gb194, 0, none⟩ = some (.string (⟨#[]⟩ : ByteArray)) := (blk_cell BK194.out 0).trans rfl
  have hfs8 := blk_frozen BK194.out 0
  have hns8_0 := NB193_194.out
  have hms8_0 := NB194_193.out
  have hs9 : w6.cell? ⟨gb194, 1, none⟩ = some (.slice none 0 0) := (blk_cell BK194.out 1).trans rfl
  have hfs9 := blk_frozen BK194.out 1
  have hns9_0 := NB193_194.out
  have hms9_0 := NB194_193.out
  refine skip_ (w1 := ?_) (by rfl) rfl ?_ ?_
  rotate_left
  · go_simp
    rfl
  refine hK.out _ _ ⟨((cell_far (p := ⟨gb194, _, none⟩) NB193_194.out _).trans (((cell_far (p := ⟨gb194, _, none⟩) NB193_194.out _).trans (hHeld.1)))), ((cell_far (p := ⟨gb194, _, none⟩) NB193_194.out _).trans (((cell_far (p := ⟨gb194, _, none⟩) NB193_194.out _).trans (hHeld.2))))⟩ (fun hHeld => ?_)
  clear hK K
  refine done_ (by kernel_rfl) ?_
  try go_wp2
  refine bodyPost_ret (results_cell_row rfl _ _ gb194 30 #[.string a0_0, .slice Ao7 t195.length co7] (0, 0) _ rfl (by (with_reducible repeat (first | refine blk_drewN ?_ _ | refine blk_drew ?_ | refine blk_alloc ?_ _)); refine blk_put (cs := #[.string a0_0, .slice none 0 0]) ?_ 1 _ rfl; (with_reducible repeat (first | refine blk_drewN ?_ _ | refine blk_drew ?_ | refine blk_alloc ?_ _)); refine blk_put (cs := #[.string (⟨#[]⟩ : ByteArray), .slice none 0 0]) ?_ 0 _ rfl; (with_reducible repeat (first | refine blk_drewN ?_ _ | refine blk_drew ?_ | refine blk_alloc ?_ _)); exact BK194.out) Try.underlying30 rfl (by kernel_rfl)) rfl ?_
  exact ⟨_, by first | rfl | (simp [errW_none, errW_some] <;> rfl) | (simp [*, errW_none, errW_some] <;> rfl), by (with_reducible repeat (first | apply Kd.R_alloc | apply Kd.R_drewN | apply Kd.R_drew)); exact Kd.R_mono (Kd.R_far (p := ⟨gb194, 1, none⟩) (Kd.R_far (p := ⟨gb194, 0, none⟩) (Kd.R_types HO197.out BK194.out (by decide)) (fun _ hk => hk.2) (.string a0_0)) (fun _ hk => hk.2) (.slice Ao7 t195.length co7)) (fun _ hk => trivial), by repeat (first | (with_reducible first | exact HB.out | apply below_alloc | apply pw_below_drewN | apply below_drew1 | refine below_set ?_ GE193.out | refine below_set ?_ GE194.out) | exact HB.out)⟩

/-! ### impl_Device_find: function 76 -/
set_option maxHeartbeats 4000000 in
set_option maxRecDepth 1000000 in
theorem impl_Device_find.nan (x : Int) (w : World) : Calls Try.prog 112 #[.int .i64 x] w fun e w' => e = .returned (.bool false) ∧ Below w.heap.size w w' := by
  have HB := Aside0.mk (Below.refl w.heap.size w)
  go_enter Try.func112, Try.ntmps112
  go_wp2
  go_ret
  exact ⟨by first | rfl | (simp; done), by (with_reducible repeat (first | exact HB.out | refine below_drew ?_))⟩
def impl_Device_find.cmp (x y : Int) : Int := if x < y then -1 else if y < x then 1 else 0
set_option maxHeartbeats 4000000 in
set_option maxRecDepth 1000000 in
theorem impl_Device_find.compare (x y : Int) (w : World) : Calls Try.prog 103 #[.int .i64 x, .int .i64 y] w fun e w' => e = .returned (.int .i64 (impl_Device_find.cmp x y)) ∧ Below w.heap.size w w' := by
  have HB := Aside0.mk (Below.refl w.heap.size w)
  have N1 := Aside0.mk (fun W => impl_Device_find.nan x W)
  have N2 := Aside0.mk (fun W => impl_Device_find.nan y W)
  unfold impl_Device_find.cmp
  by_cases c1 : x < y
  · rw [if_pos c1]
    go_enter Try.func103, Try.ntmps103
    go_wp2_with (first | (go_at_call 112; (first | refine (N1.out _).mono ?_ | refine (N2.out _).mono ?_); rintro e w2 ⟨rfl, hb⟩; have n0_ := Aside0.mk (below_step HB.out hb); clear HB; have HB := n0_; clear n0_ hb))
    go_ret
    exact ⟨rfl, HB.out⟩
  · rw [if_neg c1]
    by_cases c2 : y < x
    · rw [if_pos c2]
      go_enter Try.func103, Try.ntmps103
      go_wp2_with (first | (go_at_call 112; (first | refine (N1.out _).mono ?_ | refine (N2.out _).mono ?_); rintro e w2 ⟨rfl, hb⟩; have n0_ := Aside0.mk (below_step HB.out hb); clear HB; have HB := n0_; clear n0_ hb))
      go_ret
      exact ⟨rfl, HB.out⟩
    · rw [if_neg c2]
      go_enter Try.func103, Try.ntmps103
      go_wp2_with (first | (go_at_call 112; (first | refine (N1.out _).mono ?_ | refine (N2.out _).mono ?_); rintro e w2 ⟨rfl, hb⟩; have n0_ := Aside0.mk (below_step HB.out hb); clear HB; have HB := n0_; clear n0_ hb))
      go_ret
      exact ⟨rfl, HB.out⟩
set_option maxHeartbeats 4000000 in
set_option maxRecDepth 1000000 in
theorem impl_Device_find.closure (x : Int) (a b : ByteArray) (y : Int) (w : World) : Calls Try.prog 102 #[.agg #[.int .i64 x, .string a, .string b], .int .i64 y] w fun e w' => e = .returned (.int .i64 (impl_Device_find.cmp x y)) ∧ Below w.heap.size w w' := by
  have hu67 := Try.underlying67
  have HB := Aside0.mk (Below.refl w.heap.size w)
  have N1 := Aside0.mk (fun W => impl_Device_find.compare x y W)
  go_enter Try.func102, Try.ntmps102
  go_wp2_with (first | ((with_reducible refine gate_dst (N := 2) rfl ?_); refine box_event ?hg (N := 2) ?hd (cs := #[.int .i64 x, .string a, .string b]) (t := 67) ?hr ?_; (case hd => rfl); (case hg => rfl); (case hr => first | (go_simp; done) | (go_simp; rfl)); intro gd hg w4 hbox hb; have n0_ := Aside0.mk (below_step HB.out hb); clear HB; have HB := n0_; have hcz0 : w4.cell? ⟨gd, 0, none⟩ = some (.int .i64 x) := (blk_cell hbox 0).trans rfl; clear n0_ hb hbox hg) | (go_at_call 103; (refine (N1.out _).mono ?_); rintro e w2 ⟨rfl, hb⟩; have n0_ := Aside0.mk (below_step HB.out hb); clear HB; have HB := n0_; clear n0_ hb))
  go_ret
  exact ⟨rfl, HB.out⟩
def impl_Device_find.idx (l : List S67) (y : Int) : Nat := l.countP (fun x => decide (x.f0 < y))
theorem impl_Device_find.idx_eq (l : List S67) (y : Int) (i : Nat) (hi : i ≤ l.length) (h1 : ∀ t, t < i → (rd_T67 l (t : Int)).f0 < y) (h2 : ∀ t, i ≤ t → t < l.length → y ≤ (rd_T67 l (t : Int)).f0) : impl_Device_find.idx l y = i := by
  unfold impl_Device_find.idx
  have g : ∀ t (ht : t < l.length), rd_T67 l (t : Int) = l[t] := fun t ht => by simp [rd_T67, List.getD, ht]
  rw [← List.take_append_drop i l, List.countP_append]
  have e1 : (l.take i).countP (fun x => decide (x.f0 < y)) = (l.take i).length := by
    rw [List.countP_eq_length]
    intro a ha
    obtain ⟨t, ht, rfl⟩ := List.getElem_of_mem ha
    rw [List.length_take] at ht
    have := h1 t (by omega)
    rw [g t (by omega)] at this
    simpa using this
  have e2 : (l.drop i).countP (fun x => decide (x.f0 < y)) = 0 := by
    rw [List.countP_eq_zero]
    intro a ha
    obtain ⟨t, ht, rfl⟩ := List.getElem_of_mem ha
    rw [List.length_drop] at ht
    have := h2 (i + t) (by omega) (by omega)
    rw [g (i + t) (by omega)] at this
    simp; omega
  rw [e1, e2, List.length_take]; omega
def impl_Device_find.srt (l : List S67) : Prop := l.Pairwise (fun x y => x.f0 < y.f0)
instance (l : List S67) : Decidable (impl_Device_find.srt l) := by unfold impl_Device_find.srt; infer_instance
def impl_Device_find.f (a0_0 : ByteArray) (l0_1 : List S67) (a1 : Int) : Option (Int × Bool) := if impl_Device_find.srt l0_1 then if l0_1.length ≤ 4611686018427387903 then some ((impl_Device_find.idx l0_1 a1 : Nat), decide (impl_Device_find.idx l0_1 a1 < l0_1.length) && decide ((rd_T67 l0_1 (impl_Device_find.idx l0_1 a1 : Nat)).f0 = a1)) else none else none
set_option maxHeartbeats 4000000 in
set_option maxRecDepth 1000000 in
theorem impl_Device_find.search (A : Option Addr) (c : Nat) (l : List S67) (y : Int) (w : World) (hr : Kd.C k67 w A l.length l) (hc : l.length ≤ c) (hs : impl_Device_find.srt l) (hsz : l.length ≤ 4611686018427387903) :
    Calls Try.prog 101 #[.slice A l.length c, .int .i64 y, .func (.func 102) #[] #[]] w fun e w' => e = .returned (.tuple #[.int .i64 (impl_Device_find.idx l y : Nat), .bool (decide (impl_Device_find.idx l y < l.length) && decide ((rd_T67 l (impl_Device_find.idx l y : Nat)).f0 = y))]) ∧ Below w.heap.size w w' := by
  have hu67 := Try.underlying67
  have eg : ∀ args w, (callFunc 102 args).run Try.prog w = .ok (.enter 102 args) w := enters_of Try.func102 (by kernel_rfl) rfl
  have HB := Aside0.mk (Below.refl w.heap.size w)
  have HR := Aside0.mk hr
  have M : Aside0 (∀ a b : Nat, a ≤ b → b < l.length → (rd_T67 l (b : Int)).f0 < y → (rd_T67 l (a : Int)).f0 < y) := ⟨by
    intro a b hab hb h
    have g : ∀ t (ht : t < l.length), rd_T67 l (t : Int) = l[t] := fun t ht => by simp [rd_T67, List.getD, ht]
    rw [g b hb] at h
    rw [g a (by omega)]
    rcases Nat.lt_or_ge a b with h1 | h1
    · have := (List.pairwise_iff_getElem.1 hs) a b (by omega) hb h1
      omega
    · obtain rfl : a = b := by omega
      exact h⟩
  clear hr hs
  generalize hidx : impl_Device_find.idx l y = cnt
  have CN := Aside0.mk hidx
  clear hidx
  go_enter Try.func101, Try.ntmps101
  go_wp2
  go_loopg [9, 10] l.length (fun kx s9 s10 wr => ∃ lo hi : Nat, s9 = .int .i64 lo ∧ s10 = .int .i64 hi ∧ lo ≤ hi ∧ hi ≤ l.length ∧ hi - lo ≤ kx ∧ Aside0 (Below w.heap.size w wr) ∧
    Aside0 ((∀ t : Nat, t < lo → (rd_T67 l (t : Int)).f0 < y) ∧ (∀ t : Nat, hi ≤ t → t < l.length → y ≤ (rd_T67 l (t : Int)).f0)))
  case atStart => exact ⟨0, l.length, rfl, rfl, Nat.zero_le _, Nat.le_refl _, by omega, HB, ⟨fun t ht => absurd ht (Nat.not_lt_zero _), fun t h1 h2 => by omega⟩⟩
  case round =>
    clear HB
    obtain ⟨lo, hi, rfl, rfl, hlh, hin, hg, HB, I⟩ := hrel
    by_cases hlt : lo < hi
    · obtain ⟨ad, ea, hx0, hx1, hx2⟩ := at_T67 HR.out (((lo + hi) / 2 : Nat) : Int) (by omega) (by omega)
      cases ea
      replace hx0 := (HB.out.cell (World.block_lt_of_cell? w _ hx0)).trans hx0
      replace hx1 := (HB.out.cell (World.block_lt_of_cell? w _ hx1)).trans hx1
      replace hx2 := (HB.out.cell (World.block_lt_of_cell? w _ hx2)).trans hx2
      simp only [Int.toNat_natCast] at hx0 hx1 hx2
      generalize hy : rd_T67 l (((lo + hi) / 2 : Nat) : Int) = x at hx0 hx1 hx2
      have Y := Aside0.mk hy
      clear hy
      have N1 := Aside0.mk (fun W => impl_Device_find.closure x.f0 x.f1 x.f2 y W)
      generalize hcm : impl_Device_find.cmp x.f0 y = cm at N1
      have CM := Aside0.mk hcm
      clear hcm
      by_cases hyx : cm < 0
      · have hxy : x.f0 < y := by have := CM.out; unfold impl_Device_find.cmp at this; split at this <;> first | assumption | (split at this <;> omega)
        go_wp2_with (go_at_fn 102; (refine (N1.out _).mono ?_); rintro e w2 ⟨rfl, hb⟩; have n0_ := Aside0.mk (below_step HB.out hb); clear HB; have HB := n0_; clear n0_ hb)
        go_roundg (hi - ((lo + hi) / 2 + 1))
        case measure => omega
        case rel => exact ⟨(lo + hi) / 2 + 1, hi, by rw [show ((lo : Int) + (hi : Int)) / 2 + 1 = (((lo + hi) / 2 + 1 : Nat) : Int) by omega], rfl, by omega, hin, Nat.le_refl _, HB, ⟨⟨fun t ht => M.out t ((lo + hi) / 2) (by omega) (by omega) (by rw [Y.out]; exact hxy), I.out.2⟩⟩⟩
      · have hxy : y ≤ x.f0 := by have := CM.out; unfold impl_Device_find.cmp at this; split at this <;> omega
        go_wp2_with (go_at_fn 102; (refine (N1.out _).mono ?_); rintro e w2 ⟨rfl, hb⟩; have n0_ := Aside0.mk (below_step HB.out hb); clear HB; have HB := n0_; clear n0_ hb)
        go_roundg ((lo + hi) / 2 - lo)
        case measure => omega
        case rel => exact ⟨lo, (lo + hi) / 2, rfl, by rw [show ((lo : Int) + (hi : Int)) / 2 = (((lo + hi) / 2 : Nat) : Int) by omega], by omega, by omega, Nat.le_refl _, HB, ⟨⟨I.out.1, fun t ht htn => Int.not_lt.1 fun h => by have := M.out ((lo + hi) / 2) t ht htn h; rw [Y.out] at this; omega⟩⟩⟩
    · obtain rfl : hi = lo := by omega
      have ecnt : cnt = hi := by
        rw [← CN.out]
        exact impl_Device_find.idx_eq l y hi hin (fun t ht => I.out.1 t ht) (fun t h3 h4 => I.out.2 t h3 h4)
      subst ecnt
      by_cases hn : cnt < l.length
      · obtain ⟨ad, ea, hx0, hx1, hx2⟩ := at_T67 HR.out (cnt : Int) (by omega) (by omega)
        cases ea
        replace hx0 := (HB.out.cell (World.block_lt_of_cell? w _ hx0)).trans hx0
        replace hx1 := (HB.out.cell (World.block_lt_of_cell? w _ hx1)).trans hx1
        replace hx2 := (HB.out.cell (World.block_lt_of_cell? w _ hx2)).trans hx2
        simp only [Int.toNat_natCast] at hx0 hx1 hx2
        generalize hy : rd_T67 l (cnt : Int) = x at hx0 hx1 hx2 ⊢
        have N1 := Aside0.mk (fun W => impl_Device_find.closure x.f0 x.f1 x.f2 y W)
        generalize hcm : impl_Device_find.cmp x.f0 y = cm at N1
        have CM := Aside0.mk hcm
        have Y := Aside0.mk hy
        clear hcm hy
        by_cases hyx : cm = 0
        · have hxy := Aside0.mk (show x.f0 = y by have := CM.out; unfold impl_Device_find.cmp at this; split at this <;> first | omega | (split at this <;> omega))
          go_wp2_with (go_at_fn 102; (refine (N1.out _).mono ?_); rintro e w2 ⟨rfl, hb⟩; have n0_ := Aside0.mk (below_step HB.out hb); clear HB; have HB := n0_; clear n0_ hb)
          go_ret2
          exact ⟨by try rw [Y.out]
                    simp [hn, hyx, hxy.out], HB.out⟩
        · have hxy := Aside0.mk (show ¬ x.f0 = y by intro e; apply hyx; rw [← CM.out, e]; unfold impl_Device_find.cmp; simp)
          go_wp2_with (go_at_fn 102; (refine (N1.out _).mono ?_); rintro e w2 ⟨rfl, hb⟩; have n0_ := Aside0.mk (below_step HB.out hb); clear HB; have HB := n0_; clear n0_ hb)
          go_ret2
          exact ⟨by try rw [Y.out]
                    simp [hn, hyx, hxy.out], HB.out⟩
      · go_wp2
        go_ret2
        exact ⟨by simp [hn], HB.out⟩
set_option maxHeartbeats 4000000 in
set_option maxRecDepth 1000000 in
theorem impl_Device_find.calls (a0_0 : ByteArray) (A0_1 : Option Addr) (c0_1 : Nat) (l0_1 : List (S67)) (a1 : Int) (r1 : Int) (r2 : Bool) (w : World) (hr0_1 : Kd.C k67 w A0_1 l0_1.length l0_1) (hc0_1 : l0_1.length ≤ c0_1) (h : impl_Device_find.f a0_0 l0_1 a1 = some (r1, r2)) :
    Calls Try.prog 76 #[.agg #[.string a0_0, .slice A0_1 l0_1.length c0_1], .int .i64 a1] w fun e w' => e = .returned (.tuple #[.int .i64 r1, .bool r2]) ∧ Below w.heap.size w w' := by
  have hu30 := Try.underlying30
  unfold impl_Device_find.f at h
  by_cases c1 : impl_Device_find.srt l0_1
  · rw [if_pos c1] at h
    by_cases c2 : l0_1.length ≤ 4611686018427387903
    · rw [if_pos c2] at h
      obtain ⟨rfl, rfl⟩ := Prod.mk.inj (Option.some.inj h)
      clear h
      have HB := Aside0.mk (Below.refl w.heap.size w)
      have N1 := Aside0.mk (fun W (hW : Kd.C k67 W A0_1 l0_1.length l0_1) => impl_Device_find.search A0_1 c0_1 l0_1 a1 W hW hc0_1 c1 c2)
      have HR := Aside0.mk hr0_1
      clear hr0_1
      go_enter Try.func76, Try.ntmps76
      go_wp2_with (first | ((with_reducible refine gate_dst (N := 2) rfl ?_); refine box_event ?hg (N := 2) ?hd (cs := #[.string a0_0, .slice A0_1 l0_1.length c0_1]) (t := 30) ?hr ?_; (case hd => rfl); (case hg => rfl); (case hr => first | (go_simp; done) | (go_simp; rfl)); intro gd hg w4 hbox hb; have n0_ := Aside0.mk (below_step HB.out hb); clear HB; have HB := n0_; have hcz1 : w4.cell? ⟨gd, 1, none⟩ = some (.slice A0_1 l0_1.length c0_1) := (blk_cell hbox 1).trans rfl; clear n0_ hb hbox hg) | (go_at_call 101; (refine (N1.out _ (Kd.C_below HR.out HB.out)).mono ?_); rintro e w2 ⟨rfl, hb⟩; have n0_ := Aside0.mk (below_step HB.out hb); clear HB; have HB := n0_; clear n0_ hb))
      go_ret2
      exact ⟨rfl, HB.out⟩
    · rw [if_neg c2] at h; cases h
  · rw [if_neg c1] at h; cases h


/-! ### impl_Flush: function 36 -/
theorem impl_Flush.bound (s : ByteArray) (l : List S67) (y i : Int) (b : Bool) (h : impl_Device_find.f s l y = some (i, b)) : 0 ≤ i ∧ (b = true → i < (l.length : Int)) := by
  unfold impl_Device_find.f at h
  split at h
  · split at h
    · obtain ⟨rfl, rfl⟩ := Prod.mk.inj (Option.some.inj h)
      refine ⟨by omega, fun hb => ?_⟩
      simp only [Bool.and_eq_true, decide_eq_true_eq] at hb
      omega
    · cases h
  · cases h
def impl_Flush.put (l : List S67) (i : Int) (b : Bool) : List S67 := if b = true then l.set i.toNat ⟨(rd_T67 l i).f0, (rd_T67 l i).f1, (rd_T67 l i).f1⟩ else l
set_option maxHeartbeats 4000000 in
set_option maxRecDepth 1000000 in
theorem impl_Flush.flush (base g : Nat) (ok : Nat → Prop) (s : ByteArray) (A : Option Addr) (c : Nat) (l : List S67) (y i : Int) (b : Bool) (w0 w : World) (hbk : w.heap[g]? = some (.cells #[.string s, .slice A l.length c] 30 (0, 0)))
    (hR : Kd.R k67 67 w base ok (.slice A l.length c) l) (hok : ∀ k, ok k → k ≠ g) (hB : Below base w0 w) (hbw : base ≤ w.heap.size) (hf : impl_Device_find.f s l y = some (i, b)) :
    Calls Try.prog 74 #[.pointer (some ⟨g, 0, none⟩), .int .i64 y] w fun e w' => e = .returned (.tuple #[]) ∧ w'.heap[g]? = some (.cells #[.string s, .slice A l.length c] 30 (0, 0)) ∧ Kd.R k67 67 w' base ok (.slice A l.length c) (impl_Flush.put l i b) ∧ Below base w0 w' ∧ w.heap.size ≤ w'.heap.size ∧ ∀ k, k < w.heap.size → some k ≠ (Value.slice A l.length c).ownBlock → w'.heap[k]? = w.heap[k]? := by
  have hu30 := Try.underlying30
  have hu67 := Try.underlying67
  obtain ⟨i0, ib⟩ := impl_Flush.bound s l y i b hf
  have F := Aside0.mk hf
  have BK := Aside0.mk hbk
  have HR := Aside0.mk hR
  have HB := Aside0.mk hB
  have hcz0 : w.cell? ⟨g, 0, none⟩ = some (.string s) := (blk_cell BK.out 0).trans rfl
  have hcz1 : w.cell? ⟨g, 1, none⟩ = some (.slice A l.length c) := (blk_cell BK.out 1).trans rfl
  clear hf hbk hR hB
  by_cases hb1 : b = true
  · subst hb1
    have i1 := ib rfl
    clear ib
    have hpos : 0 < l.length := by omega
    obtain ⟨go, cap, eo, gb, gl, cells, hgo⟩ := Kd.R_form HR.out hpos
    obtain ⟨rfl, -, rfl⟩ := Value.slice.inj eo
    clear eo
    go_enter Try.func74, Try.ntmps74
    go_wp2_with (go_at_call 76; (with_reducible refine (impl_Device_find.calls s _ _ l y i true _ ?side1 ?side2 F.out).mono ?_); (case side1 => exact (Kd.R_reads' HR.out).2.2); (case side2 => exact (Kd.R_reads' HR.out).2.1); rintro e w2 ⟨rfl, hb⟩; have n0_ := Aside0.mk (HB.out.trans (hb.mono hbw)); have n1_ := Aside0.mk (blk_below BK.out hb); have n2_ := Aside0.mk (Kd.R_below HR.out hb); clear HB BK HR hcz0 hcz1; have HB := n0_; have BK := n1_; have HR := n2_; have HBB := Aside0.mk hb; clear n0_ n1_ n2_ hb)
    obtain ⟨n, rfl⟩ := Int.eq_ofNat_of_zero_le i0
    have n1 : n < l.length := by omega
    have DR := Aside0.mk (Kd.R_drew HR.out)
    obtain ⟨ce, hcl, hM, hcc, hfr⟩ := Kd.R_elem DR.out z67 (n : Int) (by omega) (by omega)
    obtain rfl := k67_openM hM
    have HP := Aside0.mk (Kd.R_seg DR.out (n : Int) (by omega) (by omega) (seg := [.string (rd_T67 l (n : Int)).f1]) (j := 2) hcl hcc (show 3 ≤ 3 from by decide) (x' := (⟨(rd_T67 l (n : Int)).f0, (rd_T67 l (n : Int)).f1, (rd_T67 l (n : Int)).f1⟩ : S67)) (k67_mkM _ _ _ (⟨(rd_T67 l (n : Int)).f0, (rd_T67 l (n : Int)).f1, (rd_T67 l (n : Int)).f1⟩ : S67)) (fun _ hk => hk))
    have hx1 : w2.drew.cell? ⟨go, n * 3 + 1, none⟩ = some (.string (rd_T67 l (n : Int)).f1) := hcc 1 _ rfl
    have hx2 : w2.drew.cell? ⟨go, n * 3 + 2, none⟩ = some (.string (rd_T67 l (n : Int)).f2) := hcc 2 _ rfl
    have hf2 : w2.drew.frozen? ⟨go, n * 3 + 2, none⟩ = false := hfr 2
    have hcz0 : w2.drew.cell? ⟨g, 0, none⟩ = some (.string s) := (blk_cell (blk_drew BK.out) 0).trans rfl
    have hcz1 : w2.drew.cell? ⟨g, 1, none⟩ = some (.slice (some ⟨go, 0, none⟩) l.length c) := (blk_cell (blk_drew BK.out) 1).trans rfl
    have nok : go ≠ g := hok go (HR.out.1 go (by simp [Value.ownBlock]))
    have EP := Aside0.mk (show impl_Flush.put l (n : Int) true = l.set n ⟨(rd_T67 l (n : Int)).f0, (rd_T67 l (n : Int)).f1, (rd_T67 l (n : Int)).f1⟩ by unfold impl_Flush.put; rw [if_pos rfl]; rfl)
    generalize rd_T67 l (n : Int) = x at *
    clear hcl hM hcc hfr F
    go_wp2
    go_region
    all_goals
      go_wp2
      go_end0
      refine ⟨rfl, ?_, ?_, ?_, ?_, ?_⟩
      · exact blk_far (blk_drew BK.out) nok.symm _
      · rw [EP.out]; exact HP.out.1
      · exact (Below.drew HB.out).setCell (p := ⟨go, _, none⟩) gb _
      · have := HBB.out.size; simpa [World.setCell] using this
      · intro k0 hk0 hne
        have hne' : go ≠ k0 := fun e => hne (by rw [← e]; simp [Value.ownBlock])
        exact (Below.heap_setCell _ _ _ k0 hne'.symm).trans (HBB.out.block k0 hk0)
  · replace hb1 := Bool.eq_false_iff.mpr hb1
    subst hb1
    clear ib
    have C0 := Aside0.mk (Kd.R_reads' HR.out)
    go_enter Try.func74, Try.ntmps74
    go_wp2_with (go_at_call 76; (with_reducible refine (impl_Device_find.calls s _ _ l y i false _ ?side1 ?side2 F.out).mono ?_); (case side1 => exact (Kd.R_reads' HR.out).2.2); (case side2 => exact (Kd.R_reads' HR.out).2.1); rintro e w2 ⟨rfl, hb⟩; have n0_ := Aside0.mk (HB.out.trans (hb.mono hbw)); have n1_ := Aside0.mk (blk_below BK.out hb); have n2_ := Aside0.mk (Kd.R_below HR.out hb); clear HB BK HR hcz0 hcz1; have HB := n0_; have BK := n1_; have HR := n2_; have HBB := Aside0.mk hb; clear n0_ n1_ n2_ hb)
    go_end0
    exact ⟨rfl, BK.out, by unfold impl_Flush.put; rw [if_neg (by decide)]; exact HR.out, HB.out, HBB.out.size, fun k0 hk0 _ => HBB.out.block k0 hk0⟩

def impl_Flush.f (k : Nat) (a0_0 : ByteArray) (l0_1 : List S67) (a1 : Int) : Option (ByteArray × (List (S67)) × Bool) := (impl_DeviceOk.f k a0_0 l0_1).bind fun t => if t = true then ((impl_Device_has.f a0_0 l0_1 a1).bind fun u => if u = true then ((impl_Device_own.f a0_0 l0_1).bind fun o => (impl_Device_find.f o.1 o.2 a1).bind fun q => some (o.1, impl_Flush.put o.2 q.1 q.2, true)) else some ((⟨#[]⟩ : ByteArray), [], false)) else some ((⟨#[]⟩ : ByteArray), [], false)
theorem impl_Flush.mono : ∀ a0 a1 a2 k, LeO (impl_Flush.f k a0 a1 a2) (impl_Flush.f (k + 1) a0 a1 a2) := by
  intro a0 a1 a2 k
  unfold impl_Flush.f
  exact LeO.bind (impl_DeviceOk.mono _ _ _) (fun t => LeO.refl _)
set_option maxHeartbeats 8000000 in
set_option maxRecDepth 1000000 in
theorem impl_Flush.calls (k : Nat) (a0_0 : ByteArray) (A0_1 : Option Addr) (c0_1 : Nat) (l0_1 : List (S67)) (a1 : Int) (r1 : ByteArray) (r2 : List (S67)) (r3 : Bool) (w : World) (hr0_1 : Kd.C k67 w A0_1 l0_1.length l0_1) (hc0_1 : l0_1.length ≤ c0_1) (h : impl_Flush.f k a0_0 l0_1 a1 = some (r1, r2, r3)) :
    Calls Try.prog 36 #[.agg #[.string a0_0, .slice A0_1 l0_1.length c0_1], .int .i64 a1] w fun e w' => ∃ v1_ : Value, e = .returned (.tuple #[.agg #[.string r1, v1_], .bool r3]) ∧ Kd.R k67 67 w' w.heap.size (fun _ => True) v1_ r2 ∧ Below w.heap.size w w' := by
  have hu30 := Try.underlying30
  have HR := Aside0.mk hr0_1
  have HC := Aside0.mk hc0_1
  clear hr0_1 hc0_1
  have HB := Aside0.mk (Below.refl w.heap.size w)
  unfold impl_Flush.f at h
  obtain ⟨t, ht, h⟩ := Option.bind_eq_some_iff.mp h
  have T := Aside0.mk ht
  clear ht
  by_cases ct : t = true
  · subst ct
    rw [if_pos rfl] at h
    obtain ⟨u, hu, h⟩ := Option.bind_eq_some_iff.mp h
    have U := Aside0.mk hu
    clear hu
    by_cases cu : u = true
    · subst cu
      rw [if_pos rfl] at h
      obtain ⟨⟨s2, l2⟩, ho, h⟩ := Option.bind_eq_some_iff.mp h
      obtain ⟨⟨i, b⟩, hf, h⟩ := Option.bind_eq_some_iff.mp h
      simp only [Option.some.injEq, Prod.mk.injEq] at h
      obtain ⟨rfl, rfl, rfl⟩ := h
      have O := Aside0.mk ho
      have F := Aside0.mk hf
      clear ho hf
      go_enter Try.func36, Try.ntmps36
      go_wp2_with (first | ((with_reducible refine gate_dst (N := 2) rfl ?_); refine box_event ?hg (N := 2) ?hd (cs := #[.string a0_0, .slice A0_1 l0_1.length c0_1]) (t := 30) ?hr ?_; (case hd => rfl); (case hg => rfl); (case hr => first | (go_simp; done) | (go_simp; rfl)); intro gd hg w4 hbox hb; have n0_ := Aside0.mk (below_step HB.out hb); have n1_ := Aside0.mk hbox; have n3_ := Aside0.mk (by rw [hg]; exact (below_size HB.out) : w.heap.size ≤ gd); clear HB; have HB := n0_; have BK := n1_; have GE := n3_; clear n0_ n1_ n3_; clear hb hbox hg; have hcz0 : w4.cell? ⟨gd, 0, none⟩ = some (.string a0_0) := (blk_cell BK.out 0).trans rfl; have hcz1 : w4.cell? ⟨gd, 1, none⟩ = some (.slice A0_1 l0_1.length c0_1) := (blk_cell BK.out 1).trans rfl) | ((with_reducible refine gate_dst (N := 4) rfl ?_); refine box_event ?hg (N := 4) ?hd (cs := #[.string (⟨#[]⟩ : ByteArray), .slice none 0 0]) (t := 30) ?hr ?_; (case hd => rfl); (case hg => rfl); (case hr => first | (go_simp; done) | (go_simp; rfl)); intro gr hg w5 hbox hb; have n0_ := Aside0.mk (below_step HB.out hb); have n1_ := Aside0.mk hbox; have n2_ := Aside0.mk (blk_below BK.out hb); have n3_ := Aside0.mk (by rw [hg]; exact (below_size HB.out) : w.heap.size ≤ gr); have n4_ := Aside0.mk (by rw [hg]; exact Nat.ne_of_lt (blk_lt BK.out) : gd ≠ gr); clear HB BK hcz0 hcz1; have HB := n0_; have BKr := n1_; have BK := n2_; have GEr := n3_; have NEr := n4_; clear n0_ n1_ n2_ n3_ n4_; clear hb hbox hg; have hcz0 : w5.cell? ⟨gd, 0, none⟩ = some (.string a0_0) := (blk_cell BK.out 0).trans rfl; have hcz1 : w5.cell? ⟨gd, 1, none⟩ = some (.slice A0_1 l0_1.length c0_1) := (blk_cell BK.out 1).trans rfl; have hcr0 : w5.cell? ⟨gr, 0, none⟩ = some (.string (⟨#[]⟩ : ByteArray)) := (blk_cell BKr.out 0).trans rfl; have hcr1 : w5.cell? ⟨gr, 1, none⟩ = some (.slice none 0 0) := (blk_cell BKr.out 1).trans rfl; have hfr0 := blk_frozen BKr.out 0; have hfr1 := blk_frozen BKr.out 1) | (go_at_call 45; (with_reducible refine (impl_DeviceOk.calls k a0_0 _ _ l0_1 true _ ?side1 ?side2 T.out).mono ?_); (case side1 => exact Kd.C_below HR.out HB.out); (case side2 => exact HC.out); rintro e w6 ⟨rfl, hb⟩; have n0_ := Aside0.mk (below_step HB.out hb); have n1_ := Aside0.mk (blk_below BK.out hb); have n2_ := Aside0.mk (blk_below BKr.out hb); clear HB BK BKr hcz0 hcz1 hcr0 hcr1 hfr0 hfr1; have HB := n0_; have BK := n1_; have BKr := n2_; clear n0_ n1_ n2_ hb; have hcz0 : w6.cell? ⟨gd, 0, none⟩ = some (.string a0_0) := (blk_cell BK.out 0).trans rfl; have hcz1 : w6.cell? ⟨gd, 1, none⟩ = some (.slice A0_1 l0_1.length c0_1) := (blk_cell BK.out 1).trans rfl; have hcr0 : w6.cell? ⟨gr, 0, none⟩ = some (.string (⟨#[]⟩ : ByteArray)) := (blk_cell BKr.out 0).trans rfl; have hcr1 : w6.cell? ⟨gr, 1, none⟩ = some (.slice none 0 0) := (blk_cell BKr.out 1).trans rfl; have hfr0 := blk_frozen BKr.out 0; have hfr1 := blk_frozen BKr.out 1) | (go_at_call 73; (with_reducible refine (impl_Device_has.calls a0_0 _ _ l0_1 a1 true _ ?side1 ?side2 U.out).mono ?_); (case side1 => exact Kd.C_below HR.out HB.out); (case side2 => exact HC.out); rintro e w7 ⟨rfl, hb⟩; have n0_ := Aside0.mk (below_step HB.out hb); have n1_ := Aside0.mk (blk_below BK.out hb); have n2_ := Aside0.mk (blk_below BKr.out hb); clear HB BK BKr hcz0 hcz1 hcr0 hcr1 hfr0 hfr1; have HB := n0_; have BK := n1_; have BKr := n2_; clear n0_ n1_ n2_ hb; have hcz0 : w7.cell? ⟨gd, 0, none⟩ = some (.string a0_0) := (blk_cell BK.out 0).trans rfl; have hcz1 : w7.cell? ⟨gd, 1, none⟩ = some (.slice A0_1 l0_1.length c0_1) := (blk_cell BK.out 1).trans rfl; have hcr0 : w7.cell? ⟨gr, 0, none⟩ = some (.string (⟨#[]⟩ : ByteArray)) := (blk_cell BKr.out 0).trans rfl; have hcr1 : w7.cell? ⟨gr, 1, none⟩ = some (.slice none 0 0) := (blk_cell BKr.out 1).trans rfl; have hfr0 := blk_frozen BKr.out 0; have hfr1 := blk_frozen BKr.out 1) | (go_at_call 65; (with_reducible refine (impl_Device_own.calls a0_0 _ _ l0_1 s2 l2 _ ?side1 ?side2 O.out).mono ?_); (case side1 => exact Kd.C_below HR.out HB.out); (case side2 => exact HC.out); rintro e w8 ⟨vo, rfl, ho, hb⟩; have n3_ := Aside0.mk (Kd.R_lower ho (below_size HB.out)); have n0_ := Aside0.mk (below_step HB.out hb); have n1_ := Aside0.mk (blk_below BK.out hb); have n2_ := Aside0.mk (blk_below BKr.out hb); clear HB BK BKr hcz0 hcz1 hcr0 hcr1 hfr0 hfr1; have HB := n0_; have BK := n1_; have BKr := n2_; clear n0_ n1_ n2_ hb; have hcz0 : w8.cell? ⟨gd, 0, none⟩ = some (.string a0_0) := (blk_cell BK.out 0).trans rfl; have hcz1 : w8.cell? ⟨gd, 1, none⟩ = some (.slice A0_1 l0_1.length c0_1) := (blk_cell BK.out 1).trans rfl; have hcr0 : w8.cell? ⟨gr, 0, none⟩ = some (.string (⟨#[]⟩ : ByteArray)) := (blk_cell BKr.out 0).trans rfl; have hcr1 : w8.cell? ⟨gr, 1, none⟩ = some (.slice none 0 0) := (blk_cell BKr.out 1).trans rfl; have hfr0 := blk_frozen BKr.out 0; have hfr1 := blk_frozen BKr.out 1; have HO := n3_; clear n3_ ho; obtain ⟨Ao, co, eo⟩ := Kd.R_slice HO.out; subst eo) | ((with_reducible refine gate_dst (N := 6) rfl ?_); refine box_event ?hg (N := 6) ?hd (cs := #[.string (⟨#[]⟩ : ByteArray), .slice none 0 0]) (t := 30) ?hr ?_; (case hd => rfl); (case hg => rfl); (case hr => first | (go_simp; done) | (go_simp; rfl)); intro gO hg w9 hbox hb; have n3_ := Aside0.mk (Kd.R_below HO.out hb); have n4_ := Aside0.mk hbox; have GEo := Aside0.mk (by rw [hg]; exact (below_size HB.out) : w.heap.size ≤ gO); have NErO := (by rw [hg]; exact Nat.ne_of_lt (blk_lt BKr.out) : gr ≠ gO); have NEOr := NErO.symm; clear HO; have HO := n3_; have BKo := n4_; clear n3_ n4_ hbox hg; have n0_ := Aside0.mk (below_step HB.out hb); have n1_ := Aside0.mk (blk_below BK.out hb); have n2_ := Aside0.mk (blk_below BKr.out hb); clear HB BK BKr hcz0 hcz1 hcr0 hcr1 hfr0 hfr1; have HB := n0_; have BK := n1_; have BKr := n2_; clear n0_ n1_ n2_ hb; have hcz0 : w9.cell? ⟨gd, 0, none⟩ = some (.string a0_0) := (blk_cell BK.out 0).trans rfl; have hcz1 : w9.cell? ⟨gd, 1, none⟩ = some (.slice A0_1 l0_1.length c0_1) := (blk_cell BK.out 1).trans rfl; have hcr0 : w9.cell? ⟨gr, 0, none⟩ = some (.string (⟨#[]⟩ : ByteArray)) := (blk_cell BKr.out 0).trans rfl; have hcr1 : w9.cell? ⟨gr, 1, none⟩ = some (.slice none 0 0) := (blk_cell BKr.out 1).trans rfl; have hfr0 := blk_frozen BKr.out 0; have hfr1 := blk_frozen BKr.out 1; have hco0 : w9.cell? ⟨gO, 0, none⟩ = some (.string (⟨#[]⟩ : ByteArray)) := (blk_cell BKo.out 0).trans rfl; have hco1 : w9.cell? ⟨gO, 1, none⟩ = some (.slice none 0 0) := (blk_cell BKo.out 1).trans rfl; have hfo0 := blk_frozen BKo.out 0; have hfo1 := blk_frozen BKo.out 1) | (go_at_call 74; (refine (impl_Flush.flush w.heap.size gO (fun k => True ∧ k ≠ gO) s2 Ao co l2 a1 i b w _ ?side1 ?side2 (fun k hk => hk.2) ?side3 ?side4 F.out).mono ?_); (case side1 => exact blk_put (cs := #[.string s2, .slice none 0 0]) (blk_put BKo.out 0 _ rfl) 1 _ rfl); (case side2 => exact Kd.R_far (p := ⟨gO, 1, none⟩) (Kd.R_far (p := ⟨gO, 0, none⟩) (Kd.R_types HO.out BKo.out (by decide)) (fun _ hk => hk.2) _) (fun _ hk => hk.2) _); (case side3 => exact below_set (below_set HB.out GEo.out) GEo.out); (case side4 => have := below_size HB.out; simpa [World.setCell] using this); rintro e w10 ⟨rfl, hbo, hro, hb, hsz, hoth⟩; have n0_ := Aside0.mk hb; have n1_ := Aside0.mk hbo; have n2_ := Aside0.mk ((hoth gr (by have := blk_lt BKr.out; simpa [World.setCell] using this) (Kd.R_ne HO.out BKr.out (by decide))).trans (blk_far (blk_far BKr.out NErO _) NErO _)); have n3_ := Aside0.mk hro; clear HB BK BKr BKo HO hcz0 hcz1 hcr0 hcr1 hfr0 hfr1 hco0 hco1 hfo0 hfo1; have HB := n0_; have BKo := n1_; have BKr := n2_; have HO := n3_; clear n0_ n1_ n2_ n3_ hb hbo hro hsz hoth; have hcr0 : w10.cell? ⟨gr, 0, none⟩ = some (.string (⟨#[]⟩ : ByteArray)) := (blk_cell BKr.out 0).trans rfl; have hcr1 : w10.cell? ⟨gr, 1, none⟩ = some (.slice none 0 0) := (blk_cell BKr.out 1).trans rfl; have hfr0 := blk_frozen BKr.out 0; have hfr1 := blk_frozen BKr.out 1; have hco0 : w10.cell? ⟨gO, 0, none⟩ = some (.string s2) := (blk_cell BKo.out 0).trans rfl; have hco1 : w10.cell? ⟨gO, 1, none⟩ = some (.slice Ao l2.length co) := (blk_cell BKo.out 1).trans rfl))
      refine bodyPost_ret (results_ct rfl _ _ gr 30 #[.string s2, .slice Ao l2.length co] (0, 0) _ rfl (by refine blk_put (cs := #[.string s2, .slice none 0 0]) ?_ 1 _ rfl; refine blk_put (cs := #[.string (⟨#[]⟩ : ByteArray), .slice none 0 0]) ?_ 0 _ rfl; exact BKr.out) Try.underlying30 rfl (by kernel_rfl)) rfl ?_
      exact ⟨_, rfl, Kd.R_mono (Kd.R_far (p := ⟨gr, 1, none⟩) (Kd.R_far (p := ⟨gr, 0, none⟩) (Kd.R_types HO.out BKr.out (by decide)) (fun _ hk => hk.2) _) (fun _ hk => hk.2) _) (fun _ _ => trivial), below_set (below_set HB.out GEr.out) GEr.out⟩
    · replace cu := Bool.eq_false_iff.mpr cu
      subst cu
      rw [if_neg (by decide)] at h
      simp only [Option.some.injEq, Prod.mk.injEq] at h
      obtain ⟨rfl, rfl, rfl⟩ := h
      go_enter Try.func36, Try.ntmps36
      go_wp2_with (first | ((with_reducible refine gate_dst (N := 2) rfl ?_); refine box_event ?hg (N := 2) ?hd (cs := #[.string a0_0, .slice A0_1 l0_1.length c0_1]) (t := 30) ?hr ?_; (case hd => rfl); (case hg => rfl); (case hr => first | (go_simp; done) | (go_simp; rfl)); intro gd hg w4 hbox hb; have n0_ := Aside0.mk (below_step HB.out hb); have n1_ := Aside0.mk hbox; have n3_ := Aside0.mk (by rw [hg]; exact (below_size HB.out) : w.heap.size ≤ gd); clear HB; have HB := n0_; have BK := n1_; have GE := n3_; clear n0_ n1_ n3_; clear hb hbox hg; have hcz0 : w4.cell? ⟨gd, 0, none⟩ = some (.string a0_0) := (blk_cell BK.out 0).trans rfl; have hcz1 : w4.cell? ⟨gd, 1, none⟩ = some (.slice A0_1 l0_1.length c0_1) := (blk_cell BK.out 1).trans rfl) | ((with_reducible refine gate_dst (N := 4) rfl ?_); refine box_event ?hg (N := 4) ?hd (cs := #[.string (⟨#[]⟩ : ByteArray), .slice none 0 0]) (t := 30) ?hr ?_; (case hd => rfl); (case hg => rfl); (case hr => first | (go_simp; done) | (go_simp; rfl)); intro gr hg w5 hbox hb; have n0_ := Aside0.mk (below_step HB.out hb); have n1_ := Aside0.mk hbox; have n2_ := Aside0.mk (blk_below BK.out hb); have n3_ := Aside0.mk (by rw [hg]; exact (below_size HB.out) : w.heap.size ≤ gr); have n4_ := Aside0.mk (by rw [hg]; exact Nat.ne_of_lt (blk_lt BK.out) : gd ≠ gr); clear HB BK hcz0 hcz1; have HB := n0_; have BKr := n1_; have BK := n2_; have GEr := n3_; have NEr := n4_; clear n0_ n1_ n2_ n3_ n4_; clear hb hbox hg; have hcz0 : w5.cell? ⟨gd, 0, none⟩ = some (.string a0_0) := (blk_cell BK.out 0).trans rfl; have hcz1 : w5.cell? ⟨gd, 1, none⟩ = some (.slice A0_1 l0_1.length c0_1) := (blk_cell BK.out 1).trans rfl; have hcr0 : w5.cell? ⟨gr, 0, none⟩ = some (.string (⟨#[]⟩ : ByteArray)) := (blk_cell BKr.out 0).trans rfl; have hcr1 : w5.cell? ⟨gr, 1, none⟩ = some (.slice none 0 0) := (blk_cell BKr.out 1).trans rfl; have hfr0 := blk_frozen BKr.out 0; have hfr1 := blk_frozen BKr.out 1) | (go_at_call 45; (with_reducible refine (impl_DeviceOk.calls k a0_0 _ _ l0_1 true _ ?side1 ?side2 T.out).mono ?_); (case side1 => exact Kd.C_below HR.out HB.out); (case side2 => exact HC.out); rintro e w6 ⟨rfl, hb⟩; have n0_ := Aside0.mk (below_step HB.out hb); have n1_ := Aside0.mk (blk_below BK.out hb); have n2_ := Aside0.mk (blk_below BKr.out hb); clear HB BK BKr hcz0 hcz1 hcr0 hcr1 hfr0 hfr1; have HB := n0_; have BK := n1_; have BKr := n2_; clear n0_ n1_ n2_ hb; have hcz0 : w6.cell? ⟨gd, 0, none⟩ = some (.string a0_0) := (blk_cell BK.out 0).trans rfl; have hcz1 : w6.cell? ⟨gd, 1, none⟩ = some (.slice A0_1 l0_1.length c0_1) := (blk_cell BK.out 1).trans rfl; have hcr0 : w6.cell? ⟨gr, 0, none⟩ = some (.string (⟨#[]⟩ : ByteArray)) := (blk_cell BKr.out 0).trans rfl; have hcr1 : w6.cell? ⟨gr, 1, none⟩ = some (.slice none 0 0) := (blk_cell BKr.out 1).trans rfl; have hfr0 := blk_frozen BKr.out 0; have hfr1 := blk_frozen BKr.out 1) | (go_at_call 73; (with_reducible refine (impl_Device_has.calls a0_0 _ _ l0_1 a1 false _ ?side1 ?side2 U.out).mono ?_); (case side1 => exact Kd.C_below HR.out HB.out); (case side2 => exact HC.out); rintro e w7 ⟨rfl, hb⟩; have n0_ := Aside0.mk (below_step HB.out hb); have n1_ := Aside0.mk (blk_below BK.out hb); have n2_ := Aside0.mk (blk_below BKr.out hb); clear HB BK BKr hcz0 hcz1 hcr0 hcr1 hfr0 hfr1; have HB := n0_; have BK := n1_; have BKr := n2_; clear n0_ n1_ n2_ hb; have hcz0 : w7.cell? ⟨gd, 0, none⟩ = some (.string a0_0) := (blk_cell BK.out 0).trans rfl; have hcz1 : w7.cell? ⟨gd, 1, none⟩ = some (.slice A0_1 l0_1.length c0_1) := (blk_cell BK.out 1).trans rfl; have hcr0 : w7.cell? ⟨gr, 0, none⟩ = some (.string (⟨#[]⟩ : ByteArray)) := (blk_cell BKr.out 0).trans rfl; have hcr1 : w7.cell? ⟨gr, 1, none⟩ = some (.slice none 0 0) := (blk_cell BKr.out 1).trans rfl; have hfr0 := blk_frozen BKr.out 0; have hfr1 := blk_frozen BKr.out 1))
      refine bodyPost_ret (results_ct rfl _ _ gr 30 #[.string (⟨#[]⟩ : ByteArray), .slice none 0 0] (0, 0) _ rfl (by refine blk_put (cs := #[.string (⟨#[]⟩ : ByteArray), .slice none 0 0]) ?_ 1 _ rfl; refine blk_put (cs := #[.string (⟨#[]⟩ : ByteArray), .slice none 0 0]) ?_ 0 _ rfl; exact BKr.out) Try.underlying30 rfl (by kernel_rfl)) rfl ?_
      exact ⟨_, rfl, Kd.R_nil _ _ _ _ _, below_set (below_set HB.out GEr.out) GEr.out⟩
  · replace ct := Bool.eq_false_iff.mpr ct
    subst ct
    rw [if_neg (by decide)] at h
    simp only [Option.some.injEq, Prod.mk.injEq] at h
    obtain ⟨rfl, rfl, rfl⟩ := h
    go_enter Try.func36, Try.ntmps36
    go_wp2_with (first | ((with_reducible refine gate_dst (N := 2) rfl ?_); refine box_event ?hg (N := 2) ?hd (cs := #[.string a0_0, .slice A0_1 l0_1.length c0_1]) (t := 30) ?hr ?_; (case hd => rfl); (case hg => rfl); (case hr => first | (go_simp; done) | (go_simp; rfl)); intro gd hg w4 hbox hb; have n0_ := Aside0.mk (below_step HB.out hb); have n1_ := Aside0.mk hbox; have n3_ := Aside0.mk (by rw [hg]; exact (below_size HB.out) : w.heap.size ≤ gd); clear HB; have HB := n0_; have BK := n1_; have GE := n3_; clear n0_ n1_ n3_; clear hb hbox hg; have hcz0 : w4.cell? ⟨gd, 0, none⟩ = some (.string a0_0) := (blk_cell BK.out 0).trans rfl; have hcz1 : w4.cell? ⟨gd, 1, none⟩ = some (.slice A0_1 l0_1.length c0_1) := (blk_cell BK.out 1).trans rfl) | ((with_reducible refine gate_dst (N := 4) rfl ?_); refine box_event ?hg (N := 4) ?hd (cs := #[.string (⟨#[]⟩ : ByteArray), .slice none 0 0]) (t := 30) ?hr ?_; (case hd => rfl); (case hg => rfl); (case hr => first | (go_simp; done) | (go_simp; rfl)); intro gr hg w5 hbox hb; have n0_ := Aside0.mk (below_step HB.out hb); have n1_ := Aside0.mk hbox; have n2_ := Aside0.mk (blk_below BK.out hb); have n3_ := Aside0.mk (by rw [hg]; exact (below_size HB.out) : w.heap.size ≤ gr); have n4_ := Aside0.mk (by rw [hg]; exact Nat.ne_of_lt (blk_lt BK.out) : gd ≠ gr); clear HB BK hcz0 hcz1; have HB := n0_; have BKr := n1_; have BK := n2_; have GEr := n3_; have NEr := n4_; clear n0_ n1_ n2_ n3_ n4_; clear hb hbox hg; have hcz0 : w5.cell? ⟨gd, 0, none⟩ = some (.string a0_0) := (blk_cell BK.out 0).trans rfl; have hcz1 : w5.cell? ⟨gd, 1, none⟩ = some (.slice A0_1 l0_1.length c0_1) := (blk_cell BK.out 1).trans rfl; have hcr0 : w5.cell? ⟨gr, 0, none⟩ = some (.string (⟨#[]⟩ : ByteArray)) := (blk_cell BKr.out 0).trans rfl; have hcr1 : w5.cell? ⟨gr, 1, none⟩ = some (.slice none 0 0) := (blk_cell BKr.out 1).trans rfl; have hfr0 := blk_frozen BKr.out 0; have hfr1 := blk_frozen BKr.out 1) | (go_at_call 45; (with_reducible refine (impl_DeviceOk.calls k a0_0 _ _ l0_1 false _ ?side1 ?side2 T.out).mono ?_); (case side1 => exact Kd.C_below HR.out HB.out); (case side2 => exact HC.out); rintro e w6 ⟨rfl, hb⟩; have n0_ := Aside0.mk (below_step HB.out hb); have n1_ := Aside0.mk (blk_below BK.out hb); have n2_ := Aside0.mk (blk_below BKr.out hb); clear HB BK BKr hcz0 hcz1 hcr0 hcr1 hfr0 hfr1; have HB := n0_; have BK := n1_; have BKr := n2_; clear n0_ n1_ n2_ hb; have hcz0 : w6.cell? ⟨gd, 0, none⟩ = some (.string a0_0) := (blk_cell BK.out 0).trans rfl; have hcz1 : w6.cell? ⟨gd, 1, none⟩ = some (.slice A0_1 l0_1.length c0_1) := (blk_cell BK.out 1).trans rfl; have hcr0 : w6.cell? ⟨gr, 0, none⟩ = some (.string (⟨#[]⟩ : ByteArray)) := (blk_cell BKr.out 0).trans rfl; have hcr1 : w6.cell? ⟨gr, 1, none⟩ = some (.slice none 0 0) := (blk_cell BKr.out 1).trans rfl; have hfr0 := blk_frozen BKr.out 0; have hfr1 := blk_frozen BKr.out 1))
    refine bodyPost_ret (results_ct rfl _ _ gr 30 #[.string (⟨#[]⟩ : ByteArray), .slice none 0 0] (0, 0) _ rfl (by refine blk_put (cs := #[.string (⟨#[]⟩ : ByteArray), .slice none 0 0]) ?_ 1 _ rfl; refine blk_put (cs := #[.string (⟨#[]⟩ : ByteArray), .slice none 0 0]) ?_ 0 _ rfl; exact BKr.out) Try.underlying30 rfl (by kernel_rfl)) rfl ?_
    exact ⟨_, rfl, Kd.R_nil _ _ _ _ _, below_set (below_set HB.out GEr.out) GEr.out⟩


end Go.Proofs.Ytbbbajnnoficbaa.PFnExactFlush
