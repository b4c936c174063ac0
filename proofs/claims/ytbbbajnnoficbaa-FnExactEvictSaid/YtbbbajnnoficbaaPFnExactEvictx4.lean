-- by a patched copy of the print (wip/tools/patch_print.py)
import Derived.Test.YtbbbajnnoficbaaPFnExactEvictx0
import Derived.Test.YtbbbajnnoficbaaPFnExactEvictx3
namespace Go.Proofs.Ytbbbajnnoficbaa.PFnExactEvict
open Go.RowKit Go.Proofs.YtbbbajnnoficbaaW.PrintWords Go.Proofs.YtbbbajnnoficbaaW.PrintLast Go.Proofs.YtbbbajnnoficbaaW.PrintMore
attribute [local go_sem] max2_int min2_int max_two min_two max_three min_three max_four min_four   -- for this text's walks alone
set_option linter.unusedVariables false
set_option linter.unusedSimpArgs false
set_option maxHeartbeats 8000000 in
set_option maxRecDepth 100000 in
theorem spec_DeviceOk.calls (k : Nat) (a0_0 : ByteArray) (A0_1 : Option Addr) (c0_1 : Nat) (l0_1 : List (S67)) (r : Bool) (w : World) (hr0_1 : Kd.C k67 w A0_1 l0_1.length l0_1) (hc0_1 : l0_1.length ≤ c0_1) (h : spec_DeviceOk.f k a0_0 l0_1 = some r) :
  Calls Try.prog 46 #[.agg #[.string a0_0, .slice A0_1 l0_1.length c0_1]] w fun e w' => e = .returned (.bool r) ∧ Below w.heap.size w w' := by
 have hu30 := Try.underlying30
 have hu67 := Try.underlying67
 have HR0_1 := Aside0.mk hr0_1
 have HC0_1 := Aside0.mk hc0_1
 clear hr0_1 hc0_1
 have HB := Aside0.mk (Below.refl w.heap.size w)
 have H : (if ((a0_0.size : Int) % 64) = 0 then ((spec_l2Count.f a0_0 l0_1).bind fun t151 => ((spec_l1In.f t151 1 128).bind fun t152 => (spec_DeviceOk.j0 k (!t152) a0_0 l0_1))) else (spec_DeviceOk.j0 k true a0_0 l0_1)) = some r := h
 clear h
 have HC2 := Aside0.mk H
 clear H
 go_enter Try.func46, Try.ntmps46
 go_upto_region 1 with (first | ((with_reducible refine gate_dst (N := 1) rfl ?_); (try (refine gate_guard (by rfl) ?_; dsimp only)); refine box_event ?hg (N := 1) ?hd (cs := #[.string a0_0, .slice A0_1 l0_1.length c0_1]) (t := 30) ?hr ?_; (case hd => rfl); (case hg => rfl); (case hr => first | (go_simp; done) | (go_simp; rfl)); intro gb150 hg w3 hbox hb; have n0_ := Aside0.mk (below_step (by repeat (first | (with_reducible first | exact HB.out | apply below_alloc | apply pw_below_drewN | apply below_drew1) | exact HB.out)) hb); have n1_ := Aside0.mk (hbox); have n2_ := Aside0.mk ((by rw [hg]; exact (below_size (by repeat (first | (with_reducible first | exact HB.out | apply below_alloc | apply pw_below_drewN | apply below_drew1) | exact HB.out))) : w.heap.size ≤ gb150)); have n3_ := Aside0.mk ((by rw [hg]; exact (below_size (by repeat (first | (with_reducible first | exact HB.out | apply below_alloc | apply pw_below_drewN | apply below_drew1) | exact HB.out))) : w.heap.size ≤ gb150)); clear HB; have HB := n0_; have BK150 := n1_; have GW150 := n2_; have GE150 := n3_; clear n0_ n1_ n2_ n3_; clear hb hbox hg))
 (try simp only [Act.put, List.setIfInBounds_toArray, List.set_cons_zero, List.set_cons_succ])
 go_cut [15] (fun v15 wc => ∃ (kq : Nat) (x15_1 : Bool), v15 = .bool x15_1 ∧ Aside0 (spec_DeviceOk.j0 kq x15_1 a0_0 l0_1 = some r) ∧ Aside0 (kq ≤ k) ∧ Aside0 (wc.heap[gb150]? = some (.cells #[.string a0_0, (.slice A0_1 l0_1.length c0_1)] 30 (0, 0))) ∧ Aside0 (Below w.heap.size w wc))
 case first =>
  have H := HC2.out
  clear HC2
  by_cases c4 : ((a0_0.size : Int) % 64) = 0
  ·rw [if_pos c4] at H
   have c4b0 : (((a0_0.size : Int) % 64) == 0) = true := beq_iff_eq.mpr c4
   have c4b1 : (((a0_0.size : Int) % 64) != 0) = false := bne_eq_false_iff_eq.mpr c4
   clear c4
   (first | rw [c4b0] | (simp only [i64_w, i32_w]; rw [c4b0]) | skip)
   replace H := Option.bind_eq_some_iff.mp H
   obtain ⟨t151, A50, H⟩ := H
   replace H : ((spec_l1In.f t151 1 128).bind fun t152 => (spec_DeviceOk.j0 k (!t152) a0_0 l0_1)) = some r := H
   have A5 := Aside0.mk A50
   clear A50
   replace H := Option.bind_eq_some_iff.mp H
   obtain ⟨t152, A60, H⟩ := H
   replace H : (spec_DeviceOk.j0 k (!t152) a0_0 l0_1) = some r := H
   have A6 := Aside0.mk A60
   clear A60
   have H' := Aside0.mk H
   clear H
   have hcz7_0 : w3.cell? ⟨gb150, 0, none⟩ = some (.string a0_0) := (blk_cell BK150.out 0).trans rfl
   have hcz7_1 : w3.cell? ⟨gb150, 1, none⟩ = some (.slice A0_1 l0_1.length c0_1) := (blk_cell BK150.out 1).trans rfl
   have hfz7_0 := blk_frozen BK150.out 0
   have hfz7_1 := blk_frozen BK150.out 1
   go_wp2_with (first | (go_at_call 71; (with_reducible refine (spec_l2Count.calls a0_0 _ _ l0_1 t151 _ ?side1 ?side2 A5.out).mono ?_); (case side1 => repeat (first | exact (Kd.C_below HR0_1.out HB.out) | (with_reducible refine Kd.C_alloc ?_ _) | (with_reducible refine Kd.C_drewN ?_ _) | (with_reducible refine Kd.C_drew ?_))); (case side2 => exact HC0_1.out); rintro e w8 ⟨rfl, hb⟩; have n0_ := Aside0.mk (blk_below (g := gb150) (o := .cells #[.string a0_0, .slice A0_1 l0_1.length c0_1] 30 (0, 0)) (by (with_reducible repeat (first | refine blk_drewN ?_ _ | refine blk_drew ?_ | refine blk_alloc ?_ _)); exact BK150.out) hb); have n1_ := Aside0.mk (below_step (by repeat (first | (with_reducible first | exact HB.out | apply below_alloc | apply pw_below_drewN | apply below_drew1 | refine below_set ?_ GE150.out) | exact HB.out)) hb); clear BK150; clear HB; have BK150 := n0_; have HB := n1_; clear n0_ n1_; (try clear hb); (try clear hb2); (try clear hk); (try clear hi)) | (go_at_call 70; (with_reducible refine (spec_l1In.calls t151 1 128 t152 _ A6.out).mono ?_); rintro e w' ⟨rfl, ⟨nd, rfl⟩⟩))
   go_meet
   case rel => exact ⟨_, (!t152), (by first | rfl | (simp; done) | (simp [*]; done)), H', ⟨by first | omega | exact Nat.le_refl _⟩, ⟨by (with_reducible repeat (first | refine blk_drewN ?_ _ | refine blk_drew ?_ | refine blk_alloc ?_ _)); exact BK150.out⟩, ⟨by repeat (first | (with_reducible first | exact HB.out | apply below_alloc | apply pw_below_drewN | apply below_drew1 | refine below_set ?_ GE150.out) | exact HB.out)⟩⟩
  ·rw [if_neg c4] at H
   have c4b0 : (((a0_0.size : Int) % 64) == 0) = false := beq_eq_false_iff_ne.mpr c4
   have c4b1 : (((a0_0.size : Int) % 64) != 0) = true := bne_iff_ne.mpr c4
   (first | rw [c4b0] | (simp only [i64_w, i32_w]; rw [c4b0]) | skip)
   have H' := Aside0.mk H
   clear H
   have hcz9_0 : w3.cell? ⟨gb150, 0, none⟩ = some (.string a0_0) := (blk_cell BK150.out 0).trans rfl
   have hcz9_1 : w3.cell? ⟨gb150, 1, none⟩ = some (.slice A0_1 l0_1.length c0_1) := (blk_cell BK150.out 1).trans rfl
   have hfz9_0 := blk_frozen BK150.out 0
   have hfz9_1 := blk_frozen BK150.out 1
   go_wp2
   go_meet
   case rel => exact ⟨_, (true), (by first | rfl | (simp; done) | (simp [*]; done)), H', ⟨by first | omega | exact Nat.le_refl _⟩, ⟨by (with_reducible repeat (first | refine blk_drewN ?_ _ | refine blk_drew ?_ | refine blk_alloc ?_ _)); exact BK150.out⟩, ⟨by repeat (first | (with_reducible first | exact HB.out | apply below_alloc | apply pw_below_drewN | apply below_drew1 | refine below_set ?_ GE150.out) | exact HB.out)⟩⟩
 case rest =>
  clear HC2
  try clear p2
  try clear c4
  try clear c4b0
  try clear c4b1
  try clear hcz7_0
  try clear hcz7_1
  try clear hcz9_0
  try clear hcz9_1
  try clear hfz7_0
  try clear hfz7_1
  try clear hfz9_0
  try clear hfz9_1
  obtain ⟨kq, x15_1, rfl, HA, HJ1, BK150, HB⟩ := hcut
  cases kq with
  | zero => exact absurd HA.out (by simp [spec_DeviceOk.j0])
  | succ kj1 =>
   have H := HA.out
   clear HA
   simp only [spec_DeviceOk.j0] at H
   by_cases c10 : x15_1 = true
   ·subst c10
    have H1 : (some false) = some r := by rw [if_pos rfl] at H; exact H
    clear H
    have H := H1
    clear H1
    obtain rfl := Option.some.inj H
    go_wp2
    go_ret
    exact ⟨by first | rfl | (simp [errW_none, errW_some] <;> rfl) | (simp [*, errW_none, errW_some] <;> rfl), by repeat (first | (with_reducible first | exact HB.out | apply below_alloc | apply pw_below_drewN | apply below_drew1 | refine below_set ?_ GE150.out) | exact HB.out)⟩
   ·replace c10 := Bool.eq_false_iff.mpr c10
    subst c10
    have H1 : (spec_DeviceOk.l0 kj1 0 a0_0 l0_1) = some r := by rw [if_neg (show ¬ (false = true) by decide)] at H; exact H
    clear H
    have H := H1
    clear H1
    have H' := Aside0.mk H
    clear H
    go_wp2
    go_loopg [3] kj1 (fun kq v3 w' => ∃ (x3_2 : Int), v3 = .int .i64 x3_2 ∧ Aside0 (spec_DeviceOk.l0 kq x3_2 a0_0 l0_1 = some r) ∧ Aside0 (kq ≤ kj1) ∧ Aside0 (w'.heap[gb150]? = some (.cells #[.string a0_0, (.slice A0_1 l0_1.length c0_1)] 30 (0, 0))) ∧ Aside0 (Below w.heap.size w w'))
    case atStart => exact ⟨(0), (by first | rfl | (simp; done) | (simp [*]; done)), H', ⟨Nat.le_refl _⟩, ⟨by (with_reducible repeat (first | refine blk_drewN ?_ _ | refine blk_drew ?_ | refine blk_alloc ?_ _)); exact BK150.out⟩, ⟨by repeat (first | (with_reducible first | exact HB.out | apply below_alloc | apply pw_below_drewN | apply below_drew1 | refine below_set ?_ GE150.out) | exact HB.out)⟩⟩
    case round =>
     clear H'
     try clear c1
     try clear p2
     try clear c4
     try clear c4b0
     try clear c4b1
     try clear c10
     try clear hcz7_0
     try clear hcz7_1
     try clear hcz9_0
     try clear hcz9_1
     try clear hfz7_0
     try clear hfz7_1
     try clear hfz9_0
     try clear hfz9_1
     try clear p2
     obtain ⟨x3_2, rfl, HA, HK2, BK150, HB⟩ := hrel
     cases gk with
     | zero => exact absurd HA.out (by simp [spec_DeviceOk.l0])
     | succ k2 =>
      have H := HA.out
      clear HA
      simp only [spec_DeviceOk.l0] at H
      by_cases c11 : x3_2 < (l0_1.length : Int)
      ·rw [if_pos c11] at H
       have c11b0 : decide (x3_2 < (l0_1.length : Int)) = true := decide_eq_true c11
       clear c11
       by_cases c12 : 0 ≤ x3_2
       ·rw [if_pos c12] at H
        have c12b0 : decide (0 ≤ x3_2) = true := decide_eq_true c12
        clear c12
        replace H := Option.bind_eq_some_iff.mp H
        obtain ⟨t155, A130, H⟩ := H
        replace H : ((spec_l1In.f ((rd_T67 l0_1 x3_2).f0) 0 (wrap64 (t155 - 1))).bind fun t156 => (if t156 = true then (if x3_2 > 0 then (if 0 ≤ (wrap64 (x3_2 - 1)) then (if (wrap64 (x3_2 - 1)) < (l0_1.length : Int) then (if ((rd_T67 l0_1 x3_2).f0) ≤ ((rd_T67 l0_1 (wrap64 (x3_2 - 1))).f0) then (some false) else (if (((rd_T67 l0_1 x3_2).f1).size : Int) = 64 then (if (((rd_T67 l0_1 x3_2).f2).size : Int) = 64 then (spec_DeviceOk.l0 k2 (wrap64 (x3_2 + 1)) a0_0 l0_1) else (if ((rd_T67 l0_1 x3_2).f2).toList = ([] : List UInt8) then (spec_DeviceOk.l0 k2 (wrap64 (x3_2 + 1)) a0_0 l0_1) else (some false))) else (some false))) else (none)) else (none)) else (if (((rd_T67 l0_1 x3_2).f1).size : Int) = 64 then (if (((rd_T67 l0_1 x3_2).f2).size : Int) = 64 then (spec_DeviceOk.l0 k2 (wrap64 (x3_2 + 1)) a0_0 l0_1) else (if ((rd_T67 l0_1 x3_2).f2).toList = ([] : List UInt8) then (spec_DeviceOk.l0 k2 (wrap64 (x3_2 + 1)) a0_0 l0_1) else (some false))) else (some false))) else (some false))) = some r := H
        have A13 := Aside0.mk A130
        clear A130
        replace H := Option.bind_eq_some_iff.mp H
        obtain ⟨t156, A140, H⟩ := H
        replace H : (if t156 = true then (if x3_2 > 0 then (if 0 ≤ (wrap64 (x3_2 - 1)) then (if (wrap64 (x3_2 - 1)) < (l0_1.length : Int) then (if ((rd_T67 l0_1 x3_2).f0) ≤ ((rd_T67 l0_1 (wrap64 (x3_2 - 1))).f0) then (some false) else (if (((rd_T67 l0_1 x3_2).f1).size : Int) = 64 then (if (((rd_T67 l0_1 x3_2).f2).size : Int) = 64 then (spec_DeviceOk.l0 k2 (wrap64 (x3_2 + 1)) a0_0 l0_1) else (if ((rd_T67 l0_1 x3_2).f2).toList = ([] : List UInt8) then (spec_DeviceOk.l0 k2 (wrap64 (x3_2 + 1)) a0_0 l0_1) else (some false))) else (some false))) else (none)) else (none)) else (if (((rd_T67 l0_1 x3_2).f1).size : Int) = 64 then (if (((rd_T67 l0_1 x3_2).f2).size : Int) = 64 then (spec_DeviceOk.l0 k2 (wrap64 (x3_2 + 1)) a0_0 l0_1) else (if ((rd_T67 l0_1 x3_2).f2).toList = ([] : List UInt8) then (spec_DeviceOk.l0 k2 (wrap64 (x3_2 + 1)) a0_0 l0_1) else (some false))) else (some false))) else (some false)) = some r := H
        have A14 := Aside0.mk A140
        clear A140
        by_cases c15 : t156 = true
        ·subst c15
         have H1 : (if x3_2 > 0 then (if 0 ≤ (wrap64 (x3_2 - 1)) then (if (wrap64 (x3_2 - 1)) < (l0_1.length : Int) then (if ((rd_T67 l0_1 x3_2).f0) ≤ ((rd_T67 l0_1 (wrap64 (x3_2 - 1))).f0) then (some false) else (if (((rd_T67 l0_1 x3_2).f1).size : Int) = 64 then (if (((rd_T67 l0_1 x3_2).f2).size : Int) = 64 then (spec_DeviceOk.l0 k2 (wrap64 (x3_2 + 1)) a0_0 l0_1) else (if ((rd_T67 l0_1 x3_2).f2).toList = ([] : List UInt8) then (spec_DeviceOk.l0 k2 (wrap64 (x3_2 + 1)) a0_0 l0_1) else (some false))) else (some false))) else (none)) else (none)) else (if (((rd_T67 l0_1 x3_2).f1).size : Int) = 64 then (if (((rd_T67 l0_1 x3_2).f2).size : Int) = 64 then (spec_DeviceOk.l0 k2 (wrap64 (x3_2 + 1)) a0_0 l0_1) else (if ((rd_T67 l0_1 x3_2).f2).toList = ([] : List UInt8) then (spec_DeviceOk.l0 k2 (wrap64 (x3_2 + 1)) a0_0 l0_1) else (some false))) else (some false))) = some r := by rw [if_pos rfl] at H; exact H
         clear H
         have H := H1
         clear H1
         by_cases c16 : x3_2 > 0
         ·rw [if_pos c16] at H
          have c16b0 : decide (0 < x3_2) = true := decide_eq_true c16
          clear c16
          obtain ⟨ji17, hji17⟩ : ∃ j_ : Int, (wrap64 (x3_2 - 1)) = j_ := ⟨_, rfl⟩
          replace H : (if 0 ≤ (ji17) then (if (ji17) < (l0_1.length : Int) then (if ((rd_T67 l0_1 x3_2).f0) ≤ ((rd_T67 l0_1 (ji17)).f0) then (some false) else (if (((rd_T67 l0_1 x3_2).f1).size : Int) = 64 then (if (((rd_T67 l0_1 x3_2).f2).size : Int) = 64 then (spec_DeviceOk.l0 k2 (wrap64 (x3_2 + 1)) a0_0 l0_1) else (if ((rd_T67 l0_1 x3_2).f2).toList = ([] : List UInt8) then (spec_DeviceOk.l0 k2 (wrap64 (x3_2 + 1)) a0_0 l0_1) else (some false))) else (some false))) else (none)) else (none)) = some r := by first | (rw [hji17] at H; exact H) | (simp only [hji17] at H ⊢; exact H)
          (try rw [hji17] at A13)
          (try rw [hji17] at A14)
          have hji17w : (IntKind.i64.wrap (x3_2 - 1)) = ji17 := (i64_w _).trans hji17
          by_cases c18 : 0 ≤ (ji17)
          ·rw [if_pos c18] at H
           have c18b0 : decide (0 ≤ (ji17)) = true := decide_eq_true c18
           clear c18
           by_cases c19 : (ji17) < (l0_1.length : Int)
           ·rw [if_pos c19] at H
            have c19b0 : decide ((ji17) < (l0_1.length : Int)) = true := decide_eq_true c19
            clear c19
            by_cases c20 : ((rd_T67 l0_1 x3_2).f0) ≤ ((rd_T67 l0_1 (ji17)).f0)
            ·rw [if_pos c20] at H
             have c20b0 : decide (((rd_T67 l0_1 x3_2).f0) ≤ ((rd_T67 l0_1 (ji17)).f0)) = true := decide_eq_true c20
             clear c20
             obtain rfl := Option.some.inj H
             have hcz21_0 : wr.cell? ⟨gb150, 0, none⟩ = some (.string a0_0) := (blk_cell BK150.out 0).trans rfl
             have hcz21_1 : wr.cell? ⟨gb150, 1, none⟩ = some (.slice A0_1 l0_1.length c0_1) := (blk_cell BK150.out 1).trans rfl
             have hfz21_0 := blk_frozen BK150.out 0
             have hfz21_1 := blk_frozen BK150.out 1
             have p153 : 0 ≤ (x3_2 : Int) := of_decide_eq_true (by first | (with_reducible assumption) | assumption)
             have q153 : x3_2 < (l0_1.length : Int) := of_decide_eq_true (by first | (with_reducible assumption) | assumption)
             obtain ⟨ad153, e153, hx153_0, hx153_1, hx153_2⟩ := at_T67 HR0_1.out x3_2 p153 q153
             cases e153
             replace hx153_0 := (HB.out.cell (World.block_lt_of_cell? w _ hx153_0)).trans hx153_0
             replace hx153_1 := (HB.out.cell (World.block_lt_of_cell? w _ hx153_1)).trans hx153_1
             replace hx153_2 := (HB.out.cell (World.block_lt_of_cell? w _ hx153_2)).trans hx153_2
             replace p153 := eq_true p153
             replace q153 := eq_true q153
             try go_wp2_with (first | ((with_reducible refine gate_dst (N := 4) rfl ?_); (try (refine gate_guard (by rfl) ?_; dsimp only)); refine box_event ?hg (N := 4) ?hd (cs := #[.int .i64 0, .string (⟨#[]⟩ : ByteArray), .string (⟨#[]⟩ : ByteArray)]) (t := 67) ?hr ?_; (case hd => rfl); (case hg => rfl); (case hr => first | (go_simp; done) | (go_simp; rfl)); intro gb154 hg w22 hbox hb; have n0_ := Aside0.mk (blk_below (g := gb150) (o := .cells #[.string a0_0, .slice (some ad153) l0_1.length c0_1] 30 (0, 0)) (by (with_reducible repeat (first | refine blk_drewN ?_ _ | refine blk_drew ?_ | refine blk_alloc ?_ _)); exact BK150.out) hb); have n1_ := Aside0.mk (below_step (by repeat (first | (with_reducible first | exact HB.out | apply below_alloc | apply pw_below_drewN | apply below_drew1 | refine below_set ?_ GE150.out) | exact HB.out)) hb); have n2_ := Aside0.mk (hbox); have n3_ := Aside0.mk ((by rw [hg]; exact (below_size (by repeat (first | (with_reducible first | exact HB.out | apply below_alloc | apply pw_below_drewN | apply below_drew1 | refine below_set ?_ GE150.out) | exact HB.out))) : w.heap.size ≤ gb154)); have n4_ := Aside0.mk ((by rw [hg]; exact (below_size (by repeat (first | (with_reducible first | exact HB.out | apply below_alloc | apply pw_below_drewN | apply below_drew1 | refine below_set ?_ GE150.out) | exact HB.out))) : w.heap.size ≤ gb154)); have n5_ := Aside0.mk ((by rw [hg]; exact Nat.ne_of_lt (blk_lt (g := gb150) (o := .cells #[.string a0_0, .slice (some ad153) l0_1.length c0_1] 30 (0, 0)) (by (with_reducible repeat (first | refine blk_drewN ?_ _ | refine blk_drew ?_ | refine blk_alloc ?_ _)); exact BK150.out)) : gb150 ≠ gb154)); have n6_ := Aside0.mk ((by rw [hg]; exact Nat.ne_of_gt (blk_lt (g := gb150) (o := .cells #[.string a0_0, .slice (some ad153) l0_1.length c0_1] 30 (0, 0)) (by (with_reducible repeat (first | refine blk_drewN ?_ _ | refine blk_drew ?_ | refine blk_alloc ?_ _)); exact BK150.out)) : gb154 ≠ gb150)); clear BK150; clear HB; have BK150 := n0_; have HB := n1_; have BK154 := n2_; have GW154 := n3_; have GE154 := n4_; have NB150_154 := n5_; have NB154_150 := n6_; clear n0_ n1_ n2_ n3_ n4_ n5_ n6_; clear hb hbox hg; have hnb23 := NB154_150.out; have hnc23 := NB150_154.out; have hcz24_0 : w22.cell? ⟨gb154, 0, none⟩ = some (.int .i64 0) := (blk_cell BK154.out 0).trans rfl; have hcz24_1 : w22.cell? ⟨gb154, 1, none⟩ = some (.string (⟨#[]⟩ : ByteArray)) := (blk_cell BK154.out 1).trans rfl; have hcz24_2 : w22.cell? ⟨gb154, 2, none⟩ = some (.string (⟨#[]⟩ : ByteArray)) := (blk_cell BK154.out 2).trans rfl; have hfz24_0 := blk_frozen BK154.out 0; have hfz24_1 := blk_frozen BK154.out 1; have hfz24_2 := blk_frozen BK154.out 2))
             have n0_ : Aside0 ((((w22.setCell ⟨gb154, 0, none⟩ (.int .i64 ((rd_T67 l0_1 x3_2).f0))).setCell ⟨gb154, 1, none⟩ (.string ((rd_T67 l0_1 x3_2).f1))).setCell ⟨gb154, 2, none⟩ (.string ((rd_T67 l0_1 x3_2).f2))).heap[gb150]? = some (.cells #[.string a0_0, .slice (some ad153) l0_1.length c0_1] 30 (0, 0))) := ⟨by (with_reducible repeat (first | refine blk_drewN ?_ _ | refine blk_drew ?_ | refine blk_alloc ?_ _)); refine blk_far ?_ NB150_154.out _; (with_reducible repeat (first | refine blk_drewN ?_ _ | refine blk_drew ?_ | refine blk_alloc ?_ _)); refine blk_far ?_ NB150_154.out _; (with_reducible repeat (first | refine blk_drewN ?_ _ | refine blk_drew ?_ | refine blk_alloc ?_ _)); refine blk_far ?_ NB150_154.out _; (with_reducible repeat (first | refine blk_drewN ?_ _ | refine blk_drew ?_ | refine blk_alloc ?_ _)); exact BK150.out⟩
             have n1_ : Aside0 ((((w22.setCell ⟨gb154, 0, none⟩ (.int .i64 ((rd_T67 l0_1 x3_2).f0))).setCell ⟨gb154, 1, none⟩ (.string ((rd_T67 l0_1 x3_2).f1))).setCell ⟨gb154, 2, none⟩ (.string ((rd_T67 l0_1 x3_2).f2))).heap[gb154]? = some (.cells #[.int .i64 ((rd_T67 l0_1 x3_2).f0), .string ((rd_T67 l0_1 x3_2).f1), .string ((rd_T67 l0_1 x3_2).f2)] 67 (0, 0))) := ⟨by (with_reducible repeat (first | refine blk_drewN ?_ _ | refine blk_drew ?_ | refine blk_alloc ?_ _)); refine blk_put (cs := #[.int .i64 ((rd_T67 l0_1 x3_2).f0), .string ((rd_T67 l0_1 x3_2).f1), .string (⟨#[]⟩ : ByteArray)]) ?_ 2 _ rfl; (with_reducible repeat (first | refine blk_drewN ?_ _ | refine blk_drew ?_ | refine blk_alloc ?_ _)); refine blk_put (cs := #[.int .i64 ((rd_T67 l0_1 x3_2).f0), .string (⟨#[]⟩ : ByteArray), .string (⟨#[]⟩ : ByteArray)]) ?_ 1 _ rfl; (with_reducible repeat (first | refine blk_drewN ?_ _ | refine blk_drew ?_ | refine blk_alloc ?_ _)); refine blk_put (cs := #[.int .i64 0, .string (⟨#[]⟩ : ByteArray), .string (⟨#[]⟩ : ByteArray)]) ?_ 0 _ rfl; (with_reducible repeat (first | refine blk_drewN ?_ _ | refine blk_drew ?_ | refine blk_alloc ?_ _)); exact BK154.out⟩
             have n2_ : Aside0 (Below w.heap.size w (((w22.setCell ⟨gb154, 0, none⟩ (.int .i64 ((rd_T67 l0_1 x3_2).f0))).setCell ⟨gb154, 1, none⟩ (.string ((rd_T67 l0_1 x3_2).f1))).setCell ⟨gb154, 2, none⟩ (.string ((rd_T67 l0_1 x3_2).f2)))) := ⟨by repeat (first | (with_reducible first | exact HB.out | apply below_alloc | apply pw_below_drewN | apply below_drew1 | refine below_set ?_ GE150.out | refine below_set ?_ GE154.out) | exact HB.out)⟩
             (try clear BK150)
             (try clear BK154)
             (try clear HB)
             generalize (((w22.setCell ⟨gb154, 0, none⟩ (.int .i64 ((rd_T67 l0_1 x3_2).f0))).setCell ⟨gb154, 1, none⟩ (.string ((rd_T67 l0_1 x3_2).f1))).setCell ⟨gb154, 2, none⟩ (.string ((rd_T67 l0_1 x3_2).f2))) = w25 at n0_ n1_ n2_ ⊢
             have BK150 := n0_
             have BK154 := n1_
             have HB := n2_
             clear n0_ n1_ n2_
             have n0_ := Aside0.mk (blk_drew BK150.out)
             have n1_ := Aside0.mk (blk_drew BK154.out)
             have n2_ := Aside0.mk (below_drew1 HB.out)
             clear BK150
             clear BK154
             clear HB
             have BK150 := n0_
             have BK154 := n1_
             have HB := n2_
             clear n0_ n1_ n2_
             have p157 : 0 ≤ ((ji17) : Int) := of_decide_eq_true (by first | (with_reducible assumption) | assumption)
             have q157 : (ji17) < (l0_1.length : Int) := of_decide_eq_true (by first | (with_reducible assumption) | assumption)
             obtain ⟨ad157, e157, hx157_0, hx157_1, hx157_2⟩ := at_T67 HR0_1.out (ji17) p157 q157
             have hw157_2 := hx157_2
             have hw157_1 := hx157_1
             have hw157_0 := hx157_0
             obtain rfl : ad153 = ad157 := (by injection e157)
             replace hx157_0 := (HB.out.cell (World.block_lt_of_cell? w _ hx157_0)).trans hx157_0
             replace hx157_1 := (HB.out.cell (World.block_lt_of_cell? w _ hx157_1)).trans hx157_1
             replace hx157_2 := (HB.out.cell (World.block_lt_of_cell? w _ hx157_2)).trans hx157_2
             replace p157 := eq_true p157
             replace q157 := eq_true q157
             refine start_ (n := 40) (S := fun w' => w'.cell? ⟨gb154, 0, none⟩ = some (.int .i64 ((rd_T67 l0_1 x3_2).f0)) ∧ w'.cell? ⟨gb154, 1, none⟩ = some (.string ((rd_T67 l0_1 x3_2).f1)) ∧ w'.cell? ⟨gb154, 2, none⟩ = some (.string ((rd_T67 l0_1 x3_2).f2)) ∧ w'.cell? ⟨gb150, 0, none⟩ = some (.string a0_0) ∧ w'.cell? ⟨gb150, 1, none⟩ = some (.slice (some ad153) l0_1.length c0_1) ∧ w'.cell? (ad153.add (((ji17)).toNat * 3)) = some (.int .i64 ((rd_T67 l0_1 (ji17)).f0)) ∧ w'.cell? ⟨(ad153.add (((ji17)).toNat * 3)).block, (ad153.add (((ji17)).toNat * 3)).off + 1, none⟩ = some (.string ((rd_T67 l0_1 (ji17)).f1)) ∧ w'.cell? ⟨(ad153.add (((ji17)).toNat * 3)).block, (ad153.add (((ji17)).toNat * 3)).off + 2, none⟩ = some (.string ((rd_T67 l0_1 (ji17)).f2))) (ds := []) (tf_ 0 40) (by kernel_rfl) rfl rfl ⟨(blk_cell BK154.out 0).trans rfl, (blk_cell BK154.out 1).trans rfl, (blk_cell BK154.out 2).trans rfl, (blk_cell BK150.out 0).trans rfl, (blk_cell BK150.out 1).trans rfl, ((HB.out.cell (World.block_lt_of_cell? w _ hw157_0)).trans hw157_0), ((HB.out.cell (World.block_lt_of_cell? w _ hw157_1)).trans hw157_1), ((HB.out.cell (World.block_lt_of_cell? w _ hw157_2)).trans hw157_2)⟩ (fun hHeld => ?_); refine with_tabW spec_DeviceOk.tab7 spec_DeviceOk.bits7 (fun HT_ HW_ => ?_)
             generalize w25.drew = w26 at BK150 BK154 HB hx157_0 hx157_1 hx157_2 hHeld ⊢
             refine pure_ (i := 0) (N := some 28) (v := ?_) (a' := ?_) (tf_ 1 39) rfl rfl (any_of HT_.out (by kernel_rfl)) (fun _ _ _ h => h) (Or.inl ⟨by rfl, ?_⟩) ?_ ?_
             rotate_left
             ·intro w'
              go_simp
              with_reducible rfl
             rotate_left
             ·simp only [Act.put, sI_, s0_, sS_, i64_w, i32_w]
              rfl
             refine take_ (i := 1) (N := some 29) (v := ?_) (a' := ?_) (tf_ 2 38) rfl rfl (take_ofW HT_.out HW_.out (by kernel_rfl)) (fun _ _ _ h => h) (Or.inl ⟨by rfl, ?_⟩) hHeld ?_ ?_
             rotate_left
             ·rintro w' ⟨s0, s1, s2, s3, s4, s5, s6, s7⟩
              go_simp
              with_reducible rfl
             rotate_left
             ·simp only [Act.put, sI_, s0_, sS_, i64_w, i32_w]
              rfl
             refine take_ (i := 2) (N := some 30) (v := ?_) (a' := ?_) (tf_ 3 37) rfl rfl (take_ofW HT_.out HW_.out (by kernel_rfl)) (fun _ _ _ h => h) (Or.inl ⟨by rfl, ?_⟩) hHeld ?_ ?_
             rotate_left
             ·rintro w' ⟨s0, s1, s2, s3, s4, s5, s6, s7⟩
              go_simp
              with_reducible rfl
             rotate_left
             ·simp only [Act.put, sI_, s0_, sS_, i64_w, i32_w]
              rfl
             refine one_ (i := 3) (N := some 31) (tf_ 4 36) rfl rfl (one_of HT_.out (by kernel_rfl)) (by decide) (fun K hK => ?_)
             refine goes_ Try.func71 (by kernel_rfl) rfl #[.agg #[.string a0_0, .slice (some ad153) l0_1.length c0_1]] (by rfl) rfl rfl (by (try simp only [List.map_toArray, List.map_cons, List.map_nil]); first | done | rfl | (simp only [List.length_drop, List.length_take]; rfl)) ?_
             with_reducible refine (spec_l2Count.calls a0_0 _ _ l0_1 t155 _ ?side1 ?side2 A13.out).mono ?_
             (case side1 => repeat (first | exact (Kd.C_below HR0_1.out HB.out) | (with_reducible refine Kd.C_alloc ?_ _) | (with_reducible refine Kd.C_drewN ?_ _) | (with_reducible refine Kd.C_drew ?_)))
             (case side2 => exact HC0_1.out)
             rintro e w27 ⟨rfl, hb⟩
             refine ⟨_, rfl, ?_⟩
             have n0_ := Aside0.mk (blk_below (g := gb150) (o := .cells #[.string a0_0, .slice (some ad153) l0_1.length c0_1] 30 (0, 0)) (by (with_reducible repeat (first | refine blk_drewN ?_ _ | refine blk_drew ?_ | refine blk_alloc ?_ _)); exact BK150.out) hb)
             have n1_ := Aside0.mk (blk_below (g := gb154) (o := .cells #[.int .i64 ((rd_T67 l0_1 x3_2).f0), .string ((rd_T67 l0_1 x3_2).f1), .string ((rd_T67 l0_1 x3_2).f2)] 67 (0, 0)) (by (with_reducible repeat (first | refine blk_drewN ?_ _ | refine blk_drew ?_ | refine blk_alloc ?_ _)); exact BK154.out) hb)
             have n2_ := Aside0.mk (below_step (by repeat (first | (with_reducible first | exact HB.out | apply below_alloc | apply pw_below_drewN | apply below_drew1 | refine below_set ?_ GE150.out | refine below_set ?_ GE154.out) | exact HB.out)) hb)
             clear BK150
             clear BK154
             clear HB
             have BK150 := n0_
             have BK154 := n1_
             have HB := n2_
             clear n0_ n1_ n2_
             (try clear hb)
             (try clear hb2)
             (try clear hk)
             (try clear hi)
             refine hK.out _ _ ⟨(blk_cell BK154.out 0).trans rfl, (blk_cell BK154.out 1).trans rfl, (blk_cell BK154.out 2).trans rfl, (blk_cell BK150.out 0).trans rfl, (blk_cell BK150.out 1).trans rfl, ((HB.out.cell (World.block_lt_of_cell? w _ hw157_0)).trans hw157_0), ((HB.out.cell (World.block_lt_of_cell? w _ hw157_1)).trans hw157_1), ((HB.out.cell (World.block_lt_of_cell? w _ hw157_2)).trans hw157_2)⟩ (fun hHeld => ?_)
             clear hK K
             refine norm_ (a' := ?_) ?_ ?_
             rotate_left
             ·show Act.put _ (some 31) _ = _
              simp only [Act.put, sI_, s0_, sS_, i64_w, i32_w]
              rfl
             refine pure_ (i := 4) (N := some 32) (v := ?_) (a' := ?_) (tf_ 5 35) rfl rfl (any_of HT_.out (by kernel_rfl)) (fun _ _ _ h => h) (Or.inl ⟨by rfl, ?_⟩) ?_ ?_
             rotate_left
             ·intro w'
              go_simp
              with_reducible rfl
             rotate_left
             ·simp only [Act.put, sI_, s0_, sS_, i64_w, i32_w]
              rfl
             refine one_ (i := 5) (N := some 33) (tf_ 6 34) rfl rfl (one_of HT_.out (by kernel_rfl)) (by decide) (fun K hK => ?_)
             refine goes_ Try.func70 (by kernel_rfl) rfl #[.int .i64 ((rd_T67 l0_1 x3_2).f0), .int .i64 0, .int .i64 (wrap64 (t155 - 1))] (by rfl) rfl rfl (by (try simp only [List.map_toArray, List.map_cons, List.map_nil]); first | done | rfl | (simp only [List.length_drop, List.length_take]; rfl) | ((try simp only [decide_eq_false_iff_not, decide_eq_true_eq, eq_iff_iff, iff_true, iff_false, Int.not_lt, Int.not_le, Nat.not_lt, Nat.not_le, ByteArray.size_append, ByteArray.size_extract] at *); (rw [show wrap64 (t155 - 1) = t155 - 1 from by unfold Go.RowKit.wrap64; omega]); rfl)) ?_
             with_reducible refine (spec_l1In.calls ((rd_T67 l0_1 x3_2).f0) 0 (wrap64 (t155 - 1)) true _ A14.out).mono ?_
             rintro e w' ⟨rfl, ⟨nd, rfl⟩⟩
             refine ⟨_, rfl, ?_⟩
             refine hK.out _ _ ⟨(blk_cell BK154.out 0).trans rfl, (blk_cell BK154.out 1).trans rfl, (blk_cell BK154.out 2).trans rfl, (blk_cell BK150.out 0).trans rfl, (blk_cell BK150.out 1).trans rfl, ((HB.out.cell (World.block_lt_of_cell? w _ hw157_0)).trans hw157_0), ((HB.out.cell (World.block_lt_of_cell? w _ hw157_1)).trans hw157_1), ((HB.out.cell (World.block_lt_of_cell? w _ hw157_2)).trans hw157_2)⟩ (fun hHeld => ?_)
             clear hK K
             refine norm_ (a' := ?_) ?_ ?_
             rotate_left
             ·show Act.put _ (some 33) _ = _
              simp only [Act.put, sI_, s0_, sS_, i64_w, i32_w]
              rfl
             refine pure_ (i := 6) (N := some 34) (v := ?_) (a' := ?_) (tf_ 7 33) rfl rfl (any_of HT_.out (by kernel_rfl)) (fun _ _ _ h => h) (Or.inl ⟨by rfl, ?_⟩) ?_ ?_
             rotate_left
             ·intro w'
              go_simp
              with_reducible rfl
             rotate_left
             ·simp only [Act.put, sI_, s0_, sS_, i64_w, i32_w]
              rfl
             refine pure_ (i := 7) (N := some 35) (v := ?_) (a' := ?_) (tf_ 8 32) rfl rfl (any_of HT_.out (by kernel_rfl)) (fun _ _ _ h => h) (Or.inl ⟨by rfl, ?_⟩) ?_ ?_
             rotate_left
             ·intro w'
              go_simp
              with_reducible rfl
             rotate_left
             ·simp only [Act.put, sI_, s0_, sS_, i64_w, i32_w]
              rfl
             refine pure_ (i := 8) (N := some 36) (v := ?_) (a' := ?_) (tf_ 9 31) rfl rfl (any_of HT_.out (by kernel_rfl)) (fun _ _ _ h => h) (Or.inl ⟨by rfl, ?_⟩) ?_ ?_
             rotate_left
             ·intro w'
              go_simp
              with_reducible rfl
             rotate_left
             ·simp only [Act.put, sI_, s0_, sS_, i64_w, i32_w]
              rfl
             refine pure_ (i := 9) (N := some 37) (v := ?_) (a' := ?_) (tf_ 10 30) rfl rfl (any_of HT_.out (by kernel_rfl)) (fun _ _ _ h => h) (Or.inl ⟨by rfl, ?_⟩) ?_ ?_
             rotate_left
             ·intro w'
              go_simp
              with_reducible rfl
             rotate_left
             ·simp only [Act.put, sI_, s0_, sS_, i64_w, i32_w]
              rfl
             refine pure_ (i := 10) (N := some 38) (v := ?_) (a' := ?_) (tf_ 11 29) rfl rfl (any_of HT_.out (by kernel_rfl)) (fun _ _ _ h => h) (Or.inl ⟨by rfl, ?_⟩) ?_ ?_
             rotate_left
             ·intro w'
              go_simp
              with_reducible rfl
             rotate_left
             ·simp only [Act.put, sI_, s0_, sS_, i64_w, i32_w]
              rfl
             refine pure_ (i := 11) (N := some 39) (v := ?_) (a' := ?_) (tf_ 12 28) rfl rfl (any_of HT_.out (by kernel_rfl)) (fun _ _ _ h => h) (Or.inl ⟨by rfl, ?_⟩) ?_ ?_
             rotate_left
             ·intro w'
              go_simp
              with_reducible rfl
             rotate_left
             ·simp only [Act.put, sI_, s0_, sS_, i64_w, i32_w]
              rfl
             refine pure_ (i := 13) (N := some 41) (v := ?_) (a' := ?_) #[true, true, true, true, true, true, true, true, true, true, true, true, false, true, false, false, false, false, false, false, false, false, false, false, false, false, false, false, false, false, false, false, false, false, false, false, false, false, false, false] rfl rfl (any_of HT_.out (by kernel_rfl)) (fun _ _ _ h => h) (Or.inl ⟨by rfl, ?_⟩) ?_ ?_
             rotate_left
             ·intro w'
              go_simp
              with_reducible rfl
             rotate_left
             ·simp only [Act.put, sI_, s0_, sS_, i64_w, i32_w]
              rfl
             refine pure_ (i := 15) (N := some 43) (v := ?_) (a' := ?_) #[true, true, true, true, true, true, true, true, true, true, true, true, false, true, false, true, false, false, false, false, false, false, false, false, false, false, false, false, false, false, false, false, false, false, false, false, false, false, false, false] rfl rfl (any_of HT_.out (by kernel_rfl)) (fun _ _ _ h => h) (Or.inl ⟨by rfl, ?_⟩) ?_ ?_
             rotate_left
             ·intro w'
              go_simp
              with_reducible rfl
             rotate_left
             ·simp only [Act.put, sI_, s0_, sS_, i64_w, i32_w]
              rfl
             refine pure_ (i := 16) (N := some 44) (v := ?_) (a' := ?_) #[true, true, true, true, true, true, true, true, true, true, true, true, false, true, false, true, true, false, false, false, false, false, false, false, false, false, false, false, false, false, false, false, false, false, false, false, false, false, false, false] rfl rfl (any_of HT_.out (by kernel_rfl)) (fun _ _ _ h => h) (Or.inl ⟨by rfl, ?_⟩) ?_ ?_
             rotate_left
             ·intro w'
              go_simp
              with_reducible rfl
             rotate_left
             ·simp only [Act.put, sI_, s0_, sS_, i64_w, i32_w]
              rfl
             refine take_ (i := 12) (N := some 40) (v := ?_) (a' := ?_) #[true, true, true, true, true, true, true, true, true, true, true, true, true, true, false, true, true, false, false, false, false, false, false, false, false, false, false, false, false, false, false, false, false, false, false, false, false, false, false, false] rfl rfl (take_ofW HT_.out HW_.out (by kernel_rfl)) (fun _ _ _ h => h) (Or.inl ⟨by rfl, ?_⟩) hHeld ?_ ?_
             rotate_left
             ·rintro w' ⟨s0, s1, s2, s3, s4, s5, s6, s7⟩
              go_simp
              with_reducible rfl
             rotate_left
             ·simp only [Act.put, sI_, s0_, sS_, i64_w, i32_w]
              rfl
             refine take_ (i := 14) (N := some 42) (v := ?_) (a' := ?_) (tf_ 17 23) rfl rfl (take_ofW HT_.out HW_.out (by kernel_rfl)) (fun _ _ _ h => h) (Or.inl ⟨by rfl, ?_⟩) hHeld ?_ ?_
             rotate_left
             ·rintro w' ⟨s0, s1, s2, s3, s4, s5, s6, s7⟩
              go_simp
              with_reducible rfl
             rotate_left
             ·simp only [Act.put, sI_, s0_, sS_, i64_w, i32_w]
              rfl
             refine pure_ (i := 17) (N := some 45) (v := ?_) (a' := ?_) (tf_ 18 22) rfl rfl (any_of HT_.out (by kernel_rfl)) (fun _ _ _ h => h) (Or.inl ⟨by rfl, ?_⟩) ?_ ?_
             rotate_left
             ·intro w'
              go_simp
              with_reducible rfl
             rotate_left
             ·simp only [Act.put, sI_, s0_, sS_, i64_w, i32_w]
              rfl
             refine pure_ (i := 18) (N := some 46) (v := ?_) (a' := ?_) (tf_ 19 21) rfl rfl (any_of HT_.out (by kernel_rfl)) (fun _ _ _ h => h) (Or.inl ⟨by rfl, ?_⟩) ?_ ?_
             rotate_left
             ·intro w'
              go_simp
              with_reducible rfl
             rotate_left
             ·simp only [Act.put, sI_, s0_, sS_, i64_w, i32_w]
              rfl
             refine take_ (i := 19) (N := some 47) (v := ?_) (a' := ?_) (tf_ 20 20) rfl rfl (take_ofW HT_.out HW_.out (by kernel_rfl)) (fun _ _ _ h => h) (Or.inl ⟨by rfl, ?_⟩) hHeld ?_ ?_
             rotate_left
             ·rintro w' ⟨s0, s1, s2, s3, s4, s5, s6, s7⟩
              go_simp
              with_reducible rfl
             rotate_left
             ·simp only [Act.put, sI_, s0_, sS_, i64_w, i32_w]
              rfl
             refine pure_ (i := 20) (N := some 48) (v := ?_) (a' := ?_) (tf_ 21 19) rfl rfl (any_of HT_.out (by kernel_rfl)) (fun _ _ _ h => h) (Or.inl ⟨by rfl, ?_⟩) ?_ ?_
             rotate_left
             ·intro w'
              go_simp
              with_reducible rfl
             rotate_left
             ·simp only [Act.put, sI_, s0_, sS_, i64_w, i32_w]
              rfl
             refine pure_ (i := 21) (N := some 49) (v := ?_) (a' := ?_) (tf_ 22 18) rfl rfl (any_of HT_.out (by kernel_rfl)) (fun _ _ _ h => h) (Or.inl ⟨by rfl, ?_⟩) ?_ ?_
             rotate_left
             ·intro w'
              go_simp
              with_reducible rfl
             rotate_left
             ·simp only [Act.put, sI_, s0_, sS_, i64_w, i32_w]
              rfl
             refine pure_ (i := 22) (N := some 50) (v := ?_) (a' := ?_) (tf_ 23 17) rfl rfl (any_of HT_.out (by kernel_rfl)) (fun _ _ _ h => h) (Or.inl ⟨by rfl, ?_⟩) ?_ ?_
             rotate_left
             ·intro w'
              go_simp
              with_reducible rfl
             rotate_left
             ·simp only [Act.put, sI_, s0_, sS_, i64_w, i32_w]
              rfl
             refine pure_ (i := 23) (N := some 51) (v := ?_) (a' := ?_) (tf_ 24 16) rfl rfl (any_of HT_.out (by kernel_rfl)) (fun _ _ _ h => h) (Or.inl ⟨by rfl, ?_⟩) ?_ ?_
             rotate_left
             ·intro w'
              go_simp
              with_reducible rfl
             rotate_left
             ·simp only [Act.put, sI_, s0_, sS_, i64_w, i32_w]
              rfl
             refine pure_ (i := 24) (N := some 52) (v := undef) (a' := ?_) (tf_ 25 15) rfl rfl (any_of HT_.out (by kernel_rfl)) (fun _ _ _ h => h) (Or.inr ⟨by rfl, rfl⟩) ?_ ?_
             rotate_left
             ·simp only [Act.put, sI_, s0_, sS_, i64_w, i32_w]
              rfl
             refine pure_ (i := 25) (N := some 53) (v := undef) (a' := ?_) (tf_ 26 14) rfl rfl (any_of HT_.out (by kernel_rfl)) (fun _ _ _ h => h) (Or.inr ⟨by rfl, rfl⟩) ?_ ?_
             rotate_left
             ·simp only [Act.put, sI_, s0_, sS_, i64_w, i32_w]
              rfl
             refine pure_ (i := 26) (N := some 54) (v := undef) (a' := ?_) (tf_ 27 13) rfl rfl (any_of HT_.out (by kernel_rfl)) (fun _ _ _ h => h) (Or.inr ⟨by rfl, rfl⟩) ?_ ?_
             rotate_left
             ·simp only [Act.put, sI_, s0_, sS_, i64_w, i32_w]
              rfl
             refine pure_ (i := 27) (N := some 55) (v := undef) (a' := ?_) (tf_ 28 12) rfl rfl (any_of HT_.out (by kernel_rfl)) (fun _ _ _ h => h) (Or.inr ⟨by rfl, rfl⟩) ?_ ?_
             rotate_left
             ·simp only [Act.put, sI_, s0_, sS_, i64_w, i32_w]
              rfl
             refine pure_ (i := 28) (N := some 56) (v := ?_) (a' := ?_) (tf_ 29 11) rfl rfl (any_of HT_.out (by kernel_rfl)) (fun _ _ _ h => h) (Or.inl ⟨by rfl, ?_⟩) ?_ ?_
             rotate_left
             ·intro w'
              go_simp
              with_reducible rfl
             rotate_left
             ·simp only [Act.put, sI_, s0_, sS_, i64_w, i32_w]
              rfl
             refine pure_ (i := 29) (N := some 57) (v := ?_) (a' := ?_) (tf_ 30 10) rfl rfl (any_of HT_.out (by kernel_rfl)) (fun _ _ _ h => h) (Or.inl ⟨by rfl, ?_⟩) ?_ ?_
             rotate_left
             ·intro w'
              go_simp
              with_reducible rfl
             rotate_left
             ·simp only [Act.put, sI_, s0_, sS_, i64_w, i32_w]
              rfl
             refine pure_ (i := 30) (N := some 58) (v := undef) (a' := ?_) (tf_ 31 9) rfl rfl (any_of HT_.out (by kernel_rfl)) (fun _ _ _ h => h) (Or.inr ⟨by rfl, rfl⟩) ?_ ?_
             rotate_left
             ·simp only [Act.put, sI_, s0_, sS_, i64_w, i32_w]
              rfl
             refine pure_ (i := 31) (N := some 59) (v := undef) (a' := ?_) (tf_ 32 8) rfl rfl (any_of HT_.out (by kernel_rfl)) (fun _ _ _ h => h) (Or.inr ⟨by rfl, rfl⟩) ?_ ?_
             rotate_left
             ·simp only [Act.put, sI_, s0_, sS_, i64_w, i32_w]
              rfl
             refine pure_ (i := 32) (N := some 60) (v := undef) (a' := ?_) (tf_ 33 7) rfl rfl (any_of HT_.out (by kernel_rfl)) (fun _ _ _ h => h) (Or.inr ⟨by rfl, rfl⟩) ?_ ?_
             rotate_left
             ·simp only [Act.put, sI_, s0_, sS_, i64_w, i32_w]
              rfl
             refine pure_ (i := 33) (N := some 61) (v := undef) (a' := ?_) (tf_ 34 6) rfl rfl (any_of HT_.out (by kernel_rfl)) (fun _ _ _ h => h) (Or.inr ⟨by rfl, rfl⟩) ?_ ?_
             rotate_left
             ·simp only [Act.put, sI_, s0_, sS_, i64_w, i32_w]
              rfl
             refine pure_ (i := 34) (N := some 62) (v := undef) (a' := ?_) (tf_ 35 5) rfl rfl (any_of HT_.out (by kernel_rfl)) (fun _ _ _ h => h) (Or.inr ⟨by rfl, rfl⟩) ?_ ?_
             rotate_left
             ·simp only [Act.put, sI_, s0_, sS_, i64_w, i32_w]
              rfl
             refine pure_ (i := 35) (N := some 63) (v := undef) (a' := ?_) (tf_ 36 4) rfl rfl (any_of HT_.out (by kernel_rfl)) (fun _ _ _ h => h) (Or.inr ⟨by rfl, rfl⟩) ?_ ?_
             rotate_left
             ·simp only [Act.put, sI_, s0_, sS_, i64_w, i32_w]
              rfl
             refine pure_ (i := 36) (N := some 64) (v := undef) (a' := ?_) (tf_ 37 3) rfl rfl (any_of HT_.out (by kernel_rfl)) (fun _ _ _ h => h) (Or.inr ⟨by rfl, rfl⟩) ?_ ?_
             rotate_left
             ·simp only [Act.put, sI_, s0_, sS_, i64_w, i32_w]
              rfl
             refine pure_ (i := 37) (N := some 65) (v := undef) (a' := ?_) (tf_ 38 2) rfl rfl (any_of HT_.out (by kernel_rfl)) (fun _ _ _ h => h) (Or.inr ⟨by rfl, rfl⟩) ?_ ?_
             rotate_left
             ·simp only [Act.put, sI_, s0_, sS_, i64_w, i32_w]
              rfl
             refine pure_ (i := 38) (N := some 66) (v := undef) (a' := ?_) (tf_ 39 1) rfl rfl (any_of HT_.out (by kernel_rfl)) (fun _ _ _ h => h) (Or.inr ⟨by rfl, rfl⟩) ?_ ?_
             rotate_left
             ·simp only [Act.put, sI_, s0_, sS_, i64_w, i32_w]
              rfl
             refine pure_ (i := 39) (N := some 67) (v := ?_) (a' := ?_) (tf_ 40 0) rfl rfl (any_of HT_.out (by kernel_rfl)) (fun _ _ _ h => h) (Or.inl ⟨by rfl, ?_⟩) ?_ ?_
             rotate_left
             ·intro w'
              go_simp
              with_reducible rfl
             rotate_left
             ·simp only [Act.put, sI_, s0_, sS_, i64_w, i32_w]
              rfl
             refine done_ (done_of HT_.out (by kernel_rfl)) ?_
             try go_wp2
             go_ret
             exact ⟨by first | rfl | (simp [errW_none, errW_some] <;> rfl) | (simp only [← hji17]; first | rfl | (simp [errW_none, errW_some] <;> rfl)) | (simp [*, errW_none, errW_some] <;> rfl), by repeat (first | (with_reducible first | exact HB.out | apply below_alloc | apply pw_below_drewN | apply below_drew1 | refine below_set ?_ GE150.out | refine below_set ?_ GE154.out) | exact HB.out)⟩
            ·rw [if_neg c20] at H
             have c20b0 : decide (((rd_T67 l0_1 x3_2).f0) ≤ ((rd_T67 l0_1 (ji17)).f0)) = false := decide_eq_false c20
             clear c20
             by_cases c28 : (((rd_T67 l0_1 x3_2).f1).size : Int) = 64
             ·rw [if_pos c28] at H
              have c28b0 : ((((rd_T67 l0_1 x3_2).f1).size : Int) == 64) = true := beq_iff_eq.mpr c28
              have c28b1 : ((((rd_T67 l0_1 x3_2).f1).size : Int) != 64) = false := bne_eq_false_iff_eq.mpr c28
              clear c28
              by_cases c29 : (((rd_T67 l0_1 x3_2).f2).size : Int) = 64
              ·rw [if_pos c29] at H
               have c29b0 : ((((rd_T67 l0_1 x3_2).f2).size : Int) == 64) = true := beq_iff_eq.mpr c29
               have c29b1 : ((((rd_T67 l0_1 x3_2).f2).size : Int) != 64) = false := bne_eq_false_iff_eq.mpr c29
               clear c29
               have H' := Aside0.mk H
               clear H
               have hcz30_0 : wr.cell? ⟨gb150, 0, none⟩ = some (.string a0_0) := (blk_cell BK150.out 0).trans rfl
               have hcz30_1 : wr.cell? ⟨gb150, 1, none⟩ = some (.slice A0_1 l0_1.length c0_1) := (blk_cell BK150.out 1).trans rfl
               have hfz30_0 := blk_frozen BK150.out 0
               have hfz30_1 := blk_frozen BK150.out 1
               have p153 : 0 ≤ (x3_2 : Int) := of_decide_eq_true (by first | (with_reducible assumption) | assumption)
               have q153 : x3_2 < (l0_1.length : Int) := of_decide_eq_true (by first | (with_reducible assumption) | assumption)
               obtain ⟨ad153, e153, hx153_0, hx153_1, hx153_2⟩ := at_T67 HR0_1.out x3_2 p153 q153
               cases e153
               replace hx153_0 := (HB.out.cell (World.block_lt_of_cell? w _ hx153_0)).trans hx153_0
               replace hx153_1 := (HB.out.cell (World.block_lt_of_cell? w _ hx153_1)).trans hx153_1
               replace hx153_2 := (HB.out.cell (World.block_lt_of_cell? w _ hx153_2)).trans hx153_2
               replace p153 := eq_true p153
               replace q153 := eq_true q153
               try go_wp2_with (first | ((with_reducible refine gate_dst (N := 4) rfl ?_); (try (refine gate_guard (by rfl) ?_; dsimp only)); refine box_event ?hg (N := 4) ?hd (cs := #[.int .i64 0, .string (⟨#[]⟩ : ByteArray), .string (⟨#[]⟩ : ByteArray)]) (t := 67) ?hr ?_; (case hd => rfl); (case hg => rfl); (case hr => first | (go_simp; done) | (go_simp; rfl)); intro gb154 hg w31 hbox hb; have n0_ := Aside0.mk (blk_below (g := gb150) (o := .cells #[.string a0_0, .slice (some ad153) l0_1.length c0_1] 30 (0, 0)) (by (with_reducible repeat (first | refine blk_drewN ?_ _ | refine blk_drew ?_ | refine blk_alloc ?_ _)); exact BK150.out) hb); have n1_ := Aside0.mk (below_step (by repeat (first | (with_reducible first | exact HB.out | apply below_alloc | apply pw_below_drewN | apply below_drew1 | refine below_set ?_ GE150.out) | exact HB.out)) hb); have n2_ := Aside0.mk (hbox); have n3_ := Aside0.mk ((by rw [hg]; exact (below_size (by repeat (first | (with_reducible first | exact HB.out | apply below_alloc | apply pw_below_drewN | apply below_drew1 | refine below_set ?_ GE150.out) | exact HB.out))) : w.heap.size ≤ gb154)); have n4_ := Aside0.mk ((by rw [hg]; exact (below_size (by repeat (first | (with_reducible first | exact HB.out | apply below_alloc | apply pw_below_drewN | apply below_drew1 | refine below_set ?_ GE150.out) | exact HB.out))) : w.heap.size ≤ gb154)); have n5_ := Aside0.mk ((by rw [hg]; exact Nat.ne_of_lt (blk_lt (g := gb150) (o := .cells #[.string a0_0, .slice (some ad153) l0_1.length c0_1] 30 (0, 0)) (by (with_reducible repeat (first | refine blk_drewN ?_ _ | refine blk_drew ?_ | refine blk_alloc ?_ _)); exact BK150.out)) : gb150 ≠ gb154)); have n6_ := Aside0.mk ((by rw [hg]; exact Nat.ne_of_gt (blk_lt (g := gb150) (o := .cells #[.string a0_0, .slice (some ad153) l0_1.length c0_1] 30 (0, 0)) (by (with_reducible repeat (first | refine blk_drewN ?_ _ | refine blk_drew ?_ | refine blk_alloc ?_ _)); exact BK150.out)) : gb154 ≠ gb150)); clear BK150; clear HB; have BK150 := n0_; have HB := n1_; have BK154 := n2_; have GW154 := n3_; have GE154 := n4_; have NB150_154 := n5_; have NB154_150 := n6_; clear n0_ n1_ n2_ n3_ n4_ n5_ n6_; clear hb hbox hg; have hnb32 := NB154_150.out; have hnc32 := NB150_154.out; have hcz33_0 : w31.cell? ⟨gb154, 0, none⟩ = some (.int .i64 0) := (blk_cell BK154.out 0).trans rfl; have hcz33_1 : w31.cell? ⟨gb154, 1, none⟩ = some (.string (⟨#[]⟩ : ByteArray)) := (blk_cell BK154.out 1).trans rfl; have hcz33_2 : w31.cell? ⟨gb154, 2, none⟩ = some (.string (⟨#[]⟩ : ByteArray)) := (blk_cell BK154.out 2).trans rfl; have hfz33_0 := blk_frozen BK154.out 0; have hfz33_1 := blk_frozen BK154.out 1; have hfz33_2 := blk_frozen BK154.out 2))
               have n0_ : Aside0 ((((w31.setCell ⟨gb154, 0, none⟩ (.int .i64 ((rd_T67 l0_1 x3_2).f0))).setCell ⟨gb154, 1, none⟩ (.string ((rd_T67 l0_1 x3_2).f1))).setCell ⟨gb154, 2, none⟩ (.string ((rd_T67 l0_1 x3_2).f2))).heap[gb150]? = some (.cells #[.string a0_0, .slice (some ad153) l0_1.length c0_1] 30 (0, 0))) := ⟨by (with_reducible repeat (first | refine blk_drewN ?_ _ | refine blk_drew ?_ | refine blk_alloc ?_ _)); refine blk_far ?_ NB150_154.out _; (with_reducible repeat (first | refine blk_drewN ?_ _ | refine blk_drew ?_ | refine blk_alloc ?_ _)); refine blk_far ?_ NB150_154.out _; (with_reducible repeat (first | refine blk_drewN ?_ _ | refine blk_drew ?_ | refine blk_alloc ?_ _)); refine blk_far ?_ NB150_154.out _; (with_reducible repeat (first | refine blk_drewN ?_ _ | refine blk_drew ?_ | refine blk_alloc ?_ _)); exact BK150.out⟩
               have n1_ : Aside0 ((((w31.setCell ⟨gb154, 0, none⟩ (.int .i64 ((rd_T67 l0_1 x3_2).f0))).setCell ⟨gb154, 1, none⟩ (.string ((rd_T67 l0_1 x3_2).f1))).setCell ⟨gb154, 2, none⟩ (.string ((rd_T67 l0_1 x3_2).f2))).heap[gb154]? = some (.cells #[.int .i64 ((rd_T67 l0_1 x3_2).f0), .string ((rd_T67 l0_1 x3_2).f1), .string ((rd_T67 l0_1 x3_2).f2)] 67 (0, 0))) := ⟨by (with_reducible repeat (first | refine blk_drewN ?_ _ | refine blk_drew ?_ | refine blk_alloc ?_ _)); refine blk_put (cs := #[.int .i64 ((rd_T67 l0_1 x3_2).f0), .string ((rd_T67 l0_1 x3_2).f1), .string (⟨#[]⟩ : ByteArray)]) ?_ 2 _ rfl; (with_reducible repeat (first | refine blk_drewN ?_ _ | refine blk_drew ?_ | refine blk_alloc ?_ _)); refine blk_put (cs := #[.int .i64 ((rd_T67 l0_1 x3_2).f0), .string (⟨#[]⟩ : ByteArray), .string (⟨#[]⟩ : ByteArray)]) ?_ 1 _ rfl; (with_reducible repeat (first | refine blk_drewN ?_ _ | refine blk_drew ?_ | refine blk_alloc ?_ _)); refine blk_put (cs := #[.int .i64 0, .string (⟨#[]⟩ : ByteArray), .string (⟨#[]⟩ : ByteArray)]) ?_ 0 _ rfl; (with_reducible repeat (first | refine blk_drewN ?_ _ | refine blk_drew ?_ | refine blk_alloc ?_ _)); exact BK154.out⟩
               have n2_ : Aside0 (Below w.heap.size w (((w31.setCell ⟨gb154, 0, none⟩ (.int .i64 ((rd_T67 l0_1 x3_2).f0))).setCell ⟨gb154, 1, none⟩ (.string ((rd_T67 l0_1 x3_2).f1))).setCell ⟨gb154, 2, none⟩ (.string ((rd_T67 l0_1 x3_2).f2)))) := ⟨by repeat (first | (with_reducible first | exact HB.out | apply below_alloc | apply pw_below_drewN | apply below_drew1 | refine below_set ?_ GE150.out | refine below_set ?_ GE154.out) | exact HB.out)⟩
               (try clear BK150)
               (try clear BK154)
               (try clear HB)
               generalize (((w31.setCell ⟨gb154, 0, none⟩ (.int .i64 ((rd_T67 l0_1 x3_2).f0))).setCell ⟨gb154, 1, none⟩ (.string ((rd_T67 l0_1 x3_2).f1))).setCell ⟨gb154, 2, none⟩ (.string ((rd_T67 l0_1 x3_2).f2))) = w34 at n0_ n1_ n2_ ⊢
               have BK150 := n0_
               have BK154 := n1_
               have HB := n2_
               clear n0_ n1_ n2_
               have n0_ := Aside0.mk (blk_drew BK150.out)
               have n1_ := Aside0.mk (blk_drew BK154.out)
               have n2_ := Aside0.mk (below_drew1 HB.out)
               clear BK150
               clear BK154
               clear HB
               have BK150 := n0_
               have BK154 := n1_
               have HB := n2_
               clear n0_ n1_ n2_
               have p157 : 0 ≤ ((ji17) : Int) := of_decide_eq_true (by first | (with_reducible assumption) | assumption)
               have q157 : (ji17) < (l0_1.length : Int) := of_decide_eq_true (by first | (with_reducible assumption) | assumption)
               obtain ⟨ad157, e157, hx157_0, hx157_1, hx157_2⟩ := at_T67 HR0_1.out (ji17) p157 q157
               have hw157_2 := hx157_2
               have hw157_1 := hx157_1
               have hw157_0 := hx157_0
               obtain rfl : ad153 = ad157 := (by injection e157)
               replace hx157_0 := (HB.out.cell (World.block_lt_of_cell? w _ hx157_0)).trans hx157_0
               replace hx157_1 := (HB.out.cell (World.block_lt_of_cell? w _ hx157_1)).trans hx157_1
               replace hx157_2 := (HB.out.cell (World.block_lt_of_cell? w _ hx157_2)).trans hx157_2
               replace p157 := eq_true p157
               replace q157 := eq_true q157
               refine start_ (n := 40) (S := fun w' => w'.cell? ⟨gb154, 0, none⟩ = some (.int .i64 ((rd_T67 l0_1 x3_2).f0)) ∧ w'.cell? ⟨gb154, 1, none⟩ = some (.string ((rd_T67 l0_1 x3_2).f1)) ∧ w'.cell? ⟨gb154, 2, none⟩ = some (.string ((rd_T67 l0_1 x3_2).f2)) ∧ w'.cell? ⟨gb150, 0, none⟩ = some (.string a0_0) ∧ w'.cell? ⟨gb150, 1, none⟩ = some (.slice (some ad153) l0_1.length c0_1) ∧ w'.cell? (ad153.add (((ji17)).toNat * 3)) = some (.int .i64 ((rd_T67 l0_1 (ji17)).f0)) ∧ w'.cell? ⟨(ad153.add (((ji17)).toNat * 3)).block, (ad153.add (((ji17)).toNat * 3)).off + 1, none⟩ = some (.string ((rd_T67 l0_1 (ji17)).f1)) ∧ w'.cell? ⟨(ad153.add (((ji17)).toNat * 3)).block, (ad153.add (((ji17)).toNat * 3)).off + 2, none⟩ = some (.string ((rd_T67 l0_1 (ji17)).f2))) (ds := []) (tf_ 0 40) (by kernel_rfl) rfl rfl ⟨(blk_cell BK154.out 0).trans rfl, (blk_cell BK154.out 1).trans rfl, (blk_cell BK154.out 2).trans rfl, (blk_cell BK150.out 0).trans rfl, (blk_cell BK150.out 1).trans rfl, ((HB.out.cell (World.block_lt_of_cell? w _ hw157_0)).trans hw157_0), ((HB.out.cell (World.block_lt_of_cell? w _ hw157_1)).trans hw157_1), ((HB.out.cell (World.block_lt_of_cell? w _ hw157_2)).trans hw157_2)⟩ (fun hHeld => ?_); refine with_tabW spec_DeviceOk.tab7 spec_DeviceOk.bits7 (fun HT_ HW_ => ?_)
               generalize w34.drew = w35 at BK150 BK154 HB hx157_0 hx157_1 hx157_2 hHeld ⊢
               refine pure_ (i := 0) (N := some 28) (v := ?_) (a' := ?_) (tf_ 1 39) rfl rfl (any_of HT_.out (by kernel_rfl)) (fun _ _ _ h => h) (Or.inl ⟨by rfl, ?_⟩) ?_ ?_
               rotate_left
               ·intro w'
                go_simp
                with_reducible rfl
               rotate_left
               ·simp only [Act.put, sI_, s0_, sS_, i64_w, i32_w]
                rfl
               refine take_ (i := 1) (N := some 29) (v := ?_) (a' := ?_) (tf_ 2 38) rfl rfl (take_ofW HT_.out HW_.out (by kernel_rfl)) (fun _ _ _ h => h) (Or.inl ⟨by rfl, ?_⟩) hHeld ?_ ?_
               rotate_left
               ·rintro w' ⟨s0, s1, s2, s3, s4, s5, s6, s7⟩
                go_simp
                with_reducible rfl
               rotate_left
               ·simp only [Act.put, sI_, s0_, sS_, i64_w, i32_w]
                rfl
               refine take_ (i := 2) (N := some 30) (v := ?_) (a' := ?_) (tf_ 3 37) rfl rfl (take_ofW HT_.out HW_.out (by kernel_rfl)) (fun _ _ _ h => h) (Or.inl ⟨by rfl, ?_⟩) hHeld ?_ ?_
               rotate_left
               ·rintro w' ⟨s0, s1, s2, s3, s4, s5, s6, s7⟩
                go_simp
                with_reducible rfl
               rotate_left
               ·simp only [Act.put, sI_, s0_, sS_, i64_w, i32_w]
                rfl
               refine one_ (i := 3) (N := some 31) (tf_ 4 36) rfl rfl (one_of HT_.out (by kernel_rfl)) (by decide) (fun K hK => ?_)
               refine goes_ Try.func71 (by kernel_rfl) rfl #[.agg #[.string a0_0, .slice (some ad153) l0_1.length c0_1]] (by rfl) rfl rfl (by (try simp only [List.map_toArray, List.map_cons, List.map_nil]); first | done | rfl | (simp only [List.length_drop, List.length_take]; rfl)) ?_
               with_reducible refine (spec_l2Count.calls a0_0 _ _ l0_1 t155 _ ?side1 ?side2 A13.out).mono ?_
               (case side1 => repeat (first | exact (Kd.C_below HR0_1.out HB.out) | (with_reducible refine Kd.C_alloc ?_ _) | (with_reducible refine Kd.C_drewN ?_ _) | (with_reducible refine Kd.C_drew ?_)))
               (case side2 => exact HC0_1.out)
               rintro e w36 ⟨rfl, hb⟩
               refine ⟨_, rfl, ?_⟩
               have n0_ := Aside0.mk (blk_below (g := gb150) (o := .cells #[.string a0_0, .slice (some ad153) l0_1.length c0_1] 30 (0, 0)) (by (with_reducible repeat (first | refine blk_drewN ?_ _ | refine blk_drew ?_ | refine blk_alloc ?_ _)); exact BK150.out) hb)
               have n1_ := Aside0.mk (blk_below (g := gb154) (o := .cells #[.int .i64 ((rd_T67 l0_1 x3_2).f0), .string ((rd_T67 l0_1 x3_2).f1), .string ((rd_T67 l0_1 x3_2).f2)] 67 (0, 0)) (by (with_reducible repeat (first | refine blk_drewN ?_ _ | refine blk_drew ?_ | refine blk_alloc ?_ _)); exact BK154.out) hb)
               have n2_ := Aside0.mk (below_step (by repeat (first | (with_reducible first | exact HB.out | apply below_alloc | apply pw_below_drewN | apply below_drew1 | refine below_set ?_ GE150.out | refine below_set ?_ GE154.out) | exact HB.out)) hb)
               clear BK150
               clear BK154
               clear HB
               have BK150 := n0_
               have BK154 := n1_
               have HB := n2_
               clear n0_ n1_ n2_
               (try clear hb)
               (try clear hb2)
               (try clear hk)
               (try clear hi)
               refine hK.out _ _ ⟨(blk_cell BK154.out 0).trans rfl, (blk_cell BK154.out 1).trans rfl, (blk_cell BK154.out 2).trans rfl, (blk_cell BK150.out 0).trans rfl, (blk_cell BK150.out 1).trans rfl, ((HB.out.cell (World.block_lt_of_cell? w _ hw157_0)).trans hw157_0), ((HB.out.cell (World.block_lt_of_cell? w _ hw157_1)).trans hw157_1), ((HB.out.cell (World.block_lt_of_cell? w _ hw157_2)).trans hw157_2)⟩ (fun hHeld => ?_)
               clear hK K
               refine norm_ (a' := ?_) ?_ ?_
               rotate_left
               ·show Act.put _ (some 31) _ = _
                simp only [Act.put, sI_, s0_, sS_, i64_w, i32_w]
                rfl
               refine pure_ (i := 4) (N := some 32) (v := ?_) (a' := ?_) (tf_ 5 35) rfl rfl (any_of HT_.out (by kernel_rfl)) (fun _ _ _ h => h) (Or.inl ⟨by rfl, ?_⟩) ?_ ?_
               rotate_left
               ·intro w'
                go_simp
                with_reducible rfl
               rotate_left
               ·simp only [Act.put, sI_, s0_, sS_, i64_w, i32_w]
                rfl
               refine one_ (i := 5) (N := some 33) (tf_ 6 34) rfl rfl (one_of HT_.out (by kernel_rfl)) (by decide) (fun K hK => ?_)
               refine goes_ Try.func70 (by kernel_rfl) rfl #[.int .i64 ((rd_T67 l0_1 x3_2).f0), .int .i64 0, .int .i64 (wrap64 (t155 - 1))] (by rfl) rfl rfl (by (try simp only [List.map_toArray, List.map_cons, List.map_nil]); first | done | rfl | (simp only [List.length_drop, List.length_take]; rfl) | ((try simp only [decide_eq_false_iff_not, decide_eq_true_eq, eq_iff_iff, iff_true, iff_false, Int.not_lt, Int.not_le, Nat.not_lt, Nat.not_le, ByteArray.size_append, ByteArray.size_extract] at *); (rw [show wrap64 (t155 - 1) = t155 - 1 from by unfold Go.RowKit.wrap64; omega]); rfl)) ?_
               with_reducible refine (spec_l1In.calls ((rd_T67 l0_1 x3_2).f0) 0 (wrap64 (t155 - 1)) true _ A14.out).mono ?_
               rintro e w' ⟨rfl, ⟨nd, rfl⟩⟩
               refine ⟨_, rfl, ?_⟩
               refine hK.out _ _ ⟨(blk_cell BK154.out 0).trans rfl, (blk_cell BK154.out 1).trans rfl, (blk_cell BK154.out 2).trans rfl, (blk_cell BK150.out 0).trans rfl, (blk_cell BK150.out 1).trans rfl, ((HB.out.cell (World.block_lt_of_cell? w _ hw157_0)).trans hw157_0), ((HB.out.cell (World.block_lt_of_cell? w _ hw157_1)).trans hw157_1), ((HB.out.cell (World.block_lt_of_cell? w _ hw157_2)).trans hw157_2)⟩ (fun hHeld => ?_)
               clear hK K
               refine norm_ (a' := ?_) ?_ ?_
               rotate_left
               ·show Act.put _ (some 33) _ = _
                simp only [Act.put, sI_, s0_, sS_, i64_w, i32_w]
                rfl
               refine pure_ (i := 6) (N := some 34) (v := ?_) (a' := ?_) (tf_ 7 33) rfl rfl (any_of HT_.out (by kernel_rfl)) (fun _ _ _ h => h) (Or.inl ⟨by rfl, ?_⟩) ?_ ?_
               rotate_left
               ·intro w'
                go_simp
                with_reducible rfl
               rotate_left
               ·simp only [Act.put, sI_, s0_, sS_, i64_w, i32_w]
                rfl
               refine pure_ (i := 7) (N := some 35) (v := ?_) (a' := ?_) (tf_ 8 32) rfl rfl (any_of HT_.out (by kernel_rfl)) (fun _ _ _ h => h) (Or.inl ⟨by rfl, ?_⟩) ?_ ?_
               rotate_left
               ·intro w'
                go_simp
                with_reducible rfl
               rotate_left
               ·simp only [Act.put, sI_, s0_, sS_, i64_w, i32_w]
                rfl
               refine pure_ (i := 8) (N := some 36) (v := ?_) (a' := ?_) (tf_ 9 31) rfl rfl (any_of HT_.out (by kernel_rfl)) (fun _ _ _ h => h) (Or.inl ⟨by rfl, ?_⟩) ?_ ?_
               rotate_left
               ·intro w'
                go_simp
                with_reducible rfl
               rotate_left
               ·simp only [Act.put, sI_, s0_, sS_, i64_w, i32_w]
                rfl
               refine pure_ (i := 9) (N := some 37) (v := ?_) (a' := ?_) (tf_ 10 30) rfl rfl (any_of HT_.out (by kernel_rfl)) (fun _ _ _ h => h) (Or.inl ⟨by rfl, ?_⟩) ?_ ?_
               rotate_left
               ·intro w'
                go_simp
                with_reducible rfl
               rotate_left
               ·simp only [Act.put, sI_, s0_, sS_, i64_w, i32_w]
                rfl
               refine pure_ (i := 10) (N := some 38) (v := ?_) (a' := ?_) (tf_ 11 29) rfl rfl (any_of HT_.out (by kernel_rfl)) (fun _ _ _ h => h) (Or.inl ⟨by rfl, ?_⟩) ?_ ?_
               rotate_left
               ·intro w'
                go_simp
                with_reducible rfl
               rotate_left
               ·simp only [Act.put, sI_, s0_, sS_, i64_w, i32_w]
                rfl
               refine pure_ (i := 11) (N := some 39) (v := ?_) (a' := ?_) (tf_ 12 28) rfl rfl (any_of HT_.out (by kernel_rfl)) (fun _ _ _ h => h) (Or.inl ⟨by rfl, ?_⟩) ?_ ?_
               rotate_left
               ·intro w'
                go_simp
                with_reducible rfl
               rotate_left
               ·simp only [Act.put, sI_, s0_, sS_, i64_w, i32_w]
                rfl
               refine pure_ (i := 13) (N := some 41) (v := ?_) (a' := ?_) #[true, true, true, true, true, true, true, true, true, true, true, true, false, true, false, false, false, false, false, false, false, false, false, false, false, false, false, false, false, false, false, false, false, false, false, false, false, false, false, false] rfl rfl (any_of HT_.out (by kernel_rfl)) (fun _ _ _ h => h) (Or.inl ⟨by rfl, ?_⟩) ?_ ?_
               rotate_left
               ·intro w'
                go_simp
                with_reducible rfl
               rotate_left
               ·simp only [Act.put, sI_, s0_, sS_, i64_w, i32_w]
                rfl
               refine pure_ (i := 15) (N := some 43) (v := ?_) (a' := ?_) #[true, true, true, true, true, true, true, true, true, true, true, true, false, true, false, true, false, false, false, false, false, false, false, false, false, false, false, false, false, false, false, false, false, false, false, false, false, false, false, false] rfl rfl (any_of HT_.out (by kernel_rfl)) (fun _ _ _ h => h) (Or.inl ⟨by rfl, ?_⟩) ?_ ?_
               rotate_left
               ·intro w'
                go_simp
                with_reducible rfl
               rotate_left
               ·simp only [Act.put, sI_, s0_, sS_, i64_w, i32_w]
                rfl
               refine pure_ (i := 16) (N := some 44) (v := ?_) (a' := ?_) #[true, true, true, true, true, true, true, true, true, true, true, true, false, true, false, true, true, false, false, false, false, false, false, false, false, false, false, false, false, false, false, false, false, false, false, false, false, false, false, false] rfl rfl (any_of HT_.out (by kernel_rfl)) (fun _ _ _ h => h) (Or.inl ⟨by rfl, ?_⟩) ?_ ?_
               rotate_left
               ·intro w'
                go_simp
                with_reducible rfl
               rotate_left
               ·simp only [Act.put, sI_, s0_, sS_, i64_w, i32_w]
                rfl
               refine take_ (i := 12) (N := some 40) (v := ?_) (a' := ?_) #[true, true, true, true, true, true, true, true, true, true, true, true, true, true, false, true, true, false, false, false, false, false, false, false, false, false, false, false, false, false, false, false, false, false, false, false, false, false, false, false] rfl rfl (take_ofW HT_.out HW_.out (by kernel_rfl)) (fun _ _ _ h => h) (Or.inl ⟨by rfl, ?_⟩) hHeld ?_ ?_
               rotate_left
               ·rintro w' ⟨s0, s1, s2, s3, s4, s5, s6, s7⟩
                go_simp
                with_reducible rfl
               rotate_left
               ·simp only [Act.put, sI_, s0_, sS_, i64_w, i32_w]
                rfl
               refine take_ (i := 14) (N := some 42) (v := ?_) (a' := ?_) (tf_ 17 23) rfl rfl (take_ofW HT_.out HW_.out (by kernel_rfl)) (fun _ _ _ h => h) (Or.inl ⟨by rfl, ?_⟩) hHeld ?_ ?_
               rotate_left
               ·rintro w' ⟨s0, s1, s2, s3, s4, s5, s6, s7⟩
                go_simp
                with_reducible rfl
               rotate_left
               ·simp only [Act.put, sI_, s0_, sS_, i64_w, i32_w]
                rfl
               refine pure_ (i := 17) (N := some 45) (v := ?_) (a' := ?_) (tf_ 18 22) rfl rfl (any_of HT_.out (by kernel_rfl)) (fun _ _ _ h => h) (Or.inl ⟨by rfl, ?_⟩) ?_ ?_
               rotate_left
               ·intro w'
                go_simp
                with_reducible rfl
               rotate_left
               ·simp only [Act.put, sI_, s0_, sS_, i64_w, i32_w]
                rfl
               refine pure_ (i := 18) (N := some 46) (v := ?_) (a' := ?_) (tf_ 19 21) rfl rfl (any_of HT_.out (by kernel_rfl)) (fun _ _ _ h => h) (Or.inl ⟨by rfl, ?_⟩) ?_ ?_
               rotate_left
               ·intro w'
                go_simp
                with_reducible rfl
               rotate_left
               ·simp only [Act.put, sI_, s0_, sS_, i64_w, i32_w]
                rfl
               refine take_ (i := 19) (N := some 47) (v := ?_) (a' := ?_) (tf_ 20 20) rfl rfl (take_ofW HT_.out HW_.out (by kernel_rfl)) (fun _ _ _ h => h) (Or.inl ⟨by rfl, ?_⟩) hHeld ?_ ?_
               rotate_left
               ·rintro w' ⟨s0, s1, s2, s3, s4, s5, s6, s7⟩
                go_simp
                with_reducible rfl
               rotate_left
               ·simp only [Act.put, sI_, s0_, sS_, i64_w, i32_w]
                rfl
               refine pure_ (i := 20) (N := some 48) (v := ?_) (a' := ?_) (tf_ 21 19) rfl rfl (any_of HT_.out (by kernel_rfl)) (fun _ _ _ h => h) (Or.inl ⟨by rfl, ?_⟩) ?_ ?_
               rotate_left
               ·intro w'
                go_simp
                with_reducible rfl
               rotate_left
               ·simp only [Act.put, sI_, s0_, sS_, i64_w, i32_w]
                rfl
               refine pure_ (i := 21) (N := some 49) (v := ?_) (a' := ?_) (tf_ 22 18) rfl rfl (any_of HT_.out (by kernel_rfl)) (fun _ _ _ h => h) (Or.inl ⟨by rfl, ?_⟩) ?_ ?_
               rotate_left
               ·intro w'
                go_simp
                with_reducible rfl
               rotate_left
               ·simp only [Act.put, sI_, s0_, sS_, i64_w, i32_w]
                rfl
               refine pure_ (i := 22) (N := some 50) (v := ?_) (a' := ?_) (tf_ 23 17) rfl rfl (any_of HT_.out (by kernel_rfl)) (fun _ _ _ h => h) (Or.inl ⟨by rfl, ?_⟩) ?_ ?_
               rotate_left
               ·intro w'
                go_simp
                with_reducible rfl
               rotate_left
               ·simp only [Act.put, sI_, s0_, sS_, i64_w, i32_w]
                rfl
               refine pure_ (i := 23) (N := some 51) (v := ?_) (a' := ?_) (tf_ 24 16) rfl rfl (any_of HT_.out (by kernel_rfl)) (fun _ _ _ h => h) (Or.inl ⟨by rfl, ?_⟩) ?_ ?_
               rotate_left
               ·intro w'
                go_simp
                with_reducible rfl
               rotate_left
               ·simp only [Act.put, sI_, s0_, sS_, i64_w, i32_w]
                rfl
               refine pure_ (i := 24) (N := some 52) (v := ?_) (a' := ?_) (tf_ 25 15) rfl rfl (any_of HT_.out (by kernel_rfl)) (fun _ _ _ h => h) (Or.inl ⟨by rfl, ?_⟩) ?_ ?_
               rotate_left
               ·intro w'
                go_simp
                with_reducible rfl
               rotate_left
               ·simp only [Act.put, sI_, s0_, sS_, i64_w, i32_w]
                rfl
               refine take_ (i := 25) (N := some 53) (v := ?_) (a' := ?_) (tf_ 26 14) rfl rfl (take_ofW HT_.out HW_.out (by kernel_rfl)) (fun _ _ _ h => h) (Or.inl ⟨by rfl, ?_⟩) hHeld ?_ ?_
               rotate_left
               ·rintro w' ⟨s0, s1, s2, s3, s4, s5, s6, s7⟩
                go_simp
                with_reducible rfl
               rotate_left
               ·simp only [Act.put, sI_, s0_, sS_, i64_w, i32_w]
                rfl
               refine pure_ (i := 26) (N := some 54) (v := ?_) (a' := ?_) (tf_ 27 13) rfl rfl (any_of HT_.out (by kernel_rfl)) (fun _ _ _ h => h) (Or.inl ⟨by rfl, ?_⟩) ?_ ?_
               rotate_left
               ·intro w'
                go_simp
                with_reducible rfl
               rotate_left
               ·simp only [Act.put, sI_, s0_, sS_, i64_w, i32_w]
                rfl
               refine pure_ (i := 27) (N := some 55) (v := ?_) (a' := ?_) (tf_ 28 12) rfl rfl (any_of HT_.out (by kernel_rfl)) (fun _ _ _ h => h) (Or.inl ⟨by rfl, ?_⟩) ?_ ?_
               rotate_left
               ·intro w'
                go_simp
                with_reducible rfl
               rotate_left
               ·simp only [Act.put, sI_, s0_, sS_, i64_w, i32_w]
                rfl
               refine pure_ (i := 28) (N := some 56) (v := ?_) (a' := ?_) (tf_ 29 11) rfl rfl (any_of HT_.out (by kernel_rfl)) (fun _ _ _ h => h) (Or.inl ⟨by rfl, ?_⟩) ?_ ?_
               rotate_left
               ·intro w'
                go_simp
                with_reducible rfl
               rotate_left
               ·simp only [Act.put, sI_, s0_, sS_, i64_w, i32_w]
                rfl
               refine pure_ (i := 29) (N := some 57) (v := ?_) (a' := ?_) (tf_ 30 10) rfl rfl (any_of HT_.out (by kernel_rfl)) (fun _ _ _ h => h) (Or.inl ⟨by rfl, ?_⟩) ?_ ?_
               rotate_left
               ·intro w'
                go_simp
                with_reducible rfl
               rotate_left
               ·simp only [Act.put, sI_, s0_, sS_, i64_w, i32_w]
                rfl
               refine pure_ (i := 30) (N := some 58) (v := ?_) (a' := ?_) (tf_ 31 9) rfl rfl (any_of HT_.out (by kernel_rfl)) (fun _ _ _ h => h) (Or.inl ⟨by rfl, ?_⟩) ?_ ?_
               rotate_left
               ·intro w'
                go_simp
                with_reducible rfl
               rotate_left
               ·simp only [Act.put, sI_, s0_, sS_, i64_w, i32_w]
                rfl
               refine take_ (i := 31) (N := some 59) (v := ?_) (a' := ?_) (tf_ 32 8) rfl rfl (take_ofW HT_.out HW_.out (by kernel_rfl)) (fun _ _ _ h => h) (Or.inl ⟨by rfl, ?_⟩) hHeld ?_ ?_
               rotate_left
               ·rintro w' ⟨s0, s1, s2, s3, s4, s5, s6, s7⟩
                go_simp
                with_reducible rfl
               rotate_left
               ·simp only [Act.put, sI_, s0_, sS_, i64_w, i32_w]
                rfl
               refine pure_ (i := 32) (N := some 60) (v := ?_) (a' := ?_) (tf_ 33 7) rfl rfl (any_of HT_.out (by kernel_rfl)) (fun _ _ _ h => h) (Or.inl ⟨by rfl, ?_⟩) ?_ ?_
               rotate_left
               ·intro w'
                go_simp
                with_reducible rfl
               rotate_left
               ·simp only [Act.put, sI_, s0_, sS_, i64_w, i32_w]
                rfl
               refine pure_ (i := 33) (N := some 61) (v := ?_) (a' := ?_) (tf_ 34 6) rfl rfl (any_of HT_.out (by kernel_rfl)) (fun _ _ _ h => h) (Or.inl ⟨by rfl, ?_⟩) ?_ ?_
               rotate_left
               ·intro w'
                go_simp
                with_reducible rfl
               rotate_left
               ·simp only [Act.put, sI_, s0_, sS_, i64_w, i32_w]
                rfl
               refine pure_ (i := 34) (N := some 62) (v := ?_) (a' := ?_) (tf_ 35 5) rfl rfl (any_of HT_.out (by kernel_rfl)) (fun _ _ _ h => h) (Or.inl ⟨by rfl, ?_⟩) ?_ ?_
               rotate_left
               ·intro w'
                go_simp
                with_reducible rfl
               rotate_left
               ·simp only [Act.put, sI_, s0_, sS_, i64_w, i32_w]
                rfl
               refine pure_ (i := 35) (N := some 63) (v := undef) (a' := ?_) (tf_ 36 4) rfl rfl (any_of HT_.out (by kernel_rfl)) (fun _ _ _ h => h) (Or.inr ⟨by rfl, rfl⟩) ?_ ?_
               rotate_left
               ·simp only [Act.put, sI_, s0_, sS_, i64_w, i32_w]
                rfl
               refine pure_ (i := 36) (N := some 64) (v := undef) (a' := ?_) (tf_ 37 3) rfl rfl (any_of HT_.out (by kernel_rfl)) (fun _ _ _ h => h) (Or.inr ⟨by rfl, rfl⟩) ?_ ?_
               rotate_left
               ·simp only [Act.put, sI_, s0_, sS_, i64_w, i32_w]
                rfl
               refine pure_ (i := 37) (N := some 65) (v := undef) (a' := ?_) (tf_ 38 2) rfl rfl (any_of HT_.out (by kernel_rfl)) (fun _ _ _ h => h) (Or.inr ⟨by rfl, rfl⟩) ?_ ?_
               rotate_left
               ·simp only [Act.put, sI_, s0_, sS_, i64_w, i32_w]
                rfl
               refine pure_ (i := 38) (N := some 66) (v := ?_) (a' := ?_) (tf_ 39 1) rfl rfl (any_of HT_.out (by kernel_rfl)) (fun _ _ _ h => h) (Or.inl ⟨by rfl, ?_⟩) ?_ ?_
               rotate_left
               ·intro w'
                go_simp
                with_reducible rfl
               rotate_left
               ·simp only [Act.put, sI_, s0_, sS_, i64_w, i32_w]
                rfl
               refine pure_ (i := 39) (N := some 67) (v := ?_) (a' := ?_) (tf_ 40 0) rfl rfl (any_of HT_.out (by kernel_rfl)) (fun _ _ _ h => h) (Or.inl ⟨by rfl, ?_⟩) ?_ ?_
               rotate_left
               ·intro w'
                go_simp
                with_reducible rfl
               rotate_left
               ·simp only [Act.put, sI_, s0_, sS_, i64_w, i32_w]
                rfl
               refine done_ (done_of HT_.out (by kernel_rfl)) ?_
               try go_wp2
               go_roundg k2
               case measure => have := HJ1.out; have := HK2.out; omega
               case rel => exact ⟨(wrap64 (x3_2 + 1)), (by first | rfl | (simp; done) | (simp [*]; done)), H', ⟨by have := HJ1.out; have := HK2.out; omega⟩, ⟨by (with_reducible repeat (first | refine blk_drewN ?_ _ | refine blk_drew ?_ | refine blk_alloc ?_ _)); exact BK150.out⟩, ⟨by repeat (first | (with_reducible first | exact HB.out | apply below_alloc | apply pw_below_drewN | apply below_drew1 | refine below_set ?_ GE150.out | refine below_set ?_ GE154.out) | exact HB.out)⟩⟩
              ·rw [if_neg c29] at H
               have c29b0 : ((((rd_T67 l0_1 x3_2).f2).size : Int) == 64) = false := beq_eq_false_iff_ne.mpr c29
               have c29b1 : ((((rd_T67 l0_1 x3_2).f2).size : Int) != 64) = true := bne_iff_ne.mpr c29
               by_cases c37 : ((rd_T67 l0_1 x3_2).f2).toList = ([] : List UInt8)
               ·rw [if_pos c37] at H
                have c37b0 : (((rd_T67 l0_1 x3_2).f2).toList == ([] : List UInt8)) = true := beq_iff_eq.mpr c37
                have c37b1 : (((rd_T67 l0_1 x3_2).f2).toList != ([] : List UInt8)) = false := bne_eq_false_iff_eq.mpr c37
                (try (have c37b2 : ((rd_T67 l0_1 x3_2).f2).toList.isEmpty = true := by simpa using c37))
                (try (have c37b3 : (!((rd_T67 l0_1 x3_2).f2).toList.isEmpty) = false := by simpa using c37))
                clear c37
                have H' := Aside0.mk H
                clear H
                have hcz38_0 : wr.cell? ⟨gb150, 0, none⟩ = some (.string a0_0) := (blk_cell BK150.out 0).trans rfl
                have hcz38_1 : wr.cell? ⟨gb150, 1, none⟩ = some (.slice A0_1 l0_1.length c0_1) := (blk_cell BK150.out 1).trans rfl
                have hfz38_0 := blk_frozen BK150.out 0
                have hfz38_1 := blk_frozen BK150.out 1
                have p153 : 0 ≤ (x3_2 : Int) := of_decide_eq_true (by first | (with_reducible assumption) | assumption)
                have q153 : x3_2 < (l0_1.length : Int) := of_decide_eq_true (by first | (with_reducible assumption) | assumption)
                obtain ⟨ad153, e153, hx153_0, hx153_1, hx153_2⟩ := at_T67 HR0_1.out x3_2 p153 q153
                cases e153
                replace hx153_0 := (HB.out.cell (World.block_lt_of_cell? w _ hx153_0)).trans hx153_0
                replace hx153_1 := (HB.out.cell (World.block_lt_of_cell? w _ hx153_1)).trans hx153_1
                replace hx153_2 := (HB.out.cell (World.block_lt_of_cell? w _ hx153_2)).trans hx153_2
                replace p153 := eq_true p153
                replace q153 := eq_true q153
                try go_wp2_with (first | ((with_reducible refine gate_dst (N := 4) rfl ?_); (try (refine gate_guard (by rfl) ?_; dsimp only)); refine box_event ?hg (N := 4) ?hd (cs := #[.int .i64 0, .string (⟨#[]⟩ : ByteArray), .string (⟨#[]⟩ : ByteArray)]) (t := 67) ?hr ?_; (case hd => rfl); (case hg => rfl); (case hr => first | (go_simp; done) | (go_simp; rfl)); intro gb154 hg w39 hbox hb; have n0_ := Aside0.mk (blk_below (g := gb150) (o := .cells #[.string a0_0, .slice (some ad153) l0_1.length c0_1] 30 (0, 0)) (by (with_reducible repeat (first | refine blk_drewN ?_ _ | refine blk_drew ?_ | refine blk_alloc ?_ _)); exact BK150.out) hb); have n1_ := Aside0.mk (below_step (by repeat (first | (with_reducible first | exact HB.out | apply below_alloc | apply pw_below_drewN | apply below_drew1 | refine below_set ?_ GE150.out) | exact HB.out)) hb); have n2_ := Aside0.mk (hbox); have n3_ := Aside0.mk ((by rw [hg]; exact (below_size (by repeat (first | (with_reducible first | exact HB.out | apply below_alloc | apply pw_below_drewN | apply below_drew1 | refine below_set ?_ GE150.out) | exact HB.out))) : w.heap.size ≤ gb154)); have n4_ := Aside0.mk ((by rw [hg]; exact (below_size (by repeat (first | (with_reducible first | exact HB.out | apply below_alloc | apply pw_below_drewN | apply below_drew1 | refine below_set ?_ GE150.out) | exact HB.out))) : w.heap.size ≤ gb154)); have n5_ := Aside0.mk ((by rw [hg]; exact Nat.ne_of_lt (blk_lt (g := gb150) (o := .cells #[.string a0_0, .slice (some ad153) l0_1.length c0_1] 30 (0, 0)) (by (with_reducible repeat (first | refine blk_drewN ?_ _ | refine blk_drew ?_ | refine blk_alloc ?_ _)); exact BK150.out)) : gb150 ≠ gb154)); have n6_ := Aside0.mk ((by rw [hg]; exact Nat.ne_of_gt (blk_lt (g := gb150) (o := .cells #[.string a0_0, .slice (some ad153) l0_1.length c0_1] 30 (0, 0)) (by (with_reducible repeat (first | refine blk_drewN ?_ _ | refine blk_drew ?_ | refine blk_alloc ?_ _)); exact BK150.out)) : gb154 ≠ gb150)); clear BK150; clear HB; have BK150 := n0_; have HB := n1_; have BK154 := n2_; have GW154 := n3_; have GE154 := n4_; have NB150_154 := n5_; have NB154_150 := n6_; clear n0_ n1_ n2_ n3_ n4_ n5_ n6_; clear hb hbox hg; have hnb40 := NB154_150.out; have hnc40 := NB150_154.out; have hcz41_0 : w39.cell? ⟨gb154, 0, none⟩ = some (.int .i64 0) := (blk_cell BK154.out 0).trans rfl; have hcz41_1 : w39.cell? ⟨gb154, 1, none⟩ = some (.string (⟨#[]⟩ : ByteArray)) := (blk_cell BK154.out 1).trans rfl; have hcz41_2 : w39.cell? ⟨gb154, 2, none⟩ = some (.string (⟨#[]⟩ : ByteArray)) := (blk_cell BK154.out 2).trans rfl; have hfz41_0 := blk_frozen BK154.out 0; have hfz41_1 := blk_frozen BK154.out 1; have hfz41_2 := blk_frozen BK154.out 2))
                have n0_ : Aside0 ((((w39.setCell ⟨gb154, 0, none⟩ (.int .i64 ((rd_T67 l0_1 x3_2).f0))).setCell ⟨gb154, 1, none⟩ (.string ((rd_T67 l0_1 x3_2).f1))).setCell ⟨gb154, 2, none⟩ (.string ((rd_T67 l0_1 x3_2).f2))).heap[gb150]? = some (.cells #[.string a0_0, .slice (some ad153) l0_1.length c0_1] 30 (0, 0))) := ⟨by (with_reducible repeat (first | refine blk_drewN ?_ _ | refine blk_drew ?_ | refine blk_alloc ?_ _)); refine blk_far ?_ NB150_154.out _; (with_reducible repeat (first | refine blk_drewN ?_ _ | refine blk_drew ?_ | refine blk_alloc ?_ _)); refine blk_far ?_ NB150_154.out _; (with_reducible repeat (first | refine blk_drewN ?_ _ | refine blk_drew ?_ | refine blk_alloc ?_ _)); refine blk_far ?_ NB150_154.out _; (with_reducible repeat (first | refine blk_drewN ?_ _ | refine blk_drew ?_ | refine blk_alloc ?_ _)); exact BK150.out⟩
                have n1_ : Aside0 ((((w39.setCell ⟨gb154, 0, none⟩ (.int .i64 ((rd_T67 l0_1 x3_2).f0))).setCell ⟨gb154, 1, none⟩ (.string ((rd_T67 l0_1 x3_2).f1))).setCell ⟨gb154, 2, none⟩ (.string ((rd_T67 l0_1 x3_2).f2))).heap[gb154]? = some (.cells #[.int .i64 ((rd_T67 l0_1 x3_2).f0), .string ((rd_T67 l0_1 x3_2).f1), .string ((rd_T67 l0_1 x3_2).f2)] 67 (0, 0))) := ⟨by (with_reducible repeat (first | refine blk_drewN ?_ _ | refine blk_drew ?_ | refine blk_alloc ?_ _)); refine blk_put (cs := #[.int .i64 ((rd_T67 l0_1 x3_2).f0), .string ((rd_T67 l0_1 x3_2).f1), .string (⟨#[]⟩ : ByteArray)]) ?_ 2 _ rfl; (with_reducible repeat (first | refine blk_drewN ?_ _ | refine blk_drew ?_ | refine blk_alloc ?_ _)); refine blk_put (cs := #[.int .i64 ((rd_T67 l0_1 x3_2).f0), .string (⟨#[]⟩ : ByteArray), .string (⟨#[]⟩ : ByteArray)]) ?_ 1 _ rfl; (with_reducible repeat (first | refine blk_drewN ?_ _ | refine blk_drew ?_ | refine blk_alloc ?_ _)); refine blk_put (cs := #[.int .i64 0, .string (⟨#[]⟩ : ByteArray), .string (⟨#[]⟩ : ByteArray)]) ?_ 0 _ rfl; (with_reducible repeat (first | refine blk_drewN ?_ _ | refine blk_drew ?_ | refine blk_alloc ?_ _)); exact BK154.out⟩
                have n2_ : Aside0 (Below w.heap.size w (((w39.setCell ⟨gb154, 0, none⟩ (.int .i64 ((rd_T67 l0_1 x3_2).f0))).setCell ⟨gb154, 1, none⟩ (.string ((rd_T67 l0_1 x3_2).f1))).setCell ⟨gb154, 2, none⟩ (.string ((rd_T67 l0_1 x3_2).f2)))) := ⟨by repeat (first | (with_reducible first | exact HB.out | apply below_alloc | apply pw_below_drewN | apply below_drew1 | refine below_set ?_ GE150.out | refine below_set ?_ GE154.out) | exact HB.out)⟩
                (try clear BK150)
                (try clear BK154)
                (try clear HB)
                generalize (((w39.setCell ⟨gb154, 0, none⟩ (.int .i64 ((rd_T67 l0_1 x3_2).f0))).setCell ⟨gb154, 1, none⟩ (.string ((rd_T67 l0_1 x3_2).f1))).setCell ⟨gb154, 2, none⟩ (.string ((rd_T67 l0_1 x3_2).f2))) = w42 at n0_ n1_ n2_ ⊢
                have BK150 := n0_
                have BK154 := n1_
                have HB := n2_
                clear n0_ n1_ n2_
                have n0_ := Aside0.mk (blk_drew BK150.out)
                have n1_ := Aside0.mk (blk_drew BK154.out)
                have n2_ := Aside0.mk (below_drew1 HB.out)
                clear BK150
                clear BK154
                clear HB
                have BK150 := n0_
                have BK154 := n1_
                have HB := n2_
                clear n0_ n1_ n2_
                have p157 : 0 ≤ ((ji17) : Int) := of_decide_eq_true (by first | (with_reducible assumption) | assumption)
                have q157 : (ji17) < (l0_1.length : Int) := of_decide_eq_true (by first | (with_reducible assumption) | assumption)
                obtain ⟨ad157, e157, hx157_0, hx157_1, hx157_2⟩ := at_T67 HR0_1.out (ji17) p157 q157
                have hw157_2 := hx157_2
                have hw157_1 := hx157_1
                have hw157_0 := hx157_0
                obtain rfl : ad153 = ad157 := (by injection e157)
                replace hx157_0 := (HB.out.cell (World.block_lt_of_cell? w _ hx157_0)).trans hx157_0
                replace hx157_1 := (HB.out.cell (World.block_lt_of_cell? w _ hx157_1)).trans hx157_1
                replace hx157_2 := (HB.out.cell (World.block_lt_of_cell? w _ hx157_2)).trans hx157_2
                replace p157 := eq_true p157
                replace q157 := eq_true q157
                refine start_ (n := 40) (S := fun w' => w'.cell? ⟨gb154, 0, none⟩ = some (.int .i64 ((rd_T67 l0_1 x3_2).f0)) ∧ w'.cell? ⟨gb154, 1, none⟩ = some (.string ((rd_T67 l0_1 x3_2).f1)) ∧ w'.cell? ⟨gb154, 2, none⟩ = some (.string ((rd_T67 l0_1 x3_2).f2)) ∧ w'.cell? ⟨gb150, 0, none⟩ = some (.string a0_0) ∧ w'.cell? ⟨gb150, 1, none⟩ = some (.slice (some ad153) l0_1.length c0_1) ∧ w'.cell? (ad153.add (((ji17)).toNat * 3)) = some (.int .i64 ((rd_T67 l0_1 (ji17)).f0)) ∧ w'.cell? ⟨(ad153.add (((ji17)).toNat * 3)).block, (ad153.add (((ji17)).toNat * 3)).off + 1, none⟩ = some (.string ((rd_T67 l0_1 (ji17)).f1)) ∧ w'.cell? ⟨(ad153.add (((ji17)).toNat * 3)).block, (ad153.add (((ji17)).toNat * 3)).off + 2, none⟩ = some (.string ((rd_T67 l0_1 (ji17)).f2))) (ds := []) (tf_ 0 40) (by kernel_rfl) rfl rfl ⟨(blk_cell BK154.out 0).trans rfl, (blk_cell BK154.out 1).trans rfl, (blk_cell BK154.out 2).trans rfl, (blk_cell BK150.out 0).trans rfl, (blk_cell BK150.out 1).trans rfl, ((HB.out.cell (World.block_lt_of_cell? w _ hw157_0)).trans hw157_0), ((HB.out.cell (World.block_lt_of_cell? w _ hw157_1)).trans hw157_1), ((HB.out.cell (World.block_lt_of_cell? w _ hw157_2)).trans hw157_2)⟩ (fun hHeld => ?_); refine with_tabW spec_DeviceOk.tab7 spec_DeviceOk.bits7 (fun HT_ HW_ => ?_)
                generalize w42.drew = w43 at BK150 BK154 HB hx157_0 hx157_1 hx157_2 hHeld ⊢
                refine pure_ (i := 0) (N := some 28) (v := ?_) (a' := ?_) (tf_ 1 39) rfl rfl (any_of HT_.out (by kernel_rfl)) (fun _ _ _ h => h) (Or.inl ⟨by rfl, ?_⟩) ?_ ?_
                rotate_left
                ·intro w'
                 go_simp
                 with_reducible rfl
                rotate_left
                ·simp only [Act.put, sI_, s0_, sS_, i64_w, i32_w]
                 rfl
                refine take_ (i := 1) (N := some 29) (v := ?_) (a' := ?_) (tf_ 2 38) rfl rfl (take_ofW HT_.out HW_.out (by kernel_rfl)) (fun _ _ _ h => h) (Or.inl ⟨by rfl, ?_⟩) hHeld ?_ ?_
                rotate_left
                ·rintro w' ⟨s0, s1, s2, s3, s4, s5, s6, s7⟩
                 go_simp
                 with_reducible rfl
                rotate_left
                ·simp only [Act.put, sI_, s0_, sS_, i64_w, i32_w]
                 rfl
                refine take_ (i := 2) (N := some 30) (v := ?_) (a' := ?_) (tf_ 3 37) rfl rfl (take_ofW HT_.out HW_.out (by kernel_rfl)) (fun _ _ _ h => h) (Or.inl ⟨by rfl, ?_⟩) hHeld ?_ ?_
                rotate_left
                ·rintro w' ⟨s0, s1, s2, s3, s4, s5, s6, s7⟩
                 go_simp
                 with_reducible rfl
                rotate_left
                ·simp only [Act.put, sI_, s0_, sS_, i64_w, i32_w]
                 rfl
                refine one_ (i := 3) (N := some 31) (tf_ 4 36) rfl rfl (one_of HT_.out (by kernel_rfl)) (by decide) (fun K hK => ?_)
                refine goes_ Try.func71 (by kernel_rfl) rfl #[.agg #[.string a0_0, .slice (some ad153) l0_1.length c0_1]] (by rfl) rfl rfl (by (try simp only [List.map_toArray, List.map_cons, List.map_nil]); first | done | rfl | (simp only [List.length_drop, List.length_take]; rfl)) ?_
                with_reducible refine (spec_l2Count.calls a0_0 _ _ l0_1 t155 _ ?side1 ?side2 A13.out).mono ?_
                (case side1 => repeat (first | exact (Kd.C_below HR0_1.out HB.out) | (with_reducible refine Kd.C_alloc ?_ _) | (with_reducible refine Kd.C_drewN ?_ _) | (with_reducible refine Kd.C_drew ?_)))
                (case side2 => exact HC0_1.out)
                rintro e w44 ⟨rfl, hb⟩
                refine ⟨_, rfl, ?_⟩
                have n0_ := Aside0.mk (blk_below (g := gb150) (o := .cells #[.string a0_0, .slice (some ad153) l0_1.length c0_1] 30 (0, 0)) (by (with_reducible repeat (first | refine blk_drewN ?_ _ | refine blk_drew ?_ | refine blk_alloc ?_ _)); exact BK150.out) hb)
                have n1_ := Aside0.mk (blk_below (g := gb154) (o := .cells #[.int .i64 ((rd_T67 l0_1 x3_2).f0), .string ((rd_T67 l0_1 x3_2).f1), .string ((rd_T67 l0_1 x3_2).f2)] 67 (0, 0)) (by (with_reducible repeat (first | refine blk_drewN ?_ _ | refine blk_drew ?_ | refine blk_alloc ?_ _)); exact BK154.out) hb)
                have n2_ := Aside0.mk (below_step (by repeat (first | (with_reducible first | exact HB.out | apply below_alloc | apply pw_below_drewN | apply below_drew1 | refine below_set ?_ GE150.out | refine below_set ?_ GE154.out) | exact HB.out)) hb)
                clear BK150
                clear BK154
                clear HB
                have BK150 := n0_
                have BK154 := n1_
                have HB := n2_
                clear n0_ n1_ n2_
                (try clear hb)
                (try clear hb2)
                (try clear hk)
                (try clear hi)
                refine hK.out _ _ ⟨(blk_cell BK154.out 0).trans rfl, (blk_cell BK154.out 1).trans rfl, (blk_cell BK154.out 2).trans rfl, (blk_cell BK150.out 0).trans rfl, (blk_cell BK150.out 1).trans rfl, ((HB.out.cell (World.block_lt_of_cell? w _ hw157_0)).trans hw157_0), ((HB.out.cell (World.block_lt_of_cell? w _ hw157_1)).trans hw157_1), ((HB.out.cell (World.block_lt_of_cell? w _ hw157_2)).trans hw157_2)⟩ (fun hHeld => ?_)
                clear hK K
                refine norm_ (a' := ?_) ?_ ?_
                rotate_left
                ·show Act.put _ (some 31) _ = _
                 simp only [Act.put, sI_, s0_, sS_, i64_w, i32_w]
                 rfl
                refine pure_ (i := 4) (N := some 32) (v := ?_) (a' := ?_) (tf_ 5 35) rfl rfl (any_of HT_.out (by kernel_rfl)) (fun _ _ _ h => h) (Or.inl ⟨by rfl, ?_⟩) ?_ ?_
                rotate_left
                ·intro w'
                 go_simp
                 with_reducible rfl
                rotate_left
                ·simp only [Act.put, sI_, s0_, sS_, i64_w, i32_w]
                 rfl
                refine one_ (i := 5) (N := some 33) (tf_ 6 34) rfl rfl (one_of HT_.out (by kernel_rfl)) (by decide) (fun K hK => ?_)
                refine goes_ Try.func70 (by kernel_rfl) rfl #[.int .i64 ((rd_T67 l0_1 x3_2).f0), .int .i64 0, .int .i64 (wrap64 (t155 - 1))] (by rfl) rfl rfl (by (try simp only [List.map_toArray, List.map_cons, List.map_nil]); first | done | rfl | (simp only [List.length_drop, List.length_take]; rfl) | ((try simp only [decide_eq_false_iff_not, decide_eq_true_eq, eq_iff_iff, iff_true, iff_false, Int.not_lt, Int.not_le, Nat.not_lt, Nat.not_le, ByteArray.size_append, ByteArray.size_extract] at *); (rw [show wrap64 (t155 - 1) = t155 - 1 from by unfold Go.RowKit.wrap64; omega]); rfl)) ?_
                with_reducible refine (spec_l1In.calls ((rd_T67 l0_1 x3_2).f0) 0 (wrap64 (t155 - 1)) true _ A14.out).mono ?_
                rintro e w' ⟨rfl, ⟨nd, rfl⟩⟩
                refine ⟨_, rfl, ?_⟩
                refine hK.out _ _ ⟨(blk_cell BK154.out 0).trans rfl, (blk_cell BK154.out 1).trans rfl, (blk_cell BK154.out 2).trans rfl, (blk_cell BK150.out 0).trans rfl, (blk_cell BK150.out 1).trans rfl, ((HB.out.cell (World.block_lt_of_cell? w _ hw157_0)).trans hw157_0), ((HB.out.cell (World.block_lt_of_cell? w _ hw157_1)).trans hw157_1), ((HB.out.cell (World.block_lt_of_cell? w _ hw157_2)).trans hw157_2)⟩ (fun hHeld => ?_)
                clear hK K
                refine norm_ (a' := ?_) ?_ ?_
                rotate_left
                ·show Act.put _ (some 33) _ = _
                 simp only [Act.put, sI_, s0_, sS_, i64_w, i32_w]
                 rfl
                refine pure_ (i := 6) (N := some 34) (v := ?_) (a' := ?_) (tf_ 7 33) rfl rfl (any_of HT_.out (by kernel_rfl)) (fun _ _ _ h => h) (Or.inl ⟨by rfl, ?_⟩) ?_ ?_
                rotate_left
                ·intro w'
                 go_simp
                 with_reducible rfl
                rotate_left
                ·simp only [Act.put, sI_, s0_, sS_, i64_w, i32_w]
                 rfl
                refine pure_ (i := 7) (N := some 35) (v := ?_) (a' := ?_) (tf_ 8 32) rfl rfl (any_of HT_.out (by kernel_rfl)) (fun _ _ _ h => h) (Or.inl ⟨by rfl, ?_⟩) ?_ ?_
                rotate_left
                ·intro w'
                 go_simp
                 with_reducible rfl
                rotate_left
                ·simp only [Act.put, sI_, s0_, sS_, i64_w, i32_w]
                 rfl
                refine pure_ (i := 8) (N := some 36) (v := ?_) (a' := ?_) (tf_ 9 31) rfl rfl (any_of HT_.out (by kernel_rfl)) (fun _ _ _ h => h) (Or.inl ⟨by rfl, ?_⟩) ?_ ?_
                rotate_left
                ·intro w'
                 go_simp
                 with_reducible rfl
                rotate_left
                ·simp only [Act.put, sI_, s0_, sS_, i64_w, i32_w]
                 rfl
                refine pure_ (i := 9) (N := some 37) (v := ?_) (a' := ?_) (tf_ 10 30) rfl rfl (any_of HT_.out (by kernel_rfl)) (fun _ _ _ h => h) (Or.inl ⟨by rfl, ?_⟩) ?_ ?_
                rotate_left
                ·intro w'
                 go_simp
                 with_reducible rfl
                rotate_left
                ·simp only [Act.put, sI_, s0_, sS_, i64_w, i32_w]
                 rfl
                refine pure_ (i := 10) (N := some 38) (v := ?_) (a' := ?_) (tf_ 11 29) rfl rfl (any_of HT_.out (by kernel_rfl)) (fun _ _ _ h => h) (Or.inl ⟨by rfl, ?_⟩) ?_ ?_
                rotate_left
                ·intro w'
                 go_simp
                 with_reducible rfl
                rotate_left
                ·simp only [Act.put, sI_, s0_, sS_, i64_w, i32_w]
                 rfl
                refine pure_ (i := 11) (N := some 39) (v := ?_) (a' := ?_) (tf_ 12 28) rfl rfl (any_of HT_.out (by kernel_rfl)) (fun _ _ _ h => h) (Or.inl ⟨by rfl, ?_⟩) ?_ ?_
                rotate_left
                ·intro w'
                 go_simp
                 with_reducible rfl
                rotate_left
                ·simp only [Act.put, sI_, s0_, sS_, i64_w, i32_w]
                 rfl
                refine pure_ (i := 13) (N := some 41) (v := ?_) (a' := ?_) #[true, true, true, true, true, true, true, true, true, true, true, true, false, true, false, false, false, false, false, false, false, false, false, false, false, false, false, false, false, false, false, false, false, false, false, false, false, false, false, false] rfl rfl (any_of HT_.out (by kernel_rfl)) (fun _ _ _ h => h) (Or.inl ⟨by rfl, ?_⟩) ?_ ?_
                rotate_left
                ·intro w'
                 go_simp
                 with_reducible rfl
                rotate_left
                ·simp only [Act.put, sI_, s0_, sS_, i64_w, i32_w]
                 rfl
                refine pure_ (i := 15) (N := some 43) (v := ?_) (a' := ?_) #[true, true, true, true, true, true, true, true, true, true, true, true, false, true, false, true, false, false, false, false, false, false, false, false, false, false, false, false, false, false, false, false, false, false, false, false, false, false, false, false] rfl rfl (any_of HT_.out (by kernel_rfl)) (fun _ _ _ h => h) (Or.inl ⟨by rfl, ?_⟩) ?_ ?_
                rotate_left
                ·intro w'
                 go_simp
                 with_reducible rfl
                rotate_left
                ·simp only [Act.put, sI_, s0_, sS_, i64_w, i32_w]
                 rfl
                refine pure_ (i := 16) (N := some 44) (v := ?_) (a' := ?_) #[true, true, true, true, true, true, true, true, true, true, true, true, false, true, false, true, true, false, false, false, false, false, false, false, false, false, false, false, false, false, false, false, false, false, false, false, false, false, false, false] rfl rfl (any_of HT_.out (by kernel_rfl)) (fun _ _ _ h => h) (Or.inl ⟨by rfl, ?_⟩) ?_ ?_
                rotate_left
                ·intro w'
                 go_simp
                 with_reducible rfl
                rotate_left
                ·simp only [Act.put, sI_, s0_, sS_, i64_w, i32_w]
                 rfl
                refine take_ (i := 12) (N := some 40) (v := ?_) (a' := ?_) #[true, true, true, true, true, true, true, true, true, true, true, true, true, true, false, true, true, false, false, false, false, false, false, false, false, false, false, false, false, false, false, false, false, false, false, false, false, false, false, false] rfl rfl (take_ofW HT_.out HW_.out (by kernel_rfl)) (fun _ _ _ h => h) (Or.inl ⟨by rfl, ?_⟩) hHeld ?_ ?_
                rotate_left
                ·rintro w' ⟨s0, s1, s2, s3, s4, s5, s6, s7⟩
                 go_simp
                 with_reducible rfl
                rotate_left
                ·simp only [Act.put, sI_, s0_, sS_, i64_w, i32_w]
                 rfl
                refine take_ (i := 14) (N := some 42) (v := ?_) (a' := ?_) (tf_ 17 23) rfl rfl (take_ofW HT_.out HW_.out (by kernel_rfl)) (fun _ _ _ h => h) (Or.inl ⟨by rfl, ?_⟩) hHeld ?_ ?_
                rotate_left
                ·rintro w' ⟨s0, s1, s2, s3, s4, s5, s6, s7⟩
                 go_simp
                 with_reducible rfl
                rotate_left
                ·simp only [Act.put, sI_, s0_, sS_, i64_w, i32_w]
                 rfl
                refine pure_ (i := 17) (N := some 45) (v := ?_) (a' := ?_) (tf_ 18 22) rfl rfl (any_of HT_.out (by kernel_rfl)) (fun _ _ _ h => h) (Or.inl ⟨by rfl, ?_⟩) ?_ ?_
                rotate_left
                ·intro w'
                 go_simp
                 with_reducible rfl
                rotate_left
                ·simp only [Act.put, sI_, s0_, sS_, i64_w, i32_w]
                 rfl
                refine pure_ (i := 18) (N := some 46) (v := ?_) (a' := ?_) (tf_ 19 21) rfl rfl (any_of HT_.out (by kernel_rfl)) (fun _ _ _ h => h) (Or.inl ⟨by rfl, ?_⟩) ?_ ?_
                rotate_left
                ·intro w'
                 go_simp
                 with_reducible rfl
                rotate_left
                ·simp only [Act.put, sI_, s0_, sS_, i64_w, i32_w]
                 rfl
                refine take_ (i := 19) (N := some 47) (v := ?_) (a' := ?_) (tf_ 20 20) rfl rfl (take_ofW HT_.out HW_.out (by kernel_rfl)) (fun _ _ _ h => h) (Or.inl ⟨by rfl, ?_⟩) hHeld ?_ ?_
                rotate_left
                ·rintro w' ⟨s0, s1, s2, s3, s4, s5, s6, s7⟩
                 go_simp
                 with_reducible rfl
                rotate_left
                ·simp only [Act.put, sI_, s0_, sS_, i64_w, i32_w]
                 rfl
                refine pure_ (i := 20) (N := some 48) (v := ?_) (a' := ?_) (tf_ 21 19) rfl rfl (any_of HT_.out (by kernel_rfl)) (fun _ _ _ h => h) (Or.inl ⟨by rfl, ?_⟩) ?_ ?_
                rotate_left
                ·intro w'
                 go_simp
                 with_reducible rfl
                rotate_left
                ·simp only [Act.put, sI_, s0_, sS_, i64_w, i32_w]
                 rfl
                refine pure_ (i := 21) (N := some 49) (v := ?_) (a' := ?_) (tf_ 22 18) rfl rfl (any_of HT_.out (by kernel_rfl)) (fun _ _ _ h => h) (Or.inl ⟨by rfl, ?_⟩) ?_ ?_
                rotate_left
                ·intro w'
                 go_simp
                 with_reducible rfl
                rotate_left
                ·simp only [Act.put, sI_, s0_, sS_, i64_w, i32_w]
                 rfl
                refine pure_ (i := 22) (N := some 50) (v := ?_) (a' := ?_) (tf_ 23 17) rfl rfl (any_of HT_.out (by kernel_rfl)) (fun _ _ _ h => h) (Or.inl ⟨by rfl, ?_⟩) ?_ ?_
                rotate_left
                ·intro w'
                 go_simp
                 with_reducible rfl
                rotate_left
                ·simp only [Act.put, sI_, s0_, sS_, i64_w, i32_w]
                 rfl
                refine pure_ (i := 23) (N := some 51) (v := ?_) (a' := ?_) (tf_ 24 16) rfl rfl (any_of HT_.out (by kernel_rfl)) (fun _ _ _ h => h) (Or.inl ⟨by rfl, ?_⟩) ?_ ?_
                rotate_left
                ·intro w'
                 go_simp
                 with_reducible rfl
                rotate_left
                ·simp only [Act.put, sI_, s0_, sS_, i64_w, i32_w]
                 rfl
                refine pure_ (i := 24) (N := some 52) (v := ?_) (a' := ?_) (tf_ 25 15) rfl rfl (any_of HT_.out (by kernel_rfl)) (fun _ _ _ h => h) (Or.inl ⟨by rfl, ?_⟩) ?_ ?_
                rotate_left
                ·intro w'
                 go_simp
                 with_reducible rfl
                rotate_left
                ·simp only [Act.put, sI_, s0_, sS_, i64_w, i32_w]
                 rfl
                refine take_ (i := 25) (N := some 53) (v := ?_) (a' := ?_) (tf_ 26 14) rfl rfl (take_ofW HT_.out HW_.out (by kernel_rfl)) (fun _ _ _ h => h) (Or.inl ⟨by rfl, ?_⟩) hHeld ?_ ?_
                rotate_left
                ·rintro w' ⟨s0, s1, s2, s3, s4, s5, s6, s7⟩
                 go_simp
                 with_reducible rfl
                rotate_left
                ·simp only [Act.put, sI_, s0_, sS_, i64_w, i32_w]
                 rfl
                refine pure_ (i := 26) (N := some 54) (v := ?_) (a' := ?_) (tf_ 27 13) rfl rfl (any_of HT_.out (by kernel_rfl)) (fun _ _ _ h => h) (Or.inl ⟨by rfl, ?_⟩) ?_ ?_
                rotate_left
                ·intro w'
                 go_simp
                 with_reducible rfl
                rotate_left
                ·simp only [Act.put, sI_, s0_, sS_, i64_w, i32_w]
                 rfl
                refine pure_ (i := 27) (N := some 55) (v := ?_) (a' := ?_) (tf_ 28 12) rfl rfl (any_of HT_.out (by kernel_rfl)) (fun _ _ _ h => h) (Or.inl ⟨by rfl, ?_⟩) ?_ ?_
                rotate_left
                ·intro w'
                 go_simp
                 with_reducible rfl
                rotate_left
                ·simp only [Act.put, sI_, s0_, sS_, i64_w, i32_w]
                 rfl
                refine pure_ (i := 28) (N := some 56) (v := ?_) (a' := ?_) (tf_ 29 11) rfl rfl (any_of HT_.out (by kernel_rfl)) (fun _ _ _ h => h) (Or.inl ⟨by rfl, ?_⟩) ?_ ?_
                rotate_left
                ·intro w'
                 go_simp
                 with_reducible rfl
                rotate_left
                ·simp only [Act.put, sI_, s0_, sS_, i64_w, i32_w]
                 rfl
                refine pure_ (i := 29) (N := some 57) (v := ?_) (a' := ?_) (tf_ 30 10) rfl rfl (any_of HT_.out (by kernel_rfl)) (fun _ _ _ h => h) (Or.inl ⟨by rfl, ?_⟩) ?_ ?_
                rotate_left
                ·intro w'
                 go_simp
                 with_reducible rfl
                rotate_left
                ·simp only [Act.put, sI_, s0_, sS_, i64_w, i32_w]
                 rfl
                refine pure_ (i := 30) (N := some 58) (v := ?_) (a' := ?_) (tf_ 31 9) rfl rfl (any_of HT_.out (by kernel_rfl)) (fun _ _ _ h => h) (Or.inl ⟨by rfl, ?_⟩) ?_ ?_
                rotate_left
                ·intro w'
                 go_simp
                 with_reducible rfl
                rotate_left
                ·simp only [Act.put, sI_, s0_, sS_, i64_w, i32_w]
                 rfl
                refine take_ (i := 31) (N := some 59) (v := ?_) (a' := ?_) (tf_ 32 8) rfl rfl (take_ofW HT_.out HW_.out (by kernel_rfl)) (fun _ _ _ h => h) (Or.inl ⟨by rfl, ?_⟩) hHeld ?_ ?_
                rotate_left
                ·rintro w' ⟨s0, s1, s2, s3, s4, s5, s6, s7⟩
                 go_simp
                 with_reducible rfl
                rotate_left
                ·simp only [Act.put, sI_, s0_, sS_, i64_w, i32_w]
                 rfl
                refine pure_ (i := 32) (N := some 60) (v := ?_) (a' := ?_) (tf_ 33 7) rfl rfl (any_of HT_.out (by kernel_rfl)) (fun _ _ _ h => h) (Or.inl ⟨by rfl, ?_⟩) ?_ ?_
                rotate_left
                ·intro w'
                 go_simp
                 with_reducible rfl
                rotate_left
                ·simp only [Act.put, sI_, s0_, sS_, i64_w, i32_w]
                 rfl
                refine pure_ (i := 33) (N := some 61) (v := ?_) (a' := ?_) (tf_ 34 6) rfl rfl (any_of HT_.out (by kernel_rfl)) (fun _ _ _ h => h) (Or.inl ⟨by rfl, ?_⟩) ?_ ?_
                rotate_left
                ·intro w'
                 go_simp
                 with_reducible rfl
                rotate_left
                ·simp only [Act.put, sI_, s0_, sS_, i64_w, i32_w]
                 rfl
                refine pure_ (i := 34) (N := some 62) (v := ?_) (a' := ?_) (tf_ 35 5) rfl rfl (any_of HT_.out (by kernel_rfl)) (fun _ _ _ h => h) (Or.inl ⟨by rfl, ?_⟩) ?_ ?_
                rotate_left
                ·intro w'
                 go_simp
                 with_reducible rfl
                rotate_left
                ·simp only [Act.put, sI_, s0_, sS_, i64_w, i32_w]
                 rfl
                refine pure_ (i := 35) (N := some 63) (v := ?_) (a' := ?_) (tf_ 36 4) rfl rfl (any_of HT_.out (by kernel_rfl)) (fun _ _ _ h => h) (Or.inl ⟨by rfl, ?_⟩) ?_ ?_
                rotate_left
                ·intro w'
                 go_simp
                 with_reducible rfl
                rotate_left
                ·simp only [Act.put, sI_, s0_, sS_, i64_w, i32_w]
                 rfl
                refine take_ (i := 36) (N := some 64) (v := ?_) (a' := ?_) (tf_ 37 3) rfl rfl (take_ofW HT_.out HW_.out (by kernel_rfl)) (fun _ _ _ h => h) (Or.inl ⟨by rfl, ?_⟩) hHeld ?_ ?_
                rotate_left
                ·rintro w' ⟨s0, s1, s2, s3, s4, s5, s6, s7⟩
                 go_simp
                 with_reducible rfl
                rotate_left
                ·simp only [Act.put, sI_, s0_, sS_, i64_w, i32_w]
                 rfl
                refine pure_ (i := 37) (N := some 65) (v := ?_) (a' := ?_) (tf_ 38 2) rfl rfl (any_of HT_.out (by kernel_rfl)) (fun _ _ _ h => h) (Or.inl ⟨by rfl, ?_⟩) ?_ ?_
                rotate_left
                ·intro w'
                 go_simp
                 with_reducible rfl
                rotate_left
                ·simp only [Act.put, sI_, s0_, sS_, i64_w, i32_w]
                 rfl
                refine pure_ (i := 38) (N := some 66) (v := ?_) (a' := ?_) (tf_ 39 1) rfl rfl (any_of HT_.out (by kernel_rfl)) (fun _ _ _ h => h) (Or.inl ⟨by rfl, ?_⟩) ?_ ?_
                rotate_left
                ·intro w'
                 go_simp
                 with_reducible rfl
                rotate_left
                ·simp only [Act.put, sI_, s0_, sS_, i64_w, i32_w]
                 rfl
                refine pure_ (i := 39) (N := some 67) (v := ?_) (a' := ?_) (tf_ 40 0) rfl rfl (any_of HT_.out (by kernel_rfl)) (fun _ _ _ h => h) (Or.inl ⟨by rfl, ?_⟩) ?_ ?_
                rotate_left
                ·intro w'
                 go_simp
                 with_reducible rfl
                rotate_left
                ·simp only [Act.put, sI_, s0_, sS_, i64_w, i32_w]
                 rfl
                refine done_ (done_of HT_.out (by kernel_rfl)) ?_
                try go_wp2
                go_roundg k2
                case measure => have := HJ1.out; have := HK2.out; omega
                case rel => exact ⟨(wrap64 (x3_2 + 1)), (by first | rfl | (simp; done) | (simp [*]; done)), H', ⟨by have := HJ1.out; have := HK2.out; omega⟩, ⟨by (with_reducible repeat (first | refine blk_drewN ?_ _ | refine blk_drew ?_ | refine blk_alloc ?_ _)); exact BK150.out⟩, ⟨by repeat (first | (with_reducible first | exact HB.out | apply below_alloc | apply pw_below_drewN | apply below_drew1 | refine below_set ?_ GE150.out | refine below_set ?_ GE154.out) | exact HB.out)⟩⟩
               ·rw [if_neg c37] at H
                have c37b0 : (((rd_T67 l0_1 x3_2).f2).toList == ([] : List UInt8)) = false := beq_eq_false_iff_ne.mpr c37
                have c37b1 : (((rd_T67 l0_1 x3_2).f2).toList != ([] : List UInt8)) = true := bne_iff_ne.mpr c37
                (try (have c37b2 : ((rd_T67 l0_1 x3_2).f2).toList.isEmpty = false := by simpa using c37))
                (try (have c37b3 : (!((rd_T67 l0_1 x3_2).f2).toList.isEmpty) = true := by simpa using c37))
                obtain rfl := Option.some.inj H
                have hcz45_0 : wr.cell? ⟨gb150, 0, none⟩ = some (.string a0_0) := (blk_cell BK150.out 0).trans rfl
                have hcz45_1 : wr.cell? ⟨gb150, 1, none⟩ = some (.slice A0_1 l0_1.length c0_1) := (blk_cell BK150.out 1).trans rfl
                have hfz45_0 := blk_frozen BK150.out 0
                have hfz45_1 := blk_frozen BK150.out 1
                have p153 : 0 ≤ (x3_2 : Int) := of_decide_eq_true (by first | (with_reducible assumption) | assumption)
                have q153 : x3_2 < (l0_1.length : Int) := of_decide_eq_true (by first | (with_reducible assumption) | assumption)
                obtain ⟨ad153, e153, hx153_0, hx153_1, hx153_2⟩ := at_T67 HR0_1.out x3_2 p153 q153
                cases e153
                replace hx153_0 := (HB.out.cell (World.block_lt_of_cell? w _ hx153_0)).trans hx153_0
                replace hx153_1 := (HB.out.cell (World.block_lt_of_cell? w _ hx153_1)).trans hx153_1
                replace hx153_2 := (HB.out.cell (World.block_lt_of_cell? w _ hx153_2)).trans hx153_2
                replace p153 := eq_true p153
                replace q153 := eq_true q153
                try go_wp2_with (first | ((with_reducible refine gate_dst (N := 4) rfl ?_); (try (refine gate_guard (by rfl) ?_; dsimp only)); refine box_event ?hg (N := 4) ?hd (cs := #[.int .i64 0, .string (⟨#[]⟩ : ByteArray), .string (⟨#[]⟩ : ByteArray)]) (t := 67) ?hr ?_; (case hd => rfl); (case hg => rfl); (case hr => first | (go_simp; done) | (go_simp; rfl)); intro gb154 hg w46 hbox hb; have n0_ := Aside0.mk (blk_below (g := gb150) (o := .cells #[.string a0_0, .slice (some ad153) l0_1.length c0_1] 30 (0, 0)) (by (with_reducible repeat (first | refine blk_drewN ?_ _ | refine blk_drew ?_ | refine blk_alloc ?_ _)); exact BK150.out) hb); have n1_ := Aside0.mk (below_step (by repeat (first | (with_reducible first | exact HB.out | apply below_alloc | apply pw_below_drewN | apply below_drew1 | refine below_set ?_ GE150.out) | exact HB.out)) hb); have n2_ := Aside0.mk (hbox); have n3_ := Aside0.mk ((by rw [hg]; exact (below_size (by repeat (first | (with_reducible first | exact HB.out | apply below_alloc | apply pw_below_drewN | apply below_drew1 | refine below_set ?_ GE150.out) | exact HB.out))) : w.heap.size ≤ gb154)); have n4_ := Aside0.mk ((by rw [hg]; exact (below_size (by repeat (first | (with_reducible first | exact HB.out | apply below_alloc | apply pw_below_drewN | apply below_drew1 | refine below_set ?_ GE150.out) | exact HB.out))) : w.heap.size ≤ gb154)); have n5_ := Aside0.mk ((by rw [hg]; exact Nat.ne_of_lt (blk_lt (g := gb150) (o := .cells #[.string a0_0, .slice (some ad153) l0_1.length c0_1] 30 (0, 0)) (by (with_reducible repeat (first | refine blk_drewN ?_ _ | refine blk_drew ?_ | refine blk_alloc ?_ _)); exact BK150.out)) : gb150 ≠ gb154)); have n6_ := Aside0.mk ((by rw [hg]; exact Nat.ne_of_gt (blk_lt (g := gb150) (o := .cells #[.string a0_0, .slice (some ad153) l0_1.length c0_1] 30 (0, 0)) (by (with_reducible repeat (first | refine blk_drewN ?_ _ | refine blk_drew ?_ | refine blk_alloc ?_ _)); exact BK150.out)) : gb154 ≠ gb150)); clear BK150; clear HB; have BK150 := n0_; have HB := n1_; have BK154 := n2_; have GW154 := n3_; have GE154 := n4_; have NB150_154 := n5_; have NB154_150 := n6_; clear n0_ n1_ n2_ n3_ n4_ n5_ n6_; clear hb hbox hg; have hnb47 := NB154_150.out; have hnc47 := NB150_154.out; have hcz48_0 : w46.cell? ⟨gb154, 0, none⟩ = some (.int .i64 0) := (blk_cell BK154.out 0).trans rfl; have hcz48_1 : w46.cell? ⟨gb154, 1, none⟩ = some (.string (⟨#[]⟩ : ByteArray)) := (blk_cell BK154.out 1).trans rfl; have hcz48_2 : w46.cell? ⟨gb154, 2, none⟩ = some (.string (⟨#[]⟩ : ByteArray)) := (blk_cell BK154.out 2).trans rfl; have hfz48_0 := blk_frozen BK154.out 0; have hfz48_1 := blk_frozen BK154.out 1; have hfz48_2 := blk_frozen BK154.out 2))
                have n0_ : Aside0 ((((w46.setCell ⟨gb154, 0, none⟩ (.int .i64 ((rd_T67 l0_1 x3_2).f0))).setCell ⟨gb154, 1, none⟩ (.string ((rd_T67 l0_1 x3_2).f1))).setCell ⟨gb154, 2, none⟩ (.string ((rd_T67 l0_1 x3_2).f2))).heap[gb150]? = some (.cells #[.string a0_0, .slice (some ad153) l0_1.length c0_1] 30 (0, 0))) := ⟨by (with_reducible repeat (first | refine blk_drewN ?_ _ | refine blk_drew ?_ | refine blk_alloc ?_ _)); refine blk_far ?_ NB150_154.out _; (with_reducible repeat (first | refine blk_drewN ?_ _ | refine blk_drew ?_ | refine blk_alloc ?_ _)); refine blk_far ?_ NB150_154.out _; (with_reducible repeat (first | refine blk_drewN ?_ _ | refine blk_drew ?_ | refine blk_alloc ?_ _)); refine blk_far ?_ NB150_154.out _; (with_reducible repeat (first | refine blk_drewN ?_ _ | refine blk_drew ?_ | refine blk_alloc ?_ _)); exact BK150.out⟩
                have n1_ : Aside0 ((((w46.setCell ⟨gb154, 0, none⟩ (.int .i64 ((rd_T67 l0_1 x3_2).f0))).setCell ⟨gb154, 1, none⟩ (.string ((rd_T67 l0_1 x3_2).f1))).setCell ⟨gb154, 2, none⟩ (.string ((rd_T67 l0_1 x3_2).f2))).heap[gb154]? = some (.cells #[.int .i64 ((rd_T67 l0_1 x3_2).f0), .string ((rd_T67 l0_1 x3_2).f1), .string ((rd_T67 l0_1 x3_2).f2)] 67 (0, 0))) := ⟨by (with_reducible repeat (first | refine blk_drewN ?_ _ | refine blk_drew ?_ | refine blk_alloc ?_ _)); refine blk_put (cs := #[.int .i64 ((rd_T67 l0_1 x3_2).f0), .string ((rd_T67 l0_1 x3_2).f1), .string (⟨#[]⟩ : ByteArray)]) ?_ 2 _ rfl; (with_reducible repeat (first | refine blk_drewN ?_ _ | refine blk_drew ?_ | refine blk_alloc ?_ _)); refine blk_put (cs := #[.int .i64 ((rd_T67 l0_1 x3_2).f0), .string (⟨#[]⟩ : ByteArray), .string (⟨#[]⟩ : ByteArray)]) ?_ 1 _ rfl; (with_reducible repeat (first | refine blk_drewN ?_ _ | refine blk_drew ?_ | refine blk_alloc ?_ _)); refine blk_put (cs := #[.int .i64 0, .string (⟨#[]⟩ : ByteArray), .string (⟨#[]⟩ : ByteArray)]) ?_ 0 _ rfl; (with_reducible repeat (first | refine blk_drewN ?_ _ | refine blk_drew ?_ | refine blk_alloc ?_ _)); exact BK154.out⟩
                have n2_ : Aside0 (Below w.heap.size w (((w46.setCell ⟨gb154, 0, none⟩ (.int .i64 ((rd_T67 l0_1 x3_2).f0))).setCell ⟨gb154, 1, none⟩ (.string ((rd_T67 l0_1 x3_2).f1))).setCell ⟨gb154, 2, none⟩ (.string ((rd_T67 l0_1 x3_2).f2)))) := ⟨by repeat (first | (with_reducible first | exact HB.out | apply below_alloc | apply pw_below_drewN | apply below_drew1 | refine below_set ?_ GE150.out | refine below_set ?_ GE154.out) | exact HB.out)⟩
                (try clear BK150)
                (try clear BK154)
                (try clear HB)
                generalize (((w46.setCell ⟨gb154, 0, none⟩ (.int .i64 ((rd_T67 l0_1 x3_2).f0))).setCell ⟨gb154, 1, none⟩ (.string ((rd_T67 l0_1 x3_2).f1))).setCell ⟨gb154, 2, none⟩ (.string ((rd_T67 l0_1 x3_2).f2))) = w49 at n0_ n1_ n2_ ⊢
                have BK150 := n0_
                have BK154 := n1_
                have HB := n2_
                clear n0_ n1_ n2_
                have n0_ := Aside0.mk (blk_drew BK150.out)
                have n1_ := Aside0.mk (blk_drew BK154.out)
                have n2_ := Aside0.mk (below_drew1 HB.out)
                clear BK150
                clear BK154
                clear HB
                have BK150 := n0_
                have BK154 := n1_
                have HB := n2_
                clear n0_ n1_ n2_
                have p157 : 0 ≤ ((ji17) : Int) := of_decide_eq_true (by first | (with_reducible assumption) | assumption)
                have q157 : (ji17) < (l0_1.length : Int) := of_decide_eq_true (by first | (with_reducible assumption) | assumption)
                obtain ⟨ad157, e157, hx157_0, hx157_1, hx157_2⟩ := at_T67 HR0_1.out (ji17) p157 q157
                have hw157_2 := hx157_2
                have hw157_1 := hx157_1
                have hw157_0 := hx157_0
                obtain rfl : ad153 = ad157 := (by injection e157)
                replace hx157_0 := (HB.out.cell (World.block_lt_of_cell? w _ hx157_0)).trans hx157_0
                replace hx157_1 := (HB.out.cell (World.block_lt_of_cell? w _ hx157_1)).trans hx157_1
                replace hx157_2 := (HB.out.cell (World.block_lt_of_cell? w _ hx157_2)).trans hx157_2
                replace p157 := eq_true p157
                replace q157 := eq_true q157
                refine start_ (n := 40) (S := fun w' => w'.cell? ⟨gb154, 0, none⟩ = some (.int .i64 ((rd_T67 l0_1 x3_2).f0)) ∧ w'.cell? ⟨gb154, 1, none⟩ = some (.string ((rd_T67 l0_1 x3_2).f1)) ∧ w'.cell? ⟨gb154, 2, none⟩ = some (.string ((rd_T67 l0_1 x3_2).f2)) ∧ w'.cell? ⟨gb150, 0, none⟩ = some (.string a0_0) ∧ w'.cell? ⟨gb150, 1, none⟩ = some (.slice (some ad153) l0_1.length c0_1) ∧ w'.cell? (ad153.add (((ji17)).toNat * 3)) = some (.int .i64 ((rd_T67 l0_1 (ji17)).f0)) ∧ w'.cell? ⟨(ad153.add (((ji17)).toNat * 3)).block, (ad153.add (((ji17)).toNat * 3)).off + 1, none⟩ = some (.string ((rd_T67 l0_1 (ji17)).f1)) ∧ w'.cell? ⟨(ad153.add (((ji17)).toNat * 3)).block, (ad153.add (((ji17)).toNat * 3)).off + 2, none⟩ = some (.string ((rd_T67 l0_1 (ji17)).f2))) (ds := []) (tf_ 0 40) (by kernel_rfl) rfl rfl ⟨(blk_cell BK154.out 0).trans rfl, (blk_cell BK154.out 1).trans rfl, (blk_cell BK154.out 2).trans rfl, (blk_cell BK150.out 0).trans rfl, (blk_cell BK150.out 1).trans rfl, ((HB.out.cell (World.block_lt_of_cell? w _ hw157_0)).trans hw157_0), ((HB.out.cell (World.block_lt_of_cell? w _ hw157_1)).trans hw157_1), ((HB.out.cell (World.block_lt_of_cell? w _ hw157_2)).trans hw157_2)⟩ (fun hHeld => ?_); refine with_tabW spec_DeviceOk.tab7 spec_DeviceOk.bits7 (fun HT_ HW_ => ?_)
                generalize w49.drew = w50 at BK150 BK154 HB hx157_0 hx157_1 hx157_2 hHeld ⊢
                refine pure_ (i := 0) (N := some 28) (v := ?_) (a' := ?_) (tf_ 1 39) rfl rfl (any_of HT_.out (by kernel_rfl)) (fun _ _ _ h => h) (Or.inl ⟨by rfl, ?_⟩) ?_ ?_
                rotate_left
                ·intro w'
                 go_simp
                 with_reducible rfl
                rotate_left
                ·simp only [Act.put, sI_, s0_, sS_, i64_w, i32_w]
                 rfl
                refine take_ (i := 1) (N := some 29) (v := ?_) (a' := ?_) (tf_ 2 38) rfl rfl (take_ofW HT_.out HW_.out (by kernel_rfl)) (fun _ _ _ h => h) (Or.inl ⟨by rfl, ?_⟩) hHeld ?_ ?_
                rotate_left
                ·rintro w' ⟨s0, s1, s2, s3, s4, s5, s6, s7⟩
                 go_simp
                 with_reducible rfl
                rotate_left
                ·simp only [Act.put, sI_, s0_, sS_, i64_w, i32_w]
                 rfl
                refine take_ (i := 2) (N := some 30) (v := ?_) (a' := ?_) (tf_ 3 37) rfl rfl (take_ofW HT_.out HW_.out (by kernel_rfl)) (fun _ _ _ h => h) (Or.inl ⟨by rfl, ?_⟩) hHeld ?_ ?_
                rotate_left
                ·rintro w' ⟨s0, s1, s2, s3, s4, s5, s6, s7⟩
                 go_simp
                 with_reducible rfl
                rotate_left
                ·simp only [Act.put, sI_, s0_, sS_, i64_w, i32_w]
                 rfl
                refine one_ (i := 3) (N := some 31) (tf_ 4 36) rfl rfl (one_of HT_.out (by kernel_rfl)) (by decide) (fun K hK => ?_)
                refine goes_ Try.func71 (by kernel_rfl) rfl #[.agg #[.string a0_0, .slice (some ad153) l0_1.length c0_1]] (by rfl) rfl rfl (by (try simp only [List.map_toArray, List.map_cons, List.map_nil]); first | done | rfl | (simp only [List.length_drop, List.length_take]; rfl)) ?_
                with_reducible refine (spec_l2Count.calls a0_0 _ _ l0_1 t155 _ ?side1 ?side2 A13.out).mono ?_
                (case side1 => repeat (first | exact (Kd.C_below HR0_1.out HB.out) | (with_reducible refine Kd.C_alloc ?_ _) | (with_reducible refine Kd.C_drewN ?_ _) | (with_reducible refine Kd.C_drew ?_)))
                (case side2 => exact HC0_1.out)
                rintro e w51 ⟨rfl, hb⟩
                refine ⟨_, rfl, ?_⟩
                have n0_ := Aside0.mk (blk_below (g := gb150) (o := .cells #[.string a0_0, .slice (some ad153) l0_1.length c0_1] 30 (0, 0)) (by (with_reducible repeat (first | refine blk_drewN ?_ _ | refine blk_drew ?_ | refine blk_alloc ?_ _)); exact BK150.out) hb)
                have n1_ := Aside0.mk (blk_below (g := gb154) (o := .cells #[.int .i64 ((rd_T67 l0_1 x3_2).f0), .string ((rd_T67 l0_1 x3_2).f1), .string ((rd_T67 l0_1 x3_2).f2)] 67 (0, 0)) (by (with_reducible repeat (first | refine blk_drewN ?_ _ | refine blk_drew ?_ | refine blk_alloc ?_ _)); exact BK154.out) hb)
                have n2_ := Aside0.mk (below_step (by repeat (first | (with_reducible first | exact HB.out | apply below_alloc | apply pw_below_drewN | apply below_drew1 | refine below_set ?_ GE150.out | refine below_set ?_ GE154.out) | exact HB.out)) hb)
                clear BK150
                clear BK154
                clear HB
                have BK150 := n0_
                have BK154 := n1_
                have HB := n2_
                clear n0_ n1_ n2_
                (try clear hb)
                (try clear hb2)
                (try clear hk)
                (try clear hi)
                refine hK.out _ _ ⟨(blk_cell BK154.out 0).trans rfl, (blk_cell BK154.out 1).trans rfl, (blk_cell BK154.out 2).trans rfl, (blk_cell BK150.out 0).trans rfl, (blk_cell BK150.out 1).trans rfl, ((HB.out.cell (World.block_lt_of_cell? w _ hw157_0)).trans hw157_0), ((HB.out.cell (World.block_lt_of_cell? w _ hw157_1)).trans hw157_1), ((HB.out.cell (World.block_lt_of_cell? w _ hw157_2)).trans hw157_2)⟩ (fun hHeld => ?_)
                clear hK K
                refine norm_ (a' := ?_) ?_ ?_
                rotate_left
                ·show Act.put _ (some 31) _ = _
                 simp only [Act.put, sI_, s0_, sS_, i64_w, i32_w]
                 rfl
                refine pure_ (i := 4) (N := some 32) (v := ?_) (a' := ?_) (tf_ 5 35) rfl rfl (any_of HT_.out (by kernel_rfl)) (fun _ _ _ h => h) (Or.inl ⟨by rfl, ?_⟩) ?_ ?_
                rotate_left
                ·intro w'
                 go_simp
                 with_reducible rfl
                rotate_left
                ·simp only [Act.put, sI_, s0_, sS_, i64_w, i32_w]
                 rfl
                refine one_ (i := 5) (N := some 33) (tf_ 6 34) rfl rfl (one_of HT_.out (by kernel_rfl)) (by decide) (fun K hK => ?_)
                refine goes_ Try.func70 (by kernel_rfl) rfl #[.int .i64 ((rd_T67 l0_1 x3_2).f0), .int .i64 0, .int .i64 (wrap64 (t155 - 1))] (by rfl) rfl rfl (by (try simp only [List.map_toArray, List.map_cons, List.map_nil]); first | done | rfl | (simp only [List.length_drop, List.length_take]; rfl) | ((try simp only [decide_eq_false_iff_not, decide_eq_true_eq, eq_iff_iff, iff_true, iff_false, Int.not_lt, Int.not_le, Nat.not_lt, Nat.not_le, ByteArray.size_append, ByteArray.size_extract] at *); (rw [show wrap64 (t155 - 1) = t155 - 1 from by unfold Go.RowKit.wrap64; omega]); rfl)) ?_
                with_reducible refine (spec_l1In.calls ((rd_T67 l0_1 x3_2).f0) 0 (wrap64 (t155 - 1)) true _ A14.out).mono ?_
                rintro e w' ⟨rfl, ⟨nd, rfl⟩⟩
                refine ⟨_, rfl, ?_⟩
                refine hK.out _ _ ⟨(blk_cell BK154.out 0).trans rfl, (blk_cell BK154.out 1).trans rfl, (blk_cell BK154.out 2).trans rfl, (blk_cell BK150.out 0).trans rfl, (blk_cell BK150.out 1).trans rfl, ((HB.out.cell (World.block_lt_of_cell? w _ hw157_0)).trans hw157_0), ((HB.out.cell (World.block_lt_of_cell? w _ hw157_1)).trans hw157_1), ((HB.out.cell (World.block_lt_of_cell? w _ hw157_2)).trans hw157_2)⟩ (fun hHeld => ?_)
                clear hK K
                refine norm_ (a' := ?_) ?_ ?_
                rotate_left
                ·show Act.put _ (some 33) _ = _
                 simp only [Act.put, sI_, s0_, sS_, i64_w, i32_w]
                 rfl
                refine pure_ (i := 6) (N := some 34) (v := ?_) (a' := ?_) (tf_ 7 33) rfl rfl (any_of HT_.out (by kernel_rfl)) (fun _ _ _ h => h) (Or.inl ⟨by rfl, ?_⟩) ?_ ?_
                rotate_left
                ·intro w'
                 go_simp
                 with_reducible rfl
                rotate_left
                ·simp only [Act.put, sI_, s0_, sS_, i64_w, i32_w]
                 rfl
                refine pure_ (i := 7) (N := some 35) (v := ?_) (a' := ?_) (tf_ 8 32) rfl rfl (any_of HT_.out (by kernel_rfl)) (fun _ _ _ h => h) (Or.inl ⟨by rfl, ?_⟩) ?_ ?_
                rotate_left
                ·intro w'
                 go_simp
                 with_reducible rfl
                rotate_left
                ·simp only [Act.put, sI_, s0_, sS_, i64_w, i32_w]
                 rfl
                refine pure_ (i := 8) (N := some 36) (v := ?_) (a' := ?_) (tf_ 9 31) rfl rfl (any_of HT_.out (by kernel_rfl)) (fun _ _ _ h => h) (Or.inl ⟨by rfl, ?_⟩) ?_ ?_
                rotate_left
                ·intro w'
                 go_simp
                 with_reducible rfl
                rotate_left
                ·simp only [Act.put, sI_, s0_, sS_, i64_w, i32_w]
                 rfl
                refine pure_ (i := 9) (N := some 37) (v := ?_) (a' := ?_) (tf_ 10 30) rfl rfl (any_of HT_.out (by kernel_rfl)) (fun _ _ _ h => h) (Or.inl ⟨by rfl, ?_⟩) ?_ ?_
                rotate_left
                ·intro w'
                 go_simp
                 with_reducible rfl
                rotate_left
                ·simp only [Act.put, sI_, s0_, sS_, i64_w, i32_w]
                 rfl
                refine pure_ (i := 10) (N := some 38) (v := ?_) (a' := ?_) (tf_ 11 29) rfl rfl (any_of HT_.out (by kernel_rfl)) (fun _ _ _ h => h) (Or.inl ⟨by rfl, ?_⟩) ?_ ?_
                rotate_left
                ·intro w'
                 go_simp
                 with_reducible rfl
                rotate_left
                ·simp only [Act.put, sI_, s0_, sS_, i64_w, i32_w]
                 rfl
                refine pure_ (i := 11) (N := some 39) (v := ?_) (a' := ?_) (tf_ 12 28) rfl rfl (any_of HT_.out (by kernel_rfl)) (fun _ _ _ h => h) (Or.inl ⟨by rfl, ?_⟩) ?_ ?_
                rotate_left
                ·intro w'
                 go_simp
                 with_reducible rfl
                rotate_left
                ·simp only [Act.put, sI_, s0_, sS_, i64_w, i32_w]
                 rfl
                refine pure_ (i := 13) (N := some 41) (v := ?_) (a' := ?_) #[true, true, true, true, true, true, true, true, true, true, true, true, false, true, false, false, false, false, false, false, false, false, false, false, false, false, false, false, false, false, false, false, false, false, false, false, false, false, false, false] rfl rfl (any_of HT_.out (by kernel_rfl)) (fun _ _ _ h => h) (Or.inl ⟨by rfl, ?_⟩) ?_ ?_
                rotate_left
                ·intro w'
                 go_simp
                 with_reducible rfl
                rotate_left
                ·simp only [Act.put, sI_, s0_, sS_, i64_w, i32_w]
                 rfl
                refine pure_ (i := 15) (N := some 43) (v := ?_) (a' := ?_) #[true, true, true, true, true, true, true, true, true, true, true, true, false, true, false, true, false, false, false, false, false, false, false, false, false, false, false, false, false, false, false, false, false, false, false, false, false, false, false, false] rfl rfl (any_of HT_.out (by kernel_rfl)) (fun _ _ _ h => h) (Or.inl ⟨by rfl, ?_⟩) ?_ ?_
                rotate_left
                ·intro w'
                 go_simp
                 with_reducible rfl
                rotate_left
                ·simp only [Act.put, sI_, s0_, sS_, i64_w, i32_w]
                 rfl
                refine pure_ (i := 16) (N := some 44) (v := ?_) (a' := ?_) #[true, true, true, true, true, true, true, true, true, true, true, true, false, true, false, true, true, false, false, false, false, false, false, false, false, false, false, false, false, false, false, false, false, false, false, false, false, false, false, false] rfl rfl (any_of HT_.out (by kernel_rfl)) (fun _ _ _ h => h) (Or.inl ⟨by rfl, ?_⟩) ?_ ?_
                rotate_left
                ·intro w'
                 go_simp
                 with_reducible rfl
                rotate_left
                ·simp only [Act.put, sI_, s0_, sS_, i64_w, i32_w]
                 rfl
                refine take_ (i := 12) (N := some 40) (v := ?_) (a' := ?_) #[true, true, true, true, true, true, true, true, true, true, true, true, true, true, false, true, true, false, false, false, false, false, false, false, false, false, false, false, false, false, false, false, false, false, false, false, false, false, false, false] rfl rfl (take_ofW HT_.out HW_.out (by kernel_rfl)) (fun _ _ _ h => h) (Or.inl ⟨by rfl, ?_⟩) hHeld ?_ ?_
                rotate_left
                ·rintro w' ⟨s0, s1, s2, s3, s4, s5, s6, s7⟩
                 go_simp
                 with_reducible rfl
                rotate_left
                ·simp only [Act.put, sI_, s0_, sS_, i64_w, i32_w]
                 rfl
                refine take_ (i := 14) (N := some 42) (v := ?_) (a' := ?_) (tf_ 17 23) rfl rfl (take_ofW HT_.out HW_.out (by kernel_rfl)) (fun _ _ _ h => h) (Or.inl ⟨by rfl, ?_⟩) hHeld ?_ ?_
                rotate_left
                ·rintro w' ⟨s0, s1, s2, s3, s4, s5, s6, s7⟩
                 go_simp
                 with_reducible rfl
                rotate_left
                ·simp only [Act.put, sI_, s0_, sS_, i64_w, i32_w]
                 rfl
                refine pure_ (i := 17) (N := some 45) (v := ?_) (a' := ?_) (tf_ 18 22) rfl rfl (any_of HT_.out (by kernel_rfl)) (fun _ _ _ h => h) (Or.inl ⟨by rfl, ?_⟩) ?_ ?_
                rotate_left
                ·intro w'
                 go_simp
                 with_reducible rfl
                rotate_left
                ·simp only [Act.put, sI_, s0_, sS_, i64_w, i32_w]
                 rfl
                refine pure_ (i := 18) (N := some 46) (v := ?_) (a' := ?_) (tf_ 19 21) rfl rfl (any_of HT_.out (by kernel_rfl)) (fun _ _ _ h => h) (Or.inl ⟨by rfl, ?_⟩) ?_ ?_
                rotate_left
                ·intro w'
                 go_simp
                 with_reducible rfl
                rotate_left
                ·simp only [Act.put, sI_, s0_, sS_, i64_w, i32_w]
                 rfl
                refine take_ (i := 19) (N := some 47) (v := ?_) (a' := ?_) (tf_ 20 20) rfl rfl (take_ofW HT_.out HW_.out (by kernel_rfl)) (fun _ _ _ h => h) (Or.inl ⟨by rfl, ?_⟩) hHeld ?_ ?_
                rotate_left
                ·rintro w' ⟨s0, s1, s2, s3, s4, s5, s6, s7⟩
                 go_simp
                 with_reducible rfl
                rotate_left
                ·simp only [Act.put, sI_, s0_, sS_, i64_w, i32_w]
                 rfl
                refine pure_ (i := 20) (N := some 48) (v := ?_) (a' := ?_) (tf_ 21 19) rfl rfl (any_of HT_.out (by kernel_rfl)) (fun _ _ _ h => h) (Or.inl ⟨by rfl, ?_⟩) ?_ ?_
                rotate_left
                ·intro w'
                 go_simp
                 with_reducible rfl
                rotate_left
                ·simp only [Act.put, sI_, s0_, sS_, i64_w, i32_w]
                 rfl
                refine pure_ (i := 21) (N := some 49) (v := ?_) (a' := ?_) (tf_ 22 18) rfl rfl (any_of HT_.out (by kernel_rfl)) (fun _ _ _ h => h) (Or.inl ⟨by rfl, ?_⟩) ?_ ?_
                rotate_left
                ·intro w'
                 go_simp
                 with_reducible rfl
                rotate_left
                ·simp only [Act.put, sI_, s0_, sS_, i64_w, i32_w]
                 rfl
                refine pure_ (i := 22) (N := some 50) (v := ?_) (a' := ?_) (tf_ 23 17) rfl rfl (any_of HT_.out (by kernel_rfl)) (fun _ _ _ h => h) (Or.inl ⟨by rfl, ?_⟩) ?_ ?_
                rotate_left
                ·intro w'
                 go_simp
                 with_reducible rfl
                rotate_left
                ·simp only [Act.put, sI_, s0_, sS_, i64_w, i32_w]
                 rfl
                refine pure_ (i := 23) (N := some 51) (v := ?_) (a' := ?_) (tf_ 24 16) rfl rfl (any_of HT_.out (by kernel_rfl)) (fun _ _ _ h => h) (Or.inl ⟨by rfl, ?_⟩) ?_ ?_
                rotate_left
                ·intro w'
                 go_simp
                 with_reducible rfl
                rotate_left
                ·simp only [Act.put, sI_, s0_, sS_, i64_w, i32_w]
                 rfl
                refine pure_ (i := 24) (N := some 52) (v := ?_) (a' := ?_) (tf_ 25 15) rfl rfl (any_of HT_.out (by kernel_rfl)) (fun _ _ _ h => h) (Or.inl ⟨by rfl, ?_⟩) ?_ ?_
                rotate_left
                ·intro w'
                 go_simp
                 with_reducible rfl
                rotate_left
                ·simp only [Act.put, sI_, s0_, sS_, i64_w, i32_w]
                 rfl
                refine take_ (i := 25) (N := some 53) (v := ?_) (a' := ?_) (tf_ 26 14) rfl rfl (take_ofW HT_.out HW_.out (by kernel_rfl)) (fun _ _ _ h => h) (Or.inl ⟨by rfl, ?_⟩) hHeld ?_ ?_
                rotate_left
                ·rintro w' ⟨s0, s1, s2, s3, s4, s5, s6, s7⟩
                 go_simp
                 with_reducible rfl
                rotate_left
                ·simp only [Act.put, sI_, s0_, sS_, i64_w, i32_w]
                 rfl
                refine pure_ (i := 26) (N := some 54) (v := ?_) (a' := ?_) (tf_ 27 13) rfl rfl (any_of HT_.out (by kernel_rfl)) (fun _ _ _ h => h) (Or.inl ⟨by rfl, ?_⟩) ?_ ?_
                rotate_left
                ·intro w'
                 go_simp
                 with_reducible rfl
                rotate_left
                ·simp only [Act.put, sI_, s0_, sS_, i64_w, i32_w]
                 rfl
                refine pure_ (i := 27) (N := some 55) (v := ?_) (a' := ?_) (tf_ 28 12) rfl rfl (any_of HT_.out (by kernel_rfl)) (fun _ _ _ h => h) (Or.inl ⟨by rfl, ?_⟩) ?_ ?_
                rotate_left
                ·intro w'
                 go_simp
                 with_reducible rfl
                rotate_left
                ·simp only [Act.put, sI_, s0_, sS_, i64_w, i32_w]
                 rfl
                refine pure_ (i := 28) (N := some 56) (v := ?_) (a' := ?_) (tf_ 29 11) rfl rfl (any_of HT_.out (by kernel_rfl)) (fun _ _ _ h => h) (Or.inl ⟨by rfl, ?_⟩) ?_ ?_
                rotate_left
                ·intro w'
                 go_simp
                 with_reducible rfl
                rotate_left
                ·simp only [Act.put, sI_, s0_, sS_, i64_w, i32_w]
                 rfl
                refine pure_ (i := 29) (N := some 57) (v := ?_) (a' := ?_) (tf_ 30 10) rfl rfl (any_of HT_.out (by kernel_rfl)) (fun _ _ _ h => h) (Or.inl ⟨by rfl, ?_⟩) ?_ ?_
                rotate_left
                ·intro w'
                 go_simp
                 with_reducible rfl
                rotate_left
                ·simp only [Act.put, sI_, s0_, sS_, i64_w, i32_w]
                 rfl
                refine pure_ (i := 30) (N := some 58) (v := ?_) (a' := ?_) (tf_ 31 9) rfl rfl (any_of HT_.out (by kernel_rfl)) (fun _ _ _ h => h) (Or.inl ⟨by rfl, ?_⟩) ?_ ?_
                rotate_left
                ·intro w'
                 go_simp
                 with_reducible rfl
                rotate_left
                ·simp only [Act.put, sI_, s0_, sS_, i64_w, i32_w]
                 rfl
                refine take_ (i := 31) (N := some 59) (v := ?_) (a' := ?_) (tf_ 32 8) rfl rfl (take_ofW HT_.out HW_.out (by kernel_rfl)) (fun _ _ _ h => h) (Or.inl ⟨by rfl, ?_⟩) hHeld ?_ ?_
                rotate_left
                ·rintro w' ⟨s0, s1, s2, s3, s4, s5, s6, s7⟩
                 go_simp
                 with_reducible rfl
                rotate_left
                ·simp only [Act.put, sI_, s0_, sS_, i64_w, i32_w]
                 rfl
                refine pure_ (i := 32) (N := some 60) (v := ?_) (a' := ?_) (tf_ 33 7) rfl rfl (any_of HT_.out (by kernel_rfl)) (fun _ _ _ h => h) (Or.inl ⟨by rfl, ?_⟩) ?_ ?_
                rotate_left
                ·intro w'
                 go_simp
                 with_reducible rfl
                rotate_left
                ·simp only [Act.put, sI_, s0_, sS_, i64_w, i32_w]
                 rfl
                refine pure_ (i := 33) (N := some 61) (v := ?_) (a' := ?_) (tf_ 34 6) rfl rfl (any_of HT_.out (by kernel_rfl)) (fun _ _ _ h => h) (Or.inl ⟨by rfl, ?_⟩) ?_ ?_
                rotate_left
                ·intro w'
                 go_simp
                 with_reducible rfl
                rotate_left
                ·simp only [Act.put, sI_, s0_, sS_, i64_w, i32_w]
                 rfl
                refine pure_ (i := 34) (N := some 62) (v := ?_) (a' := ?_) (tf_ 35 5) rfl rfl (any_of HT_.out (by kernel_rfl)) (fun _ _ _ h => h) (Or.inl ⟨by rfl, ?_⟩) ?_ ?_
                rotate_left
                ·intro w'
                 go_simp
                 with_reducible rfl
                rotate_left
                ·simp only [Act.put, sI_, s0_, sS_, i64_w, i32_w]
                 rfl
                refine pure_ (i := 35) (N := some 63) (v := ?_) (a' := ?_) (tf_ 36 4) rfl rfl (any_of HT_.out (by kernel_rfl)) (fun _ _ _ h => h) (Or.inl ⟨by rfl, ?_⟩) ?_ ?_
                rotate_left
                ·intro w'
                 go_simp
                 with_reducible rfl
                rotate_left
                ·simp only [Act.put, sI_, s0_, sS_, i64_w, i32_w]
                 rfl
                refine take_ (i := 36) (N := some 64) (v := ?_) (a' := ?_) (tf_ 37 3) rfl rfl (take_ofW HT_.out HW_.out (by kernel_rfl)) (fun _ _ _ h => h) (Or.inl ⟨by rfl, ?_⟩) hHeld ?_ ?_
                rotate_left
                ·rintro w' ⟨s0, s1, s2, s3, s4, s5, s6, s7⟩
                 go_simp
                 with_reducible rfl
                rotate_left
                ·simp only [Act.put, sI_, s0_, sS_, i64_w, i32_w]
                 rfl
                refine pure_ (i := 37) (N := some 65) (v := ?_) (a' := ?_) (tf_ 38 2) rfl rfl (any_of HT_.out (by kernel_rfl)) (fun _ _ _ h => h) (Or.inl ⟨by rfl, ?_⟩) ?_ ?_
                rotate_left
                ·intro w'
                 go_simp
                 with_reducible rfl
                rotate_left
                ·simp only [Act.put, sI_, s0_, sS_, i64_w, i32_w]
                 rfl
                refine pure_ (i := 38) (N := some 66) (v := ?_) (a' := ?_) (tf_ 39 1) rfl rfl (any_of HT_.out (by kernel_rfl)) (fun _ _ _ h => h) (Or.inl ⟨by rfl, ?_⟩) ?_ ?_
                rotate_left
                ·intro w'
                 go_simp
                 with_reducible rfl
                rotate_left
                ·simp only [Act.put, sI_, s0_, sS_, i64_w, i32_w]
                 rfl
                refine pure_ (i := 39) (N := some 67) (v := ?_) (a' := ?_) (tf_ 40 0) rfl rfl (any_of HT_.out (by kernel_rfl)) (fun _ _ _ h => h) (Or.inl ⟨by rfl, ?_⟩) ?_ ?_
                rotate_left
                ·intro w'
                 go_simp
                 with_reducible rfl
                rotate_left
                ·simp only [Act.put, sI_, s0_, sS_, i64_w, i32_w]
                 rfl
                refine done_ (done_of HT_.out (by kernel_rfl)) ?_
                try go_wp2
                go_ret
                exact ⟨by first | rfl | (simp [errW_none, errW_some] <;> rfl) | (simp only [← hji17]; first | rfl | (simp [errW_none, errW_some] <;> rfl)) | (simp [*, errW_none, errW_some] <;> rfl), by repeat (first | (with_reducible first | exact HB.out | apply below_alloc | apply pw_below_drewN | apply below_drew1 | refine below_set ?_ GE150.out | refine below_set ?_ GE154.out) | exact HB.out)⟩
             ·rw [if_neg c28] at H
              have c28b0 : ((((rd_T67 l0_1 x3_2).f1).size : Int) == 64) = false := beq_eq_false_iff_ne.mpr c28
              have c28b1 : ((((rd_T67 l0_1 x3_2).f1).size : Int) != 64) = true := bne_iff_ne.mpr c28
              obtain rfl := Option.some.inj H
              have hcz52_0 : wr.cell? ⟨gb150, 0, none⟩ = some (.string a0_0) := (blk_cell BK150.out 0).trans rfl
              have hcz52_1 : wr.cell? ⟨gb150, 1, none⟩ = some (.slice A0_1 l0_1.length c0_1) := (blk_cell BK150.out 1).trans rfl
              have hfz52_0 := blk_frozen BK150.out 0
              have hfz52_1 := blk_frozen BK150.out 1
              have p153 : 0 ≤ (x3_2 : Int) := of_decide_eq_true (by first | (with_reducible assumption) | assumption)
              have q153 : x3_2 < (l0_1.length : Int) := of_decide_eq_true (by first | (with_reducible assumption) | assumption)
              obtain ⟨ad153, e153, hx153_0, hx153_1, hx153_2⟩ := at_T67 HR0_1.out x3_2 p153 q153
              cases e153
              replace hx153_0 := (HB.out.cell (World.block_lt_of_cell? w _ hx153_0)).trans hx153_0
              replace hx153_1 := (HB.out.cell (World.block_lt_of_cell? w _ hx153_1)).trans hx153_1
              replace hx153_2 := (HB.out.cell (World.block_lt_of_cell? w _ hx153_2)).trans hx153_2
              replace p153 := eq_true p153
              replace q153 := eq_true q153
              try go_wp2_with (first | ((with_reducible refine gate_dst (N := 4) rfl ?_); (try (refine gate_guard (by rfl) ?_; dsimp only)); refine box_event ?hg (N := 4) ?hd (cs := #[.int .i64 0, .string (⟨#[]⟩ : ByteArray), .string (⟨#[]⟩ : ByteArray)]) (t := 67) ?hr ?_; (case hd => rfl); (case hg => rfl); (case hr => first | (go_simp; done) | (go_simp; rfl)); intro gb154 hg w53 hbox hb; have n0_ := Aside0.mk (blk_below (g := gb150) (o := .cells #[.string a0_0, .slice (some ad153) l0_1.length c0_1] 30 (0, 0)) (by (with_reducible repeat (first | refine blk_drewN ?_ _ | refine blk_drew ?_ | refine blk_alloc ?_ _)); exact BK150.out) hb); have n1_ := Aside0.mk (below_step (by repeat (first | (with_reducible first | exact HB.out | apply below_alloc | apply pw_below_drewN | apply below_drew1 | refine below_set ?_ GE150.out) | exact HB.out)) hb); have n2_ := Aside0.mk (hbox); have n3_ := Aside0.mk ((by rw [hg]; exact (below_size (by repeat (first | (with_reducible first | exact HB.out | apply below_alloc | apply pw_below_drewN | apply below_drew1 | refine below_set ?_ GE150.out) | exact HB.out))) : w.heap.size ≤ gb154)); have n4_ := Aside0.mk ((by rw [hg]; exact (below_size (by repeat (first | (with_reducible first | exact HB.out | apply below_alloc | apply pw_below_drewN | apply below_drew1 | refine below_set ?_ GE150.out) | exact HB.out))) : w.heap.size ≤ gb154)); have n5_ := Aside0.mk ((by rw [hg]; exact Nat.ne_of_lt (blk_lt (g := gb150) (o := .cells #[.string a0_0, .slice (some ad153) l0_1.length c0_1] 30 (0, 0)) (by (with_reducible repeat (first | refine blk_drewN ?_ _ | refine blk_drew ?_ | refine blk_alloc ?_ _)); exact BK150.out)) : gb150 ≠ gb154)); have n6_ := Aside0.mk ((by rw [hg]; exact Nat.ne_of_gt (blk_lt (g := gb150) (o := .cells #[.string a0_0, .slice (some ad153) l0_1.length c0_1] 30 (0, 0)) (by (with_reducible repeat (first | refine blk_drewN ?_ _ | refine blk_drew ?_ | refine blk_alloc ?_ _)); exact BK150.out)) : gb154 ≠ gb150)); clear BK150; clear HB; have BK150 := n0_; have HB := n1_; have BK154 := n2_; have GW154 := n3_; have GE154 := n4_; have NB150_154 := n5_; have NB154_150 := n6_; clear n0_ n1_ n2_ n3_ n4_ n5_ n6_; clear hb hbox hg; have hnb54 := NB154_150.out; have hnc54 := NB150_154.out; have hcz55_0 : w53.cell? ⟨gb154, 0, none⟩ = some (.int .i64 0) := (blk_cell BK154.out 0).trans rfl; have hcz55_1 : w53.cell? ⟨gb154, 1, none⟩ = some (.string (⟨#[]⟩ : ByteArray)) := (blk_cell BK154.out 1).trans rfl; have hcz55_2 : w53.cell? ⟨gb154, 2, none⟩ = some (.string (⟨#[]⟩ : ByteArray)) := (blk_cell BK154.out 2).trans rfl; have hfz55_0 := blk_frozen BK154.out 0; have hfz55_1 := blk_frozen BK154.out 1; have hfz55_2 := blk_frozen BK154.out 2))
              have n0_ : Aside0 ((((w53.setCell ⟨gb154, 0, none⟩ (.int .i64 ((rd_T67 l0_1 x3_2).f0))).setCell ⟨gb154, 1, none⟩ (.string ((rd_T67 l0_1 x3_2).f1))).setCell ⟨gb154, 2, none⟩ (.string ((rd_T67 l0_1 x3_2).f2))).heap[gb150]? = some (.cells #[.string a0_0, .slice (some ad153) l0_1.length c0_1] 30 (0, 0))) := ⟨by (with_reducible repeat (first | refine blk_drewN ?_ _ | refine blk_drew ?_ | refine blk_alloc ?_ _)); refine blk_far ?_ NB150_154.out _; (with_reducible repeat (first | refine blk_drewN ?_ _ | refine blk_drew ?_ | refine blk_alloc ?_ _)); refine blk_far ?_ NB150_154.out _; (with_reducible repeat (first | refine blk_drewN ?_ _ | refine blk_drew ?_ | refine blk_alloc ?_ _)); refine blk_far ?_ NB150_154.out _; (with_reducible repeat (first | refine blk_drewN ?_ _ | refine blk_drew ?_ | refine blk_alloc ?_ _)); exact BK150.out⟩
              have n1_ : Aside0 ((((w53.setCell ⟨gb154, 0, none⟩ (.int .i64 ((rd_T67 l0_1 x3_2).f0))).setCell ⟨gb154, 1, none⟩ (.string ((rd_T67 l0_1 x3_2).f1))).setCell ⟨gb154, 2, none⟩ (.string ((rd_T67 l0_1 x3_2).f2))).heap[gb154]? = some (.cells #[.int .i64 ((rd_T67 l0_1 x3_2).f0), .string ((rd_T67 l0_1 x3_2).f1), .string ((rd_T67 l0_1 x3_2).f2)] 67 (0, 0))) := ⟨by (with_reducible repeat (first | refine blk_drewN ?_ _ | refine blk_drew ?_ | refine blk_alloc ?_ _)); refine blk_put (cs := #[.int .i64 ((rd_T67 l0_1 x3_2).f0), .string ((rd_T67 l0_1 x3_2).f1), .string (⟨#[]⟩ : ByteArray)]) ?_ 2 _ rfl; (with_reducible repeat (first | refine blk_drewN ?_ _ | refine blk_drew ?_ | refine blk_alloc ?_ _)); refine blk_put (cs := #[.int .i64 ((rd_T67 l0_1 x3_2).f0), .string (⟨#[]⟩ : ByteArray), .string (⟨#[]⟩ : ByteArray)]) ?_ 1 _ rfl; (with_reducible repeat (first | refine blk_drewN ?_ _ | refine blk_drew ?_ | refine blk_alloc ?_ _)); refine blk_put (cs := #[.int .i64 0, .string (⟨#[]⟩ : ByteArray), .string (⟨#[]⟩ : ByteArray)]) ?_ 0 _ rfl; (with_reducible repeat (first | refine blk_drewN ?_ _ | refine blk_drew ?_ | refine blk_alloc ?_ _)); exact BK154.out⟩
              have n2_ : Aside0 (Below w.heap.size w (((w53.setCell ⟨gb154, 0, none⟩ (.int .i64 ((rd_T67 l0_1 x3_2).f0))).setCell ⟨gb154, 1, none⟩ (.string ((rd_T67 l0_1 x3_2).f1))).setCell ⟨gb154, 2, none⟩ (.string ((rd_T67 l0_1 x3_2).f2)))) := ⟨by repeat (first | (with_reducible first | exact HB.out | apply below_alloc | apply pw_below_drewN | apply below_drew1 | refine below_set ?_ GE150.out | refine below_set ?_ GE154.out) | exact HB.out)⟩
              (try clear BK150)
              (try clear BK154)
              (try clear HB)
              generalize (((w53.setCell ⟨gb154, 0, none⟩ (.int .i64 ((rd_T67 l0_1 x3_2).f0))).setCell ⟨gb154, 1, none⟩ (.string ((rd_T67 l0_1 x3_2).f1))).setCell ⟨gb154, 2, none⟩ (.string ((rd_T67 l0_1 x3_2).f2))) = w56 at n0_ n1_ n2_ ⊢
              have BK150 := n0_
              have BK154 := n1_
              have HB := n2_
              clear n0_ n1_ n2_
              have n0_ := Aside0.mk (blk_drew BK150.out)
              have n1_ := Aside0.mk (blk_drew BK154.out)
              have n2_ := Aside0.mk (below_drew1 HB.out)
              clear BK150
              clear BK154
              clear HB
              have BK150 := n0_
              have BK154 := n1_
              have HB := n2_
              clear n0_ n1_ n2_
              have p157 : 0 ≤ ((ji17) : Int) := of_decide_eq_true (by first | (with_reducible assumption) | assumption)
              have q157 : (ji17) < (l0_1.length : Int) := of_decide_eq_true (by first | (with_reducible assumption) | assumption)
              obtain ⟨ad157, e157, hx157_0, hx157_1, hx157_2⟩ := at_T67 HR0_1.out (ji17) p157 q157
              have hw157_2 := hx157_2
              have hw157_1 := hx157_1
              have hw157_0 := hx157_0
              obtain rfl : ad153 = ad157 := (by injection e157)
              replace hx157_0 := (HB.out.cell (World.block_lt_of_cell? w _ hx157_0)).trans hx157_0
              replace hx157_1 := (HB.out.cell (World.block_lt_of_cell? w _ hx157_1)).trans hx157_1
              replace hx157_2 := (HB.out.cell (World.block_lt_of_cell? w _ hx157_2)).trans hx157_2
              replace p157 := eq_true p157
              replace q157 := eq_true q157
              refine start_ (n := 40) (S := fun w' => w'.cell? ⟨gb154, 0, none⟩ = some (.int .i64 ((rd_T67 l0_1 x3_2).f0)) ∧ w'.cell? ⟨gb154, 1, none⟩ = some (.string ((rd_T67 l0_1 x3_2).f1)) ∧ w'.cell? ⟨gb154, 2, none⟩ = some (.string ((rd_T67 l0_1 x3_2).f2)) ∧ w'.cell? ⟨gb150, 0, none⟩ = some (.string a0_0) ∧ w'.cell? ⟨gb150, 1, none⟩ = some (.slice (some ad153) l0_1.length c0_1) ∧ w'.cell? (ad153.add (((ji17)).toNat * 3)) = some (.int .i64 ((rd_T67 l0_1 (ji17)).f0)) ∧ w'.cell? ⟨(ad153.add (((ji17)).toNat * 3)).block, (ad153.add (((ji17)).toNat * 3)).off + 1, none⟩ = some (.string ((rd_T67 l0_1 (ji17)).f1)) ∧ w'.cell? ⟨(ad153.add (((ji17)).toNat * 3)).block, (ad153.add (((ji17)).toNat * 3)).off + 2, none⟩ = some (.string ((rd_T67 l0_1 (ji17)).f2))) (ds := []) (tf_ 0 40) (by kernel_rfl) rfl rfl ⟨(blk_cell BK154.out 0).trans rfl, (blk_cell BK154.out 1).trans rfl, (blk_cell BK154.out 2).trans rfl, (blk_cell BK150.out 0).trans rfl, (blk_cell BK150.out 1).trans rfl, ((HB.out.cell (World.block_lt_of_cell? w _ hw157_0)).trans hw157_0), ((HB.out.cell (World.block_lt_of_cell? w _ hw157_1)).trans hw157_1), ((HB.out.cell (World.block_lt_of_cell? w _ hw157_2)).trans hw157_2)⟩ (fun hHeld => ?_); refine with_tabW spec_DeviceOk.tab7 spec_DeviceOk.bits7 (fun HT_ HW_ => ?_)
              generalize w56.drew = w57 at BK150 BK154 HB hx157_0 hx157_1 hx157_2 hHeld ⊢
              refine pure_ (i := 0) (N := some 28) (v := ?_) (a' := ?_) (tf_ 1 39) rfl rfl (any_of HT_.out (by kernel_rfl)) (fun _ _ _ h => h) (Or.inl ⟨by rfl, ?_⟩) ?_ ?_
              rotate_left
              ·intro w'
               go_simp
               with_reducible rfl
              rotate_left
              ·simp only [Act.put, sI_, s0_, sS_, i64_w, i32_w]
               rfl
              refine take_ (i := 1) (N := some 29) (v := ?_) (a' := ?_) (tf_ 2 38) rfl rfl (take_ofW HT_.out HW_.out (by kernel_rfl)) (fun _ _ _ h => h) (Or.inl ⟨by rfl, ?_⟩) hHeld ?_ ?_
              rotate_left
              ·rintro w' ⟨s0, s1, s2, s3, s4, s5, s6, s7⟩
               go_simp
               with_reducible rfl
              rotate_left
              ·simp only [Act.put, sI_, s0_, sS_, i64_w, i32_w]
               rfl
              refine take_ (i := 2) (N := some 30) (v := ?_) (a' := ?_) (tf_ 3 37) rfl rfl (take_ofW HT_.out HW_.out (by kernel_rfl)) (fun _ _ _ h => h) (Or.inl ⟨by rfl, ?_⟩) hHeld ?_ ?_
              rotate_left
              ·rintro w' ⟨s0, s1, s2, s3, s4, s5, s6, s7⟩
               go_simp
               with_reducible rfl
              rotate_left
              ·simp only [Act.put, sI_, s0_, sS_, i64_w, i32_w]
               rfl
              refine one_ (i := 3) (N := some 31) (tf_ 4 36) rfl rfl (one_of HT_.out (by kernel_rfl)) (by decide) (fun K hK => ?_)
              refine goes_ Try.func71 (by kernel_rfl) rfl #[.agg #[.string a0_0, .slice (some ad153) l0_1.length c0_1]] (by rfl) rfl rfl (by (try simp only [List.map_toArray, List.map_cons, List.map_nil]); first | done | rfl | (simp only [List.length_drop, List.length_take]; rfl)) ?_
              with_reducible refine (spec_l2Count.calls a0_0 _ _ l0_1 t155 _ ?side1 ?side2 A13.out).mono ?_
              (case side1 => repeat (first | exact (Kd.C_below HR0_1.out HB.out) | (with_reducible refine Kd.C_alloc ?_ _) | (with_reducible refine Kd.C_drewN ?_ _) | (with_reducible refine Kd.C_drew ?_)))
              (case side2 => exact HC0_1.out)
              rintro e w58 ⟨rfl, hb⟩
              refine ⟨_, rfl, ?_⟩
              have n0_ := Aside0.mk (blk_below (g := gb150) (o := .cells #[.string a0_0, .slice (some ad153) l0_1.length c0_1] 30 (0, 0)) (by (with_reducible repeat (first | refine blk_drewN ?_ _ | refine blk_drew ?_ | refine blk_alloc ?_ _)); exact BK150.out) hb)
              have n1_ := Aside0.mk (blk_below (g := gb154) (o := .cells #[.int .i64 ((rd_T67 l0_1 x3_2).f0), .string ((rd_T67 l0_1 x3_2).f1), .string ((rd_T67 l0_1 x3_2).f2)] 67 (0, 0)) (by (with_reducible repeat (first | refine blk_drewN ?_ _ | refine blk_drew ?_ | refine blk_alloc ?_ _)); exact BK154.out) hb)
              have n2_ := Aside0.mk (below_step (by repeat (first | (with_reducible first | exact HB.out | apply below_alloc | apply pw_below_drewN | apply below_drew1 | refine below_set ?_ GE150.out | refine below_set ?_ GE154.out) | exact HB.out)) hb)
              clear BK150
              clear BK154
              clear HB
              have BK150 := n0_
              have BK154 := n1_
              have HB := n2_
              clear n0_ n1_ n2_
              (try clear hb)
              (try clear hb2)
              (try clear hk)
              (try clear hi)
              refine hK.out _ _ ⟨(blk_cell BK154.out 0).trans rfl, (blk_cell BK154.out 1).trans rfl, (blk_cell BK154.out 2).trans rfl, (blk_cell BK150.out 0).trans rfl, (blk_cell BK150.out 1).trans rfl, ((HB.out.cell (World.block_lt_of_cell? w _ hw157_0)).trans hw157_0), ((HB.out.cell (World.block_lt_of_cell? w _ hw157_1)).trans hw157_1), ((HB.out.cell (World.block_lt_of_cell? w _ hw157_2)).trans hw157_2)⟩ (fun hHeld => ?_)
              clear hK K
              refine norm_ (a' := ?_) ?_ ?_
              rotate_left
              ·show Act.put _ (some 31) _ = _
               simp only [Act.put, sI_, s0_, sS_, i64_w, i32_w]
               rfl
              refine pure_ (i := 4) (N := some 32) (v := ?_) (a' := ?_) (tf_ 5 35) rfl rfl (any_of HT_.out (by kernel_rfl)) (fun _ _ _ h => h) (Or.inl ⟨by rfl, ?_⟩) ?_ ?_
              rotate_left
              ·intro w'
               go_simp
               with_reducible rfl
              rotate_left
              ·simp only [Act.put, sI_, s0_, sS_, i64_w, i32_w]
               rfl
              refine one_ (i := 5) (N := some 33) (tf_ 6 34) rfl rfl (one_of HT_.out (by kernel_rfl)) (by decide) (fun K hK => ?_)
              refine goes_ Try.func70 (by kernel_rfl) rfl #[.int .i64 ((rd_T67 l0_1 x3_2).f0), .int .i64 0, .int .i64 (wrap64 (t155 - 1))] (by rfl) rfl rfl (by (try simp only [List.map_toArray, List.map_cons, List.map_nil]); first | done | rfl | (simp only [List.length_drop, List.length_take]; rfl) | ((try simp only [decide_eq_false_iff_not, decide_eq_true_eq, eq_iff_iff, iff_true, iff_false, Int.not_lt, Int.not_le, Nat.not_lt, Nat.not_le, ByteArray.size_append, ByteArray.size_extract] at *); (rw [show wrap64 (t155 - 1) = t155 - 1 from by unfold Go.RowKit.wrap64; omega]); rfl)) ?_
              with_reducible refine (spec_l1In.calls ((rd_T67 l0_1 x3_2).f0) 0 (wrap64 (t155 - 1)) true _ A14.out).mono ?_
              rintro e w' ⟨rfl, ⟨nd, rfl⟩⟩
              refine ⟨_, rfl, ?_⟩
              refine hK.out _ _ ⟨(blk_cell BK154.out 0).trans rfl, (blk_cell BK154.out 1).trans rfl, (blk_cell BK154.out 2).trans rfl, (blk_cell BK150.out 0).trans rfl, (blk_cell BK150.out 1).trans rfl, ((HB.out.cell (World.block_lt_of_cell? w _ hw157_0)).trans hw157_0), ((HB.out.cell (World.block_lt_of_cell? w _ hw157_1)).trans hw157_1), ((HB.out.cell (World.block_lt_of_cell? w _ hw157_2)).trans hw157_2)⟩ (fun hHeld => ?_)
              clear hK K
              refine norm_ (a' := ?_) ?_ ?_
              rotate_left
              ·show Act.put _ (some 33) _ = _
               simp only [Act.put, sI_, s0_, sS_, i64_w, i32_w]
               rfl
              refine pure_ (i := 6) (N := some 34) (v := ?_) (a' := ?_) (tf_ 7 33) rfl rfl (any_of HT_.out (by kernel_rfl)) (fun _ _ _ h => h) (Or.inl ⟨by rfl, ?_⟩) ?_ ?_
              rotate_left
              ·intro w'
               go_simp
               with_reducible rfl
              rotate_left
              ·simp only [Act.put, sI_, s0_, sS_, i64_w, i32_w]
               rfl
              refine pure_ (i := 7) (N := some 35) (v := ?_) (a' := ?_) (tf_ 8 32) rfl rfl (any_of HT_.out (by kernel_rfl)) (fun _ _ _ h => h) (Or.inl ⟨by rfl, ?_⟩) ?_ ?_
              rotate_left
              ·intro w'
               go_simp
               with_reducible rfl
              rotate_left
              ·simp only [Act.put, sI_, s0_, sS_, i64_w, i32_w]
               rfl
              refine pure_ (i := 8) (N := some 36) (v := ?_) (a' := ?_) (tf_ 9 31) rfl rfl (any_of HT_.out (by kernel_rfl)) (fun _ _ _ h => h) (Or.inl ⟨by rfl, ?_⟩) ?_ ?_
              rotate_left
              ·intro w'
               go_simp
               with_reducible rfl
              rotate_left
              ·simp only [Act.put, sI_, s0_, sS_, i64_w, i32_w]
               rfl
              refine pure_ (i := 9) (N := some 37) (v := ?_) (a' := ?_) (tf_ 10 30) rfl rfl (any_of HT_.out (by kernel_rfl)) (fun _ _ _ h => h) (Or.inl ⟨by rfl, ?_⟩) ?_ ?_
              rotate_left
              ·intro w'
               go_simp
               with_reducible rfl
              rotate_left
              ·simp only [Act.put, sI_, s0_, sS_, i64_w, i32_w]
               rfl
              refine pure_ (i := 10) (N := some 38) (v := ?_) (a' := ?_) (tf_ 11 29) rfl rfl (any_of HT_.out (by kernel_rfl)) (fun _ _ _ h => h) (Or.inl ⟨by rfl, ?_⟩) ?_ ?_
              rotate_left
              ·intro w'
               go_simp
               with_reducible rfl
              rotate_left
              ·simp only [Act.put, sI_, s0_, sS_, i64_w, i32_w]
               rfl
              refine pure_ (i := 11) (N := some 39) (v := ?_) (a' := ?_) (tf_ 12 28) rfl rfl (any_of HT_.out (by kernel_rfl)) (fun _ _ _ h => h) (Or.inl ⟨by rfl, ?_⟩) ?_ ?_
              rotate_left
              ·intro w'
               go_simp
               with_reducible rfl
              rotate_left
              ·simp only [Act.put, sI_, s0_, sS_, i64_w, i32_w]
               rfl
              refine pure_ (i := 13) (N := some 41) (v := ?_) (a' := ?_) #[true, true, true, true, true, true, true, true, true, true, true, true, false, true, false, false, false, false, false, false, false, false, false, false, false, false, false, false, false, false, false, false, false, false, false, false, false, false, false, false] rfl rfl (any_of HT_.out (by kernel_rfl)) (fun _ _ _ h => h) (Or.inl ⟨by rfl, ?_⟩) ?_ ?_
              rotate_left
              ·intro w'
               go_simp
               with_reducible rfl
              rotate_left
              ·simp only [Act.put, sI_, s0_, sS_, i64_w, i32_w]
               rfl
              refine pure_ (i := 15) (N := some 43) (v := ?_) (a' := ?_) #[true, true, true, true, true, true, true, true, true, true, true, true, false, true, false, true, false, false, false, false, false, false, false, false, false, false, false, false, false, false, false, false, false, false, false, false, false, false, false, false] rfl rfl (any_of HT_.out (by kernel_rfl)) (fun _ _ _ h => h) (Or.inl ⟨by rfl, ?_⟩) ?_ ?_
              rotate_left
              ·intro w'
               go_simp
               with_reducible rfl
              rotate_left
              ·simp only [Act.put, sI_, s0_, sS_, i64_w, i32_w]
               rfl
              refine pure_ (i := 16) (N := some 44) (v := ?_) (a' := ?_) #[true, true, true, true, true, true, true, true, true, true, true, true, false, true, false, true, true, false, false, false, false, false, false, false, false, false, false, false, false, false, false, false, false, false, false, false, false, false, false, false] rfl rfl (any_of HT_.out (by kernel_rfl)) (fun _ _ _ h => h) (Or.inl ⟨by rfl, ?_⟩) ?_ ?_
              rotate_left
              ·intro w'
               go_simp
               with_reducible rfl
              rotate_left
              ·simp only [Act.put, sI_, s0_, sS_, i64_w, i32_w]
               rfl
              refine take_ (i := 12) (N := some 40) (v := ?_) (a' := ?_) #[true, true, true, true, true, true, true, true, true, true, true, true, true, true, false, true, true, false, false, false, false, false, false, false, false, false, false, false, false, false, false, false, false, false, false, false, false, false, false, false] rfl rfl (take_ofW HT_.out HW_.out (by kernel_rfl)) (fun _ _ _ h => h) (Or.inl ⟨by rfl, ?_⟩) hHeld ?_ ?_
              rotate_left
              ·rintro w' ⟨s0, s1, s2, s3, s4, s5, s6, s7⟩
               go_simp
               with_reducible rfl
              rotate_left
              ·simp only [Act.put, sI_, s0_, sS_, i64_w, i32_w]
               rfl
              refine take_ (i := 14) (N := some 42) (v := ?_) (a' := ?_) (tf_ 17 23) rfl rfl (take_ofW HT_.out HW_.out (by kernel_rfl)) (fun _ _ _ h => h) (Or.inl ⟨by rfl, ?_⟩) hHeld ?_ ?_
              rotate_left
              ·rintro w' ⟨s0, s1, s2, s3, s4, s5, s6, s7⟩
               go_simp
               with_reducible rfl
              rotate_left
              ·simp only [Act.put, sI_, s0_, sS_, i64_w, i32_w]
               rfl
              refine pure_ (i := 17) (N := some 45) (v := ?_) (a' := ?_) (tf_ 18 22) rfl rfl (any_of HT_.out (by kernel_rfl)) (fun _ _ _ h => h) (Or.inl ⟨by rfl, ?_⟩) ?_ ?_
              rotate_left
              ·intro w'
               go_simp
               with_reducible rfl
              rotate_left
              ·simp only [Act.put, sI_, s0_, sS_, i64_w, i32_w]
               rfl
              refine pure_ (i := 18) (N := some 46) (v := ?_) (a' := ?_) (tf_ 19 21) rfl rfl (any_of HT_.out (by kernel_rfl)) (fun _ _ _ h => h) (Or.inl ⟨by rfl, ?_⟩) ?_ ?_
              rotate_left
              ·intro w'
               go_simp
               with_reducible rfl
              rotate_left
              ·simp only [Act.put, sI_, s0_, sS_, i64_w, i32_w]
               rfl
              refine take_ (i := 19) (N := some 47) (v := ?_) (a' := ?_) (tf_ 20 20) rfl rfl (take_ofW HT_.out HW_.out (by kernel_rfl)) (fun _ _ _ h => h) (Or.inl ⟨by rfl, ?_⟩) hHeld ?_ ?_
              rotate_left
              ·rintro w' ⟨s0, s1, s2, s3, s4, s5, s6, s7⟩
               go_simp
               with_reducible rfl
              rotate_left
              ·simp only [Act.put, sI_, s0_, sS_, i64_w, i32_w]
               rfl
              refine pure_ (i := 20) (N := some 48) (v := ?_) (a' := ?_) (tf_ 21 19) rfl rfl (any_of HT_.out (by kernel_rfl)) (fun _ _ _ h => h) (Or.inl ⟨by rfl, ?_⟩) ?_ ?_
              rotate_left
              ·intro w'
               go_simp
               with_reducible rfl
              rotate_left
              ·simp only [Act.put, sI_, s0_, sS_, i64_w, i32_w]
               rfl
              refine pure_ (i := 21) (N := some 49) (v := ?_) (a' := ?_) (tf_ 22 18) rfl rfl (any_of HT_.out (by kernel_rfl)) (fun _ _ _ h => h) (Or.inl ⟨by rfl, ?_⟩) ?_ ?_
              rotate_left
              ·intro w'
               go_simp
               with_reducible rfl
              rotate_left
              ·simp only [Act.put, sI_, s0_, sS_, i64_w, i32_w]
               rfl
              refine pure_ (i := 22) (N := some 50) (v := ?_) (a' := ?_) (tf_ 23 17) rfl rfl (any_of HT_.out (by kernel_rfl)) (fun _ _ _ h => h) (Or.inl ⟨by rfl, ?_⟩) ?_ ?_
              rotate_left
              ·intro w'
               go_simp
               with_reducible rfl
              rotate_left
              ·simp only [Act.put, sI_, s0_, sS_, i64_w, i32_w]
               rfl
              refine pure_ (i := 23) (N := some 51) (v := ?_) (a' := ?_) (tf_ 24 16) rfl rfl (any_of HT_.out (by kernel_rfl)) (fun _ _ _ h => h) (Or.inl ⟨by rfl, ?_⟩) ?_ ?_
              rotate_left
              ·intro w'
               go_simp
               with_reducible rfl
              rotate_left
              ·simp only [Act.put, sI_, s0_, sS_, i64_w, i32_w]
               rfl
              refine pure_ (i := 24) (N := some 52) (v := ?_) (a' := ?_) (tf_ 25 15) rfl rfl (any_of HT_.out (by kernel_rfl)) (fun _ _ _ h => h) (Or.inl ⟨by rfl, ?_⟩) ?_ ?_
              rotate_left
              ·intro w'
               go_simp
               with_reducible rfl
              rotate_left
              ·simp only [Act.put, sI_, s0_, sS_, i64_w, i32_w]
               rfl
              refine take_ (i := 25) (N := some 53) (v := ?_) (a' := ?_) (tf_ 26 14) rfl rfl (take_ofW HT_.out HW_.out (by kernel_rfl)) (fun _ _ _ h => h) (Or.inl ⟨by rfl, ?_⟩) hHeld ?_ ?_
              rotate_left
              ·rintro w' ⟨s0, s1, s2, s3, s4, s5, s6, s7⟩
               go_simp
               with_reducible rfl
              rotate_left
              ·simp only [Act.put, sI_, s0_, sS_, i64_w, i32_w]
               rfl
              refine pure_ (i := 26) (N := some 54) (v := ?_) (a' := ?_) (tf_ 27 13) rfl rfl (any_of HT_.out (by kernel_rfl)) (fun _ _ _ h => h) (Or.inl ⟨by rfl, ?_⟩) ?_ ?_
              rotate_left
              ·intro w'
               go_simp
               with_reducible rfl
              rotate_left
              ·simp only [Act.put, sI_, s0_, sS_, i64_w, i32_w]
               rfl
              refine pure_ (i := 27) (N := some 55) (v := ?_) (a' := ?_) (tf_ 28 12) rfl rfl (any_of HT_.out (by kernel_rfl)) (fun _ _ _ h => h) (Or.inl ⟨by rfl, ?_⟩) ?_ ?_
              rotate_left
              ·intro w'
               go_simp
               with_reducible rfl
              rotate_left
              ·simp only [Act.put, sI_, s0_, sS_, i64_w, i32_w]
               rfl
              refine pure_ (i := 28) (N := some 56) (v := ?_) (a' := ?_) (tf_ 29 11) rfl rfl (any_of HT_.out (by kernel_rfl)) (fun _ _ _ h => h) (Or.inl ⟨by rfl, ?_⟩) ?_ ?_
              rotate_left
              ·intro w'
               go_simp
               with_reducible rfl
              rotate_left
              ·simp only [Act.put, sI_, s0_, sS_, i64_w, i32_w]
               rfl
              refine pure_ (i := 29) (N := some 57) (v := ?_) (a' := ?_) (tf_ 30 10) rfl rfl (any_of HT_.out (by kernel_rfl)) (fun _ _ _ h => h) (Or.inl ⟨by rfl, ?_⟩) ?_ ?_
              rotate_left
              ·intro w'
               go_simp
               with_reducible rfl
              rotate_left
              ·simp only [Act.put, sI_, s0_, sS_, i64_w, i32_w]
               rfl
              refine pure_ (i := 30) (N := some 58) (v := undef) (a' := ?_) (tf_ 31 9) rfl rfl (any_of HT_.out (by kernel_rfl)) (fun _ _ _ h => h) (Or.inr ⟨by rfl, rfl⟩) ?_ ?_
              rotate_left
              ·simp only [Act.put, sI_, s0_, sS_, i64_w, i32_w]
               rfl
              refine pure_ (i := 31) (N := some 59) (v := undef) (a' := ?_) (tf_ 32 8) rfl rfl (any_of HT_.out (by kernel_rfl)) (fun _ _ _ h => h) (Or.inr ⟨by rfl, rfl⟩) ?_ ?_
              rotate_left
              ·simp only [Act.put, sI_, s0_, sS_, i64_w, i32_w]
               rfl
              refine pure_ (i := 32) (N := some 60) (v := undef) (a' := ?_) (tf_ 33 7) rfl rfl (any_of HT_.out (by kernel_rfl)) (fun _ _ _ h => h) (Or.inr ⟨by rfl, rfl⟩) ?_ ?_
              rotate_left
              ·simp only [Act.put, sI_, s0_, sS_, i64_w, i32_w]
               rfl
              refine pure_ (i := 33) (N := some 61) (v := undef) (a' := ?_) (tf_ 34 6) rfl rfl (any_of HT_.out (by kernel_rfl)) (fun _ _ _ h => h) (Or.inr ⟨by rfl, rfl⟩) ?_ ?_
              rotate_left
              ·simp only [Act.put, sI_, s0_, sS_, i64_w, i32_w]
               rfl
              refine pure_ (i := 34) (N := some 62) (v := undef) (a' := ?_) (tf_ 35 5) rfl rfl (any_of HT_.out (by kernel_rfl)) (fun _ _ _ h => h) (Or.inr ⟨by rfl, rfl⟩) ?_ ?_
              rotate_left
              ·simp only [Act.put, sI_, s0_, sS_, i64_w, i32_w]
               rfl
              refine pure_ (i := 35) (N := some 63) (v := undef) (a' := ?_) (tf_ 36 4) rfl rfl (any_of HT_.out (by kernel_rfl)) (fun _ _ _ h => h) (Or.inr ⟨by rfl, rfl⟩) ?_ ?_
              rotate_left
              ·simp only [Act.put, sI_, s0_, sS_, i64_w, i32_w]
               rfl
              refine pure_ (i := 36) (N := some 64) (v := undef) (a' := ?_) (tf_ 37 3) rfl rfl (any_of HT_.out (by kernel_rfl)) (fun _ _ _ h => h) (Or.inr ⟨by rfl, rfl⟩) ?_ ?_
              rotate_left
              ·simp only [Act.put, sI_, s0_, sS_, i64_w, i32_w]
               rfl
              refine pure_ (i := 37) (N := some 65) (v := undef) (a' := ?_) (tf_ 38 2) rfl rfl (any_of HT_.out (by kernel_rfl)) (fun _ _ _ h => h) (Or.inr ⟨by rfl, rfl⟩) ?_ ?_
              rotate_left
              ·simp only [Act.put, sI_, s0_, sS_, i64_w, i32_w]
               rfl
              refine pure_ (i := 38) (N := some 66) (v := undef) (a' := ?_) (tf_ 39 1) rfl rfl (any_of HT_.out (by kernel_rfl)) (fun _ _ _ h => h) (Or.inr ⟨by rfl, rfl⟩) ?_ ?_
              rotate_left
              ·simp only [Act.put, sI_, s0_, sS_, i64_w, i32_w]
               rfl
              refine pure_ (i := 39) (N := some 67) (v := ?_) (a' := ?_) (tf_ 40 0) rfl rfl (any_of HT_.out (by kernel_rfl)) (fun _ _ _ h => h) (Or.inl ⟨by rfl, ?_⟩) ?_ ?_
              rotate_left
              ·intro w'
               go_simp
               with_reducible rfl
              rotate_left
              ·simp only [Act.put, sI_, s0_, sS_, i64_w, i32_w]
               rfl
              refine done_ (done_of HT_.out (by kernel_rfl)) ?_
              try go_wp2
              go_ret
              exact ⟨by first | rfl | (simp [errW_none, errW_some] <;> rfl) | (simp only [← hji17]; first | rfl | (simp [errW_none, errW_some] <;> rfl)) | (simp [*, errW_none, errW_some] <;> rfl), by repeat (first | (with_reducible first | exact HB.out | apply below_alloc | apply pw_below_drewN | apply below_drew1 | refine below_set ?_ GE150.out | refine below_set ?_ GE154.out) | exact HB.out)⟩
           ·rw [if_neg c19] at H
            exact absurd H (by simp)
          ·rw [if_neg c18] at H
           exact absurd H (by simp)
         ·rw [if_neg c16] at H
          have c16b0 : decide (0 < x3_2) = false := decide_eq_false c16
          clear c16
          by_cases c59 : (((rd_T67 l0_1 x3_2).f1).size : Int) = 64
          ·rw [if_pos c59] at H
           have c59b0 : ((((rd_T67 l0_1 x3_2).f1).size : Int) == 64) = true := beq_iff_eq.mpr c59
           have c59b1 : ((((rd_T67 l0_1 x3_2).f1).size : Int) != 64) = false := bne_eq_false_iff_eq.mpr c59
           clear c59
           by_cases c60 : (((rd_T67 l0_1 x3_2).f2).size : Int) = 64
           ·rw [if_pos c60] at H
            have c60b0 : ((((rd_T67 l0_1 x3_2).f2).size : Int) == 64) = true := beq_iff_eq.mpr c60
            have c60b1 : ((((rd_T67 l0_1 x3_2).f2).size : Int) != 64) = false := bne_eq_false_iff_eq.mpr c60
            clear c60
            have H' := Aside0.mk H
            clear H
            have hcz61_0 : wr.cell? ⟨gb150, 0, none⟩ = some (.string a0_0) := (blk_cell BK150.out 0).trans rfl
            have hcz61_1 : wr.cell? ⟨gb150, 1, none⟩ = some (.slice A0_1 l0_1.length c0_1) := (blk_cell BK150.out 1).trans rfl
            have hfz61_0 := blk_frozen BK150.out 0
            have hfz61_1 := blk_frozen BK150.out 1
            have p153 : 0 ≤ (x3_2 : Int) := of_decide_eq_true (by first | (with_reducible assumption) | assumption)
            have q153 : x3_2 < (l0_1.length : Int) := of_decide_eq_true (by first | (with_reducible assumption) | assumption)
            obtain ⟨ad153, e153, hx153_0, hx153_1, hx153_2⟩ := at_T67 HR0_1.out x3_2 p153 q153
            cases e153
            replace hx153_0 := (HB.out.cell (World.block_lt_of_cell? w _ hx153_0)).trans hx153_0
            replace hx153_1 := (HB.out.cell (World.block_lt_of_cell? w _ hx153_1)).trans hx153_1
            replace hx153_2 := (HB.out.cell (World.block_lt_of_cell? w _ hx153_2)).trans hx153_2
            replace p153 := eq_true p153
            replace q153 := eq_true q153
            try go_wp2_with (first | ((with_reducible refine gate_dst (N := 4) rfl ?_); (try (refine gate_guard (by rfl) ?_; dsimp only)); refine box_event ?hg (N := 4) ?hd (cs := #[.int .i64 0, .string (⟨#[]⟩ : ByteArray), .string (⟨#[]⟩ : ByteArray)]) (t := 67) ?hr ?_; (case hd => rfl); (case hg => rfl); (case hr => first | (go_simp; done) | (go_simp; rfl)); intro gb154 hg w62 hbox hb; have n0_ := Aside0.mk (blk_below (g := gb150) (o := .cells #[.string a0_0, .slice (some ad153) l0_1.length c0_1] 30 (0, 0)) (by (with_reducible repeat (first | refine blk_drewN ?_ _ | refine blk_drew ?_ | refine blk_alloc ?_ _)); exact BK150.out) hb); have n1_ := Aside0.mk (below_step (by repeat (first | (with_reducible first | exact HB.out | apply below_alloc | apply pw_below_drewN | apply below_drew1 | refine below_set ?_ GE150.out) | exact HB.out)) hb); have n2_ := Aside0.mk (hbox); have n3_ := Aside0.mk ((by rw [hg]; exact (below_size (by repeat (first | (with_reducible first | exact HB.out | apply below_alloc | apply pw_below_drewN | apply below_drew1 | refine below_set ?_ GE150.out) | exact HB.out))) : w.heap.size ≤ gb154)); have n4_ := Aside0.mk ((by rw [hg]; exact (below_size (by repeat (first | (with_reducible first | exact HB.out | apply below_alloc | apply pw_below_drewN | apply below_drew1 | refine below_set ?_ GE150.out) | exact HB.out))) : w.heap.size ≤ gb154)); have n5_ := Aside0.mk ((by rw [hg]; exact Nat.ne_of_lt (blk_lt (g := gb150) (o := .cells #[.string a0_0, .slice (some ad153) l0_1.length c0_1] 30 (0, 0)) (by (with_reducible repeat (first | refine blk_drewN ?_ _ | refine blk_drew ?_ | refine blk_alloc ?_ _)); exact BK150.out)) : gb150 ≠ gb154)); have n6_ := Aside0.mk ((by rw [hg]; exact Nat.ne_of_gt (blk_lt (g := gb150) (o := .cells #[.string a0_0, .slice (some ad153) l0_1.length c0_1] 30 (0, 0)) (by (with_reducible repeat (first | refine blk_drewN ?_ _ | refine blk_drew ?_ | refine blk_alloc ?_ _)); exact BK150.out)) : gb154 ≠ gb150)); clear BK150; clear HB; have BK150 := n0_; have HB := n1_; have BK154 := n2_; have GW154 := n3_; have GE154 := n4_; have NB150_154 := n5_; have NB154_150 := n6_; clear n0_ n1_ n2_ n3_ n4_ n5_ n6_; clear hb hbox hg; have hnb63 := NB154_150.out; have hnc63 := NB150_154.out; have hcz64_0 : w62.cell? ⟨gb154, 0, none⟩ = some (.int .i64 0) := (blk_cell BK154.out 0).trans rfl; have hcz64_1 : w62.cell? ⟨gb154, 1, none⟩ = some (.string (⟨#[]⟩ : ByteArray)) := (blk_cell BK154.out 1).trans rfl; have hcz64_2 : w62.cell? ⟨gb154, 2, none⟩ = some (.string (⟨#[]⟩ : ByteArray)) := (blk_cell BK154.out 2).trans rfl; have hfz64_0 := blk_frozen BK154.out 0; have hfz64_1 := blk_frozen BK154.out 1; have hfz64_2 := blk_frozen BK154.out 2))
            have n0_ : Aside0 ((((w62.setCell ⟨gb154, 0, none⟩ (.int .i64 ((rd_T67 l0_1 x3_2).f0))).setCell ⟨gb154, 1, none⟩ (.string ((rd_T67 l0_1 x3_2).f1))).setCell ⟨gb154, 2, none⟩ (.string ((rd_T67 l0_1 x3_2).f2))).heap[gb150]? = some (.cells #[.string a0_0, .slice (some ad153) l0_1.length c0_1] 30 (0, 0))) := ⟨by (with_reducible repeat (first | refine blk_drewN ?_ _ | refine blk_drew ?_ | refine blk_alloc ?_ _)); refine blk_far ?_ NB150_154.out _; (with_reducible repeat (first | refine blk_drewN ?_ _ | refine blk_drew ?_ | refine blk_alloc ?_ _)); refine blk_far ?_ NB150_154.out _; (with_reducible repeat (first | refine blk_drewN ?_ _ | refine blk_drew ?_ | refine blk_alloc ?_ _)); refine blk_far ?_ NB150_154.out _; (with_reducible repeat (first | refine blk_drewN ?_ _ | refine blk_drew ?_ | refine blk_alloc ?_ _)); exact BK150.out⟩
            have n1_ : Aside0 ((((w62.setCell ⟨gb154, 0, none⟩ (.int .i64 ((rd_T67 l0_1 x3_2).f0))).setCell ⟨gb154, 1, none⟩ (.string ((rd_T67 l0_1 x3_2).f1))).setCell ⟨gb154, 2, none⟩ (.string ((rd_T67 l0_1 x3_2).f2))).heap[gb154]? = some (.cells #[.int .i64 ((rd_T67 l0_1 x3_2).f0), .string ((rd_T67 l0_1 x3_2).f1), .string ((rd_T67 l0_1 x3_2).f2)] 67 (0, 0))) := ⟨by (with_reducible repeat (first | refine blk_drewN ?_ _ | refine blk_drew ?_ | refine blk_alloc ?_ _)); refine blk_put (cs := #[.int .i64 ((rd_T67 l0_1 x3_2).f0), .string ((rd_T67 l0_1 x3_2).f1), .string (⟨#[]⟩ : ByteArray)]) ?_ 2 _ rfl; (with_reducible repeat (first | refine blk_drewN ?_ _ | refine blk_drew ?_ | refine blk_alloc ?_ _)); refine blk_put (cs := #[.int .i64 ((rd_T67 l0_1 x3_2).f0), .string (⟨#[]⟩ : ByteArray), .string (⟨#[]⟩ : ByteArray)]) ?_ 1 _ rfl; (with_reducible repeat (first | refine blk_drewN ?_ _ | refine blk_drew ?_ | refine blk_alloc ?_ _)); refine blk_put (cs := #[.int .i64 0, .string (⟨#[]⟩ : ByteArray), .string (⟨#[]⟩ : ByteArray)]) ?_ 0 _ rfl; (with_reducible repeat (first | refine blk_drewN ?_ _ | refine blk_drew ?_ | refine blk_alloc ?_ _)); exact BK154.out⟩
            have n2_ : Aside0 (Below w.heap.size w (((w62.setCell ⟨gb154, 0, none⟩ (.int .i64 ((rd_T67 l0_1 x3_2).f0))).setCell ⟨gb154, 1, none⟩ (.string ((rd_T67 l0_1 x3_2).f1))).setCell ⟨gb154, 2, none⟩ (.string ((rd_T67 l0_1 x3_2).f2)))) := ⟨by repeat (first | (with_reducible first | exact HB.out | apply below_alloc | apply pw_below_drewN | apply below_drew1 | refine below_set ?_ GE150.out | refine below_set ?_ GE154.out) | exact HB.out)⟩
            (try clear BK150)
            (try clear BK154)
            (try clear HB)
            generalize (((w62.setCell ⟨gb154, 0, none⟩ (.int .i64 ((rd_T67 l0_1 x3_2).f0))).setCell ⟨gb154, 1, none⟩ (.string ((rd_T67 l0_1 x3_2).f1))).setCell ⟨gb154, 2, none⟩ (.string ((rd_T67 l0_1 x3_2).f2))) = w65 at n0_ n1_ n2_ ⊢
            have BK150 := n0_
            have BK154 := n1_
            have HB := n2_
            clear n0_ n1_ n2_
            have n0_ := Aside0.mk (blk_drew BK150.out)
            have n1_ := Aside0.mk (blk_drew BK154.out)
            have n2_ := Aside0.mk (below_drew1 HB.out)
            clear BK150
            clear BK154
            clear HB
            have BK150 := n0_
            have BK154 := n1_
            have HB := n2_
            clear n0_ n1_ n2_
            refine start_ (n := 40) (S := fun w' => w'.cell? ⟨gb154, 0, none⟩ = some (.int .i64 ((rd_T67 l0_1 x3_2).f0)) ∧ w'.cell? ⟨gb154, 1, none⟩ = some (.string ((rd_T67 l0_1 x3_2).f1)) ∧ w'.cell? ⟨gb154, 2, none⟩ = some (.string ((rd_T67 l0_1 x3_2).f2)) ∧ w'.cell? ⟨gb150, 0, none⟩ = some (.string a0_0) ∧ w'.cell? ⟨gb150, 1, none⟩ = some (.slice (some ad153) l0_1.length c0_1)) (ds := []) (tf_ 0 40) (by kernel_rfl) rfl rfl ⟨(blk_cell BK154.out 0).trans rfl, (blk_cell BK154.out 1).trans rfl, (blk_cell BK154.out 2).trans rfl, (blk_cell BK150.out 0).trans rfl, (blk_cell BK150.out 1).trans rfl⟩ (fun hHeld => ?_); refine with_tabW spec_DeviceOk.tab7 spec_DeviceOk.bits7 (fun HT_ HW_ => ?_)
            generalize w65.drew = w66 at BK150 BK154 HB hHeld ⊢
            refine pure_ (i := 0) (N := some 28) (v := ?_) (a' := ?_) (tf_ 1 39) rfl rfl (any_of HT_.out (by kernel_rfl)) (fun _ _ _ h => h) (Or.inl ⟨by rfl, ?_⟩) ?_ ?_
            rotate_left
            ·intro w'
             go_simp
             with_reducible rfl
            rotate_left
            ·simp only [Act.put, sI_, s0_, sS_, i64_w, i32_w]
             rfl
            refine take_ (i := 1) (N := some 29) (v := ?_) (a' := ?_) (tf_ 2 38) rfl rfl (take_ofW HT_.out HW_.out (by kernel_rfl)) (fun _ _ _ h => h) (Or.inl ⟨by rfl, ?_⟩) hHeld ?_ ?_
            rotate_left
            ·rintro w' ⟨s0, s1, s2, s3, s4⟩
             go_simp
             with_reducible rfl
            rotate_left
            ·simp only [Act.put, sI_, s0_, sS_, i64_w, i32_w]
             rfl
            refine take_ (i := 2) (N := some 30) (v := ?_) (a' := ?_) (tf_ 3 37) rfl rfl (take_ofW HT_.out HW_.out (by kernel_rfl)) (fun _ _ _ h => h) (Or.inl ⟨by rfl, ?_⟩) hHeld ?_ ?_
            rotate_left
            ·rintro w' ⟨s0, s1, s2, s3, s4⟩
             go_simp
             with_reducible rfl
            rotate_left
            ·simp only [Act.put, sI_, s0_, sS_, i64_w, i32_w]
             rfl
            refine one_ (i := 3) (N := some 31) (tf_ 4 36) rfl rfl (one_of HT_.out (by kernel_rfl)) (by decide) (fun K hK => ?_)
            refine goes_ Try.func71 (by kernel_rfl) rfl #[.agg #[.string a0_0, .slice (some ad153) l0_1.length c0_1]] (by rfl) rfl rfl (by (try simp only [List.map_toArray, List.map_cons, List.map_nil]); first | done | rfl | (simp only [List.length_drop, List.length_take]; rfl)) ?_
            with_reducible refine (spec_l2Count.calls a0_0 _ _ l0_1 t155 _ ?side1 ?side2 A13.out).mono ?_
            (case side1 => repeat (first | exact (Kd.C_below HR0_1.out HB.out) | (with_reducible refine Kd.C_alloc ?_ _) | (with_reducible refine Kd.C_drewN ?_ _) | (with_reducible refine Kd.C_drew ?_)))
            (case side2 => exact HC0_1.out)
            rintro e w67 ⟨rfl, hb⟩
            refine ⟨_, rfl, ?_⟩
            have n0_ := Aside0.mk (blk_below (g := gb150) (o := .cells #[.string a0_0, .slice (some ad153) l0_1.length c0_1] 30 (0, 0)) (by (with_reducible repeat (first | refine blk_drewN ?_ _ | refine blk_drew ?_ | refine blk_alloc ?_ _)); exact BK150.out) hb)
            have n1_ := Aside0.mk (blk_below (g := gb154) (o := .cells #[.int .i64 ((rd_T67 l0_1 x3_2).f0), .string ((rd_T67 l0_1 x3_2).f1), .string ((rd_T67 l0_1 x3_2).f2)] 67 (0, 0)) (by (with_reducible repeat (first | refine blk_drewN ?_ _ | refine blk_drew ?_ | refine blk_alloc ?_ _)); exact BK154.out) hb)
            have n2_ := Aside0.mk (below_step (by repeat (first | (with_reducible first | exact HB.out | apply below_alloc | apply pw_below_drewN | apply below_drew1 | refine below_set ?_ GE150.out | refine below_set ?_ GE154.out) | exact HB.out)) hb)
            clear BK150
            clear BK154
            clear HB
            have BK150 := n0_
            have BK154 := n1_
            have HB := n2_
            clear n0_ n1_ n2_
            (try clear hb)
            (try clear hb2)
            (try clear hk)
            (try clear hi)
            refine hK.out _ _ ⟨(blk_cell BK154.out 0).trans rfl, (blk_cell BK154.out 1).trans rfl, (blk_cell BK154.out 2).trans rfl, (blk_cell BK150.out 0).trans rfl, (blk_cell BK150.out 1).trans rfl⟩ (fun hHeld => ?_)
            clear hK K
            refine norm_ (a' := ?_) ?_ ?_
            rotate_left
            ·show Act.put _ (some 31) _ = _
             simp only [Act.put, sI_, s0_, sS_, i64_w, i32_w]
             rfl
            refine pure_ (i := 4) (N := some 32) (v := ?_) (a' := ?_) (tf_ 5 35) rfl rfl (any_of HT_.out (by kernel_rfl)) (fun _ _ _ h => h) (Or.inl ⟨by rfl, ?_⟩) ?_ ?_
            rotate_left
            ·intro w'
             go_simp
             with_reducible rfl
            rotate_left
            ·simp only [Act.put, sI_, s0_, sS_, i64_w, i32_w]
             rfl
            refine one_ (i := 5) (N := some 33) (tf_ 6 34) rfl rfl (one_of HT_.out (by kernel_rfl)) (by decide) (fun K hK => ?_)
            refine goes_ Try.func70 (by kernel_rfl) rfl #[.int .i64 ((rd_T67 l0_1 x3_2).f0), .int .i64 0, .int .i64 (wrap64 (t155 - 1))] (by rfl) rfl rfl (by (try simp only [List.map_toArray, List.map_cons, List.map_nil]); first | done | rfl | (simp only [List.length_drop, List.length_take]; rfl) | ((try simp only [decide_eq_false_iff_not, decide_eq_true_eq, eq_iff_iff, iff_true, iff_false, Int.not_lt, Int.not_le, Nat.not_lt, Nat.not_le, ByteArray.size_append, ByteArray.size_extract] at *); (rw [show wrap64 (t155 - 1) = t155 - 1 from by unfold Go.RowKit.wrap64; omega]); rfl)) ?_
            with_reducible refine (spec_l1In.calls ((rd_T67 l0_1 x3_2).f0) 0 (wrap64 (t155 - 1)) true _ A14.out).mono ?_
            rintro e w' ⟨rfl, ⟨nd, rfl⟩⟩
            refine ⟨_, rfl, ?_⟩
            refine hK.out _ _ ⟨(blk_cell BK154.out 0).trans rfl, (blk_cell BK154.out 1).trans rfl, (blk_cell BK154.out 2).trans rfl, (blk_cell BK150.out 0).trans rfl, (blk_cell BK150.out 1).trans rfl⟩ (fun hHeld => ?_)
            clear hK K
            refine norm_ (a' := ?_) ?_ ?_
            rotate_left
            ·show Act.put _ (some 33) _ = _
             simp only [Act.put, sI_, s0_, sS_, i64_w, i32_w]
             rfl
            refine pure_ (i := 6) (N := some 34) (v := ?_) (a' := ?_) (tf_ 7 33) rfl rfl (any_of HT_.out (by kernel_rfl)) (fun _ _ _ h => h) (Or.inl ⟨by rfl, ?_⟩) ?_ ?_
            rotate_left
            ·intro w'
             go_simp
             with_reducible rfl
            rotate_left
            ·simp only [Act.put, sI_, s0_, sS_, i64_w, i32_w]
             rfl
            refine pure_ (i := 7) (N := some 35) (v := ?_) (a' := ?_) (tf_ 8 32) rfl rfl (any_of HT_.out (by kernel_rfl)) (fun _ _ _ h => h) (Or.inl ⟨by rfl, ?_⟩) ?_ ?_
            rotate_left
            ·intro w'
             go_simp
             with_reducible rfl
            rotate_left
            ·simp only [Act.put, sI_, s0_, sS_, i64_w, i32_w]
             rfl
            refine pure_ (i := 8) (N := some 36) (v := ?_) (a' := ?_) (tf_ 9 31) rfl rfl (any_of HT_.out (by kernel_rfl)) (fun _ _ _ h => h) (Or.inl ⟨by rfl, ?_⟩) ?_ ?_
            rotate_left
            ·intro w'
             go_simp
             with_reducible rfl
            rotate_left
            ·simp only [Act.put, sI_, s0_, sS_, i64_w, i32_w]
             rfl
            refine pure_ (i := 9) (N := some 37) (v := ?_) (a' := ?_) (tf_ 10 30) rfl rfl (any_of HT_.out (by kernel_rfl)) (fun _ _ _ h => h) (Or.inl ⟨by rfl, ?_⟩) ?_ ?_
            rotate_left
            ·intro w'
             go_simp
             with_reducible rfl
            rotate_left
            ·simp only [Act.put, sI_, s0_, sS_, i64_w, i32_w]
             rfl
            refine pure_ (i := 10) (N := some 38) (v := ?_) (a' := ?_) (tf_ 11 29) rfl rfl (any_of HT_.out (by kernel_rfl)) (fun _ _ _ h => h) (Or.inl ⟨by rfl, ?_⟩) ?_ ?_
            rotate_left
            ·intro w'
             go_simp
             with_reducible rfl
            rotate_left
            ·simp only [Act.put, sI_, s0_, sS_, i64_w, i32_w]
             rfl
            refine pure_ (i := 11) (N := some 39) (v := undef) (a' := ?_) (tf_ 12 28) rfl rfl (any_of HT_.out (by kernel_rfl)) (fun _ _ _ h => h) (Or.inr ⟨by rfl, rfl⟩) ?_ ?_
            rotate_left
            ·simp only [Act.put, sI_, s0_, sS_, i64_w, i32_w]
             rfl
            refine pure_ (i := 12) (N := some 40) (v := undef) (a' := ?_) (tf_ 13 27) rfl rfl (any_of HT_.out (by kernel_rfl)) (fun _ _ _ h => h) (Or.inr ⟨by rfl, rfl⟩) ?_ ?_
            rotate_left
            ·simp only [Act.put, sI_, s0_, sS_, i64_w, i32_w]
             rfl
            refine pure_ (i := 13) (N := some 41) (v := undef) (a' := ?_) (tf_ 14 26) rfl rfl (any_of HT_.out (by kernel_rfl)) (fun _ _ _ h => h) (Or.inr ⟨by rfl, rfl⟩) ?_ ?_
            rotate_left
            ·simp only [Act.put, sI_, s0_, sS_, i64_w, i32_w]
             rfl
            refine pure_ (i := 14) (N := some 42) (v := undef) (a' := ?_) (tf_ 15 25) rfl rfl (any_of HT_.out (by kernel_rfl)) (fun _ _ _ h => h) (Or.inr ⟨by rfl, rfl⟩) ?_ ?_
            rotate_left
            ·simp only [Act.put, sI_, s0_, sS_, i64_w, i32_w]
             rfl
            refine pure_ (i := 15) (N := some 43) (v := undef) (a' := ?_) (tf_ 16 24) rfl rfl (any_of HT_.out (by kernel_rfl)) (fun _ _ _ h => h) (Or.inr ⟨by rfl, rfl⟩) ?_ ?_
            rotate_left
            ·simp only [Act.put, sI_, s0_, sS_, i64_w, i32_w]
             rfl
            refine pure_ (i := 16) (N := some 44) (v := undef) (a' := ?_) (tf_ 17 23) rfl rfl (any_of HT_.out (by kernel_rfl)) (fun _ _ _ h => h) (Or.inr ⟨by rfl, rfl⟩) ?_ ?_
            rotate_left
            ·simp only [Act.put, sI_, s0_, sS_, i64_w, i32_w]
             rfl
            refine pure_ (i := 17) (N := some 45) (v := undef) (a' := ?_) (tf_ 18 22) rfl rfl (any_of HT_.out (by kernel_rfl)) (fun _ _ _ h => h) (Or.inr ⟨by rfl, rfl⟩) ?_ ?_
            rotate_left
            ·simp only [Act.put, sI_, s0_, sS_, i64_w, i32_w]
             rfl
            refine pure_ (i := 18) (N := some 46) (v := undef) (a' := ?_) (tf_ 19 21) rfl rfl (any_of HT_.out (by kernel_rfl)) (fun _ _ _ h => h) (Or.inr ⟨by rfl, rfl⟩) ?_ ?_
            rotate_left
            ·simp only [Act.put, sI_, s0_, sS_, i64_w, i32_w]
             rfl
            refine pure_ (i := 19) (N := some 47) (v := undef) (a' := ?_) (tf_ 20 20) rfl rfl (any_of HT_.out (by kernel_rfl)) (fun _ _ _ h => h) (Or.inr ⟨by rfl, rfl⟩) ?_ ?_
            rotate_left
            ·simp only [Act.put, sI_, s0_, sS_, i64_w, i32_w]
             rfl
            refine pure_ (i := 20) (N := some 48) (v := undef) (a' := ?_) (tf_ 21 19) rfl rfl (any_of HT_.out (by kernel_rfl)) (fun _ _ _ h => h) (Or.inr ⟨by rfl, rfl⟩) ?_ ?_
            rotate_left
            ·simp only [Act.put, sI_, s0_, sS_, i64_w, i32_w]
             rfl
            refine pure_ (i := 21) (N := some 49) (v := ?_) (a' := ?_) (tf_ 22 18) rfl rfl (any_of HT_.out (by kernel_rfl)) (fun _ _ _ h => h) (Or.inl ⟨by rfl, ?_⟩) ?_ ?_
            rotate_left
            ·intro w'
             go_simp
             with_reducible rfl
            rotate_left
            ·simp only [Act.put, sI_, s0_, sS_, i64_w, i32_w]
             rfl
            refine pure_ (i := 22) (N := some 50) (v := ?_) (a' := ?_) (tf_ 23 17) rfl rfl (any_of HT_.out (by kernel_rfl)) (fun _ _ _ h => h) (Or.inl ⟨by rfl, ?_⟩) ?_ ?_
            rotate_left
            ·intro w'
             go_simp
             with_reducible rfl
            rotate_left
            ·simp only [Act.put, sI_, s0_, sS_, i64_w, i32_w]
             rfl
            refine pure_ (i := 23) (N := some 51) (v := ?_) (a' := ?_) (tf_ 24 16) rfl rfl (any_of HT_.out (by kernel_rfl)) (fun _ _ _ h => h) (Or.inl ⟨by rfl, ?_⟩) ?_ ?_
            rotate_left
            ·intro w'
             go_simp
             with_reducible rfl
            rotate_left
            ·simp only [Act.put, sI_, s0_, sS_, i64_w, i32_w]
             rfl
            refine pure_ (i := 24) (N := some 52) (v := ?_) (a' := ?_) (tf_ 25 15) rfl rfl (any_of HT_.out (by kernel_rfl)) (fun _ _ _ h => h) (Or.inl ⟨by rfl, ?_⟩) ?_ ?_
            rotate_left
            ·intro w'
             go_simp
             with_reducible rfl
            rotate_left
            ·simp only [Act.put, sI_, s0_, sS_, i64_w, i32_w]
             rfl
            refine take_ (i := 25) (N := some 53) (v := ?_) (a' := ?_) (tf_ 26 14) rfl rfl (take_ofW HT_.out HW_.out (by kernel_rfl)) (fun _ _ _ h => h) (Or.inl ⟨by rfl, ?_⟩) hHeld ?_ ?_
            rotate_left
            ·rintro w' ⟨s0, s1, s2, s3, s4⟩
             go_simp
             with_reducible rfl
            rotate_left
            ·simp only [Act.put, sI_, s0_, sS_, i64_w, i32_w]
             rfl
            refine pure_ (i := 26) (N := some 54) (v := ?_) (a' := ?_) (tf_ 27 13) rfl rfl (any_of HT_.out (by kernel_rfl)) (fun _ _ _ h => h) (Or.inl ⟨by rfl, ?_⟩) ?_ ?_
            rotate_left
            ·intro w'
             go_simp
             with_reducible rfl
            rotate_left
            ·simp only [Act.put, sI_, s0_, sS_, i64_w, i32_w]
             rfl
            refine pure_ (i := 27) (N := some 55) (v := ?_) (a' := ?_) (tf_ 28 12) rfl rfl (any_of HT_.out (by kernel_rfl)) (fun _ _ _ h => h) (Or.inl ⟨by rfl, ?_⟩) ?_ ?_
            rotate_left
            ·intro w'
             go_simp
             with_reducible rfl
            rotate_left
            ·simp only [Act.put, sI_, s0_, sS_, i64_w, i32_w]
             rfl
            refine pure_ (i := 28) (N := some 56) (v := ?_) (a' := ?_) (tf_ 29 11) rfl rfl (any_of HT_.out (by kernel_rfl)) (fun _ _ _ h => h) (Or.inl ⟨by rfl, ?_⟩) ?_ ?_
            rotate_left
            ·intro w'
             go_simp
             with_reducible rfl
            rotate_left
            ·simp only [Act.put, sI_, s0_, sS_, i64_w, i32_w]
             rfl
            refine pure_ (i := 29) (N := some 57) (v := ?_) (a' := ?_) (tf_ 30 10) rfl rfl (any_of HT_.out (by kernel_rfl)) (fun _ _ _ h => h) (Or.inl ⟨by rfl, ?_⟩) ?_ ?_
            rotate_left
            ·intro w'
             go_simp
             with_reducible rfl
            rotate_left
            ·simp only [Act.put, sI_, s0_, sS_, i64_w, i32_w]
             rfl
            refine pure_ (i := 30) (N := some 58) (v := ?_) (a' := ?_) (tf_ 31 9) rfl rfl (any_of HT_.out (by kernel_rfl)) (fun _ _ _ h => h) (Or.inl ⟨by rfl, ?_⟩) ?_ ?_
            rotate_left
            ·intro w'
             go_simp
             with_reducible rfl
            rotate_left
            ·simp only [Act.put, sI_, s0_, sS_, i64_w, i32_w]
             rfl
            refine take_ (i := 31) (N := some 59) (v := ?_) (a' := ?_) (tf_ 32 8) rfl rfl (take_ofW HT_.out HW_.out (by kernel_rfl)) (fun _ _ _ h => h) (Or.inl ⟨by rfl, ?_⟩) hHeld ?_ ?_
            rotate_left
            ·rintro w' ⟨s0, s1, s2, s3, s4⟩
             go_simp
             with_reducible rfl
            rotate_left
            ·simp only [Act.put, sI_, s0_, sS_, i64_w, i32_w]
             rfl
            refine pure_ (i := 32) (N := some 60) (v := ?_) (a' := ?_) (tf_ 33 7) rfl rfl (any_of HT_.out (by kernel_rfl)) (fun _ _ _ h => h) (Or.inl ⟨by rfl, ?_⟩) ?_ ?_
            rotate_left
            ·intro w'
             go_simp
             with_reducible rfl
            rotate_left
            ·simp only [Act.put, sI_, s0_, sS_, i64_w, i32_w]
             rfl
            refine pure_ (i := 33) (N := some 61) (v := ?_) (a' := ?_) (tf_ 34 6) rfl rfl (any_of HT_.out (by kernel_rfl)) (fun _ _ _ h => h) (Or.inl ⟨by rfl, ?_⟩) ?_ ?_
            rotate_left
            ·intro w'
             go_simp
             with_reducible rfl
            rotate_left
            ·simp only [Act.put, sI_, s0_, sS_, i64_w, i32_w]
             rfl
            refine pure_ (i := 34) (N := some 62) (v := ?_) (a' := ?_) (tf_ 35 5) rfl rfl (any_of HT_.out (by kernel_rfl)) (fun _ _ _ h => h) (Or.inl ⟨by rfl, ?_⟩) ?_ ?_
            rotate_left
            ·intro w'
             go_simp
             with_reducible rfl
            rotate_left
            ·simp only [Act.put, sI_, s0_, sS_, i64_w, i32_w]
             rfl
            refine pure_ (i := 35) (N := some 63) (v := undef) (a' := ?_) (tf_ 36 4) rfl rfl (any_of HT_.out (by kernel_rfl)) (fun _ _ _ h => h) (Or.inr ⟨by rfl, rfl⟩) ?_ ?_
            rotate_left
            ·simp only [Act.put, sI_, s0_, sS_, i64_w, i32_w]
             rfl
            refine pure_ (i := 36) (N := some 64) (v := undef) (a' := ?_) (tf_ 37 3) rfl rfl (any_of HT_.out (by kernel_rfl)) (fun _ _ _ h => h) (Or.inr ⟨by rfl, rfl⟩) ?_ ?_
            rotate_left
            ·simp only [Act.put, sI_, s0_, sS_, i64_w, i32_w]
             rfl
            refine pure_ (i := 37) (N := some 65) (v := undef) (a' := ?_) (tf_ 38 2) rfl rfl (any_of HT_.out (by kernel_rfl)) (fun _ _ _ h => h) (Or.inr ⟨by rfl, rfl⟩) ?_ ?_
            rotate_left
            ·simp only [Act.put, sI_, s0_, sS_, i64_w, i32_w]
             rfl
            refine pure_ (i := 38) (N := some 66) (v := ?_) (a' := ?_) (tf_ 39 1) rfl rfl (any_of HT_.out (by kernel_rfl)) (fun _ _ _ h => h) (Or.inl ⟨by rfl, ?_⟩) ?_ ?_
            rotate_left
            ·intro w'
             go_simp
             with_reducible rfl
            rotate_left
            ·simp only [Act.put, sI_, s0_, sS_, i64_w, i32_w]
             rfl
            refine pure_ (i := 39) (N := some 67) (v := ?_) (a' := ?_) (tf_ 40 0) rfl rfl (any_of HT_.out (by kernel_rfl)) (fun _ _ _ h => h) (Or.inl ⟨by rfl, ?_⟩) ?_ ?_
            rotate_left
            ·intro w'
             go_simp
             with_reducible rfl
            rotate_left
            ·simp only [Act.put, sI_, s0_, sS_, i64_w, i32_w]
             rfl
            refine done_ (done_of HT_.out (by kernel_rfl)) ?_
            try go_wp2
            go_roundg k2
            case measure => have := HJ1.out; have := HK2.out; omega
            case rel => exact ⟨(wrap64 (x3_2 + 1)), (by first | rfl | (simp; done) | (simp [*]; done)), H', ⟨by have := HJ1.out; have := HK2.out; omega⟩, ⟨by (with_reducible repeat (first | refine blk_drewN ?_ _ | refine blk_drew ?_ | refine blk_alloc ?_ _)); exact BK150.out⟩, ⟨by repeat (first | (with_reducible first | exact HB.out | apply below_alloc | apply pw_below_drewN | apply below_drew1 | refine below_set ?_ GE150.out | refine below_set ?_ GE154.out) | exact HB.out)⟩⟩
           ·rw [if_neg c60] at H
            have c60b0 : ((((rd_T67 l0_1 x3_2).f2).size : Int) == 64) = false := beq_eq_false_iff_ne.mpr c60
            have c60b1 : ((((rd_T67 l0_1 x3_2).f2).size : Int) != 64) = true := bne_iff_ne.mpr c60
            by_cases c68 : ((rd_T67 l0_1 x3_2).f2).toList = ([] : List UInt8)
            ·rw [if_pos c68] at H
             have c68b0 : (((rd_T67 l0_1 x3_2).f2).toList == ([] : List UInt8)) = true := beq_iff_eq.mpr c68
             have c68b1 : (((rd_T67 l0_1 x3_2).f2).toList != ([] : List UInt8)) = false := bne_eq_false_iff_eq.mpr c68
             (try (have c68b2 : ((rd_T67 l0_1 x3_2).f2).toList.isEmpty = true := by simpa using c68))
             (try (have c68b3 : (!((rd_T67 l0_1 x3_2).f2).toList.isEmpty) = false := by simpa using c68))
             clear c68
             have H' := Aside0.mk H
             clear H
             have hcz69_0 : wr.cell? ⟨gb150, 0, none⟩ = some (.string a0_0) := (blk_cell BK150.out 0).trans rfl
             have hcz69_1 : wr.cell? ⟨gb150, 1, none⟩ = some (.slice A0_1 l0_1.length c0_1) := (blk_cell BK150.out 1).trans rfl
             have hfz69_0 := blk_frozen BK150.out 0
             have hfz69_1 := blk_frozen BK150.out 1
             have p153 : 0 ≤ (x3_2 : Int) := of_decide_eq_true (by first | (with_reducible assumption) | assumption)
             have q153 : x3_2 < (l0_1.length : Int) := of_decide_eq_true (by first | (with_reducible assumption) | assumption)
             obtain ⟨ad153, e153, hx153_0, hx153_1, hx153_2⟩ := at_T67 HR0_1.out x3_2 p153 q153
             cases e153
             replace hx153_0 := (HB.out.cell (World.block_lt_of_cell? w _ hx153_0)).trans hx153_0
             replace hx153_1 := (HB.out.cell (World.block_lt_of_cell? w _ hx153_1)).trans hx153_1
             replace hx153_2 := (HB.out.cell (World.block_lt_of_cell? w _ hx153_2)).trans hx153_2
             replace p153 := eq_true p153
             replace q153 := eq_true q153
             try go_wp2_with (first | ((with_reducible refine gate_dst (N := 4) rfl ?_); (try (refine gate_guard (by rfl) ?_; dsimp only)); refine box_event ?hg (N := 4) ?hd (cs := #[.int .i64 0, .string (⟨#[]⟩ : ByteArray), .string (⟨#[]⟩ : ByteArray)]) (t := 67) ?hr ?_; (case hd => rfl); (case hg => rfl); (case hr => first | (go_simp; done) | (go_simp; rfl)); intro gb154 hg w70 hbox hb; have n0_ := Aside0.mk (blk_below (g := gb150) (o := .cells #[.string a0_0, .slice (some ad153) l0_1.length c0_1] 30 (0, 0)) (by (with_reducible repeat (first | refine blk_drewN ?_ _ | refine blk_drew ?_ | refine blk_alloc ?_ _)); exact BK150.out) hb); have n1_ := Aside0.mk (below_step (by repeat (first | (with_reducible first | exact HB.out | apply below_alloc | apply pw_below_drewN | apply below_drew1 | refine below_set ?_ GE150.out) | exact HB.out)) hb); have n2_ := Aside0.mk (hbox); have n3_ := Aside0.mk ((by rw [hg]; exact (below_size (by repeat (first | (with_reducible first | exact HB.out | apply below_alloc | apply pw_below_drewN | apply below_drew1 | refine below_set ?_ GE150.out) | exact HB.out))) : w.heap.size ≤ gb154)); have n4_ := Aside0.mk ((by rw [hg]; exact (below_size (by repeat (first | (with_reducible first | exact HB.out | apply below_alloc | apply pw_below_drewN | apply below_drew1 | refine below_set ?_ GE150.out) | exact HB.out))) : w.heap.size ≤ gb154)); have n5_ := Aside0.mk ((by rw [hg]; exact Nat.ne_of_lt (blk_lt (g := gb150) (o := .cells #[.string a0_0, .slice (some ad153) l0_1.length c0_1] 30 (0, 0)) (by (with_reducible repeat (first | refine blk_drewN ?_ _ | refine blk_drew ?_ | refine blk_alloc ?_ _)); exact BK150.out)) : gb150 ≠ gb154)); have n6_ := Aside0.mk ((by rw [hg]; exact Nat.ne_of_gt (blk_lt (g := gb150) (o := .cells #[.string a0_0, .slice (some ad153) l0_1.length c0_1] 30 (0, 0)) (by (with_reducible repeat (first | refine blk_drewN ?_ _ | refine blk_drew ?_ | refine blk_alloc ?_ _)); exact BK150.out)) : gb154 ≠ gb150)); clear BK150; clear HB; have BK150 := n0_; have HB := n1_; have BK154 := n2_; have GW154 := n3_; have GE154 := n4_; have NB150_154 := n5_; have NB154_150 := n6_; clear n0_ n1_ n2_ n3_ n4_ n5_ n6_; clear hb hbox hg; have hnb71 := NB154_150.out; have hnc71 := NB150_154.out; have hcz72_0 : w70.cell? ⟨gb154, 0, none⟩ = some (.int .i64 0) := (blk_cell BK154.out 0).trans rfl; have hcz72_1 : w70.cell? ⟨gb154, 1, none⟩ = some (.string (⟨#[]⟩ : ByteArray)) := (blk_cell BK154.out 1).trans rfl; have hcz72_2 : w70.cell? ⟨gb154, 2, none⟩ = some (.string (⟨#[]⟩ : ByteArray)) := (blk_cell BK154.out 2).trans rfl; have hfz72_0 := blk_frozen BK154.out 0; have hfz72_1 := blk_frozen BK154.out 1; have hfz72_2 := blk_frozen BK154.out 2))
             have n0_ : Aside0 ((((w70.setCell ⟨gb154, 0, none⟩ (.int .i64 ((rd_T67 l0_1 x3_2).f0))).setCell ⟨gb154, 1, none⟩ (.string ((rd_T67 l0_1 x3_2).f1))).setCell ⟨gb154, 2, none⟩ (.string ((rd_T67 l0_1 x3_2).f2))).heap[gb150]? = some (.cells #[.string a0_0, .slice (some ad153) l0_1.length c0_1] 30 (0, 0))) := ⟨by (with_reducible repeat (first | refine blk_drewN ?_ _ | refine blk_drew ?_ | refine blk_alloc ?_ _)); refine blk_far ?_ NB150_154.out _; (with_reducible repeat (first | refine blk_drewN ?_ _ | refine blk_drew ?_ | refine blk_alloc ?_ _)); refine blk_far ?_ NB150_154.out _; (with_reducible repeat (first | refine blk_drewN ?_ _ | refine blk_drew ?_ | refine blk_alloc ?_ _)); refine blk_far ?_ NB150_154.out _; (with_reducible repeat (first | refine blk_drewN ?_ _ | refine blk_drew ?_ | refine blk_alloc ?_ _)); exact BK150.out⟩
             have n1_ : Aside0 ((((w70.setCell ⟨gb154, 0, none⟩ (.int .i64 ((rd_T67 l0_1 x3_2).f0))).setCell ⟨gb154, 1, none⟩ (.string ((rd_T67 l0_1 x3_2).f1))).setCell ⟨gb154, 2, none⟩ (.string ((rd_T67 l0_1 x3_2).f2))).heap[gb154]? = some (.cells #[.int .i64 ((rd_T67 l0_1 x3_2).f0), .string ((rd_T67 l0_1 x3_2).f1), .string ((rd_T67 l0_1 x3_2).f2)] 67 (0, 0))) := ⟨by (with_reducible repeat (first | refine blk_drewN ?_ _ | refine blk_drew ?_ | refine blk_alloc ?_ _)); refine blk_put (cs := #[.int .i64 ((rd_T67 l0_1 x3_2).f0), .string ((rd_T67 l0_1 x3_2).f1), .string (⟨#[]⟩ : ByteArray)]) ?_ 2 _ rfl; (with_reducible repeat (first | refine blk_drewN ?_ _ | refine blk_drew ?_ | refine blk_alloc ?_ _)); refine blk_put (cs := #[.int .i64 ((rd_T67 l0_1 x3_2).f0), .string (⟨#[]⟩ : ByteArray), .string (⟨#[]⟩ : ByteArray)]) ?_ 1 _ rfl; (with_reducible repeat (first | refine blk_drewN ?_ _ | refine blk_drew ?_ | refine blk_alloc ?_ _)); refine blk_put (cs := #[.int .i64 0, .string (⟨#[]⟩ : ByteArray), .string (⟨#[]⟩ : ByteArray)]) ?_ 0 _ rfl; (with_reducible repeat (first | refine blk_drewN ?_ _ | refine blk_drew ?_ | refine blk_alloc ?_ _)); exact BK154.out⟩
             have n2_ : Aside0 (Below w.heap.size w (((w70.setCell ⟨gb154, 0, none⟩ (.int .i64 ((rd_T67 l0_1 x3_2).f0))).setCell ⟨gb154, 1, none⟩ (.string ((rd_T67 l0_1 x3_2).f1))).setCell ⟨gb154, 2, none⟩ (.string ((rd_T67 l0_1 x3_2).f2)))) := ⟨by repeat (first | (with_reducible first | exact HB.out | apply below_alloc | apply pw_below_drewN | apply below_drew1 | refine below_set ?_ GE150.out | refine below_set ?_ GE154.out) | exact HB.out)⟩
             (try clear BK150)
             (try clear BK154)
             (try clear HB)
             generalize (((w70.setCell ⟨gb154, 0, none⟩ (.int .i64 ((rd_T67 l0_1 x3_2).f0))).setCell ⟨gb154, 1, none⟩ (.string ((rd_T67 l0_1 x3_2).f1))).setCell ⟨gb154, 2, none⟩ (.string ((rd_T67 l0_1 x3_2).f2))) = w73 at n0_ n1_ n2_ ⊢
             have BK150 := n0_
             have BK154 := n1_
             have HB := n2_
             clear n0_ n1_ n2_
             have n0_ := Aside0.mk (blk_drew BK150.out)
             have n1_ := Aside0.mk (blk_drew BK154.out)
             have n2_ := Aside0.mk (below_drew1 HB.out)
             clear BK150
             clear BK154
             clear HB
             have BK150 := n0_
             have BK154 := n1_
             have HB := n2_
             clear n0_ n1_ n2_
             refine start_ (n := 40) (S := fun w' => w'.cell? ⟨gb154, 0, none⟩ = some (.int .i64 ((rd_T67 l0_1 x3_2).f0)) ∧ w'.cell? ⟨gb154, 1, none⟩ = some (.string ((rd_T67 l0_1 x3_2).f1)) ∧ w'.cell? ⟨gb154, 2, none⟩ = some (.string ((rd_T67 l0_1 x3_2).f2)) ∧ w'.cell? ⟨gb150, 0, none⟩ = some (.string a0_0) ∧ w'.cell? ⟨gb150, 1, none⟩ = some (.slice (some ad153) l0_1.length c0_1)) (ds := []) (tf_ 0 40) (by kernel_rfl) rfl rfl ⟨(blk_cell BK154.out 0).trans rfl, (blk_cell BK154.out 1).trans rfl, (blk_cell BK154.out 2).trans rfl, (blk_cell BK150.out 0).trans rfl, (blk_cell BK150.out 1).trans rfl⟩ (fun hHeld => ?_); refine with_tabW spec_DeviceOk.tab7 spec_DeviceOk.bits7 (fun HT_ HW_ => ?_)
             generalize w73.drew = w74 at BK150 BK154 HB hHeld ⊢
             refine pure_ (i := 0) (N := some 28) (v := ?_) (a' := ?_) (tf_ 1 39) rfl rfl (any_of HT_.out (by kernel_rfl)) (fun _ _ _ h => h) (Or.inl ⟨by rfl, ?_⟩) ?_ ?_
             rotate_left
             ·intro w'
              go_simp
              with_reducible rfl
             rotate_left
             ·simp only [Act.put, sI_, s0_, sS_, i64_w, i32_w]
              rfl
             refine take_ (i := 1) (N := some 29) (v := ?_) (a' := ?_) (tf_ 2 38) rfl rfl (take_ofW HT_.out HW_.out (by kernel_rfl)) (fun _ _ _ h => h) (Or.inl ⟨by rfl, ?_⟩) hHeld ?_ ?_
             rotate_left
             ·rintro w' ⟨s0, s1, s2, s3, s4⟩
              go_simp
              with_reducible rfl
             rotate_left
             ·simp only [Act.put, sI_, s0_, sS_, i64_w, i32_w]
              rfl
             refine take_ (i := 2) (N := some 30) (v := ?_) (a' := ?_) (tf_ 3 37) rfl rfl (take_ofW HT_.out HW_.out (by kernel_rfl)) (fun _ _ _ h => h) (Or.inl ⟨by rfl, ?_⟩) hHeld ?_ ?_
             rotate_left
             ·rintro w' ⟨s0, s1, s2, s3, s4⟩
              go_simp
              with_reducible rfl
             rotate_left
             ·simp only [Act.put, sI_, s0_, sS_, i64_w, i32_w]
              rfl
             refine one_ (i := 3) (N := some 31) (tf_ 4 36) rfl rfl (one_of HT_.out (by kernel_rfl)) (by decide) (fun K hK => ?_)
             refine goes_ Try.func71 (by kernel_rfl) rfl #[.agg #[.string a0_0, .slice (some ad153) l0_1.length c0_1]] (by rfl) rfl rfl (by (try simp only [List.map_toArray, List.map_cons, List.map_nil]); first | done | rfl | (simp only [List.length_drop, List.length_take]; rfl)) ?_
             with_reducible refine (spec_l2Count.calls a0_0 _ _ l0_1 t155 _ ?side1 ?side2 A13.out).mono ?_
             (case side1 => repeat (first | exact (Kd.C_below HR0_1.out HB.out) | (with_reducible refine Kd.C_alloc ?_ _) | (with_reducible refine Kd.C_drewN ?_ _) | (with_reducible refine Kd.C_drew ?_)))
             (case side2 => exact HC0_1.out)
             rintro e w75 ⟨rfl, hb⟩
             refine ⟨_, rfl, ?_⟩
             have n0_ := Aside0.mk (blk_below (g := gb150) (o := .cells #[.string a0_0, .slice (some ad153) l0_1.length c0_1] 30 (0, 0)) (by (with_reducible repeat (first | refine blk_drewN ?_ _ | refine blk_drew ?_ | refine blk_alloc ?_ _)); exact BK150.out) hb)
             have n1_ := Aside0.mk (blk_below (g := gb154) (o := .cells #[.int .i64 ((rd_T67 l0_1 x3_2).f0), .string ((rd_T67 l0_1 x3_2).f1), .string ((rd_T67 l0_1 x3_2).f2)] 67 (0, 0)) (by (with_reducible repeat (first | refine blk_drewN ?_ _ | refine blk_drew ?_ | refine blk_alloc ?_ _)); exact BK154.out) hb)
             have n2_ := Aside0.mk (below_step (by repeat (first | (with_reducible first | exact HB.out | apply below_alloc | apply pw_below_drewN | apply below_drew1 | refine below_set ?_ GE150.out | refine below_set ?_ GE154.out) | exact HB.out)) hb)
             clear BK150
             clear BK154
             clear HB
             have BK150 := n0_
             have BK154 := n1_
             have HB := n2_
             clear n0_ n1_ n2_
             (try clear hb)
             (try clear hb2)
             (try clear hk)
             (try clear hi)
             refine hK.out _ _ ⟨(blk_cell BK154.out 0).trans rfl, (blk_cell BK154.out 1).trans rfl, (blk_cell BK154.out 2).trans rfl, (blk_cell BK150.out 0).trans rfl, (blk_cell BK150.out 1).trans rfl⟩ (fun hHeld => ?_)
             clear hK K
             refine norm_ (a' := ?_) ?_ ?_
             rotate_left
             ·show Act.put _ (some 31) _ = _
              simp only [Act.put, sI_, s0_, sS_, i64_w, i32_w]
              rfl
             refine pure_ (i := 4) (N := some 32) (v := ?_) (a' := ?_) (tf_ 5 35) rfl rfl (any_of HT_.out (by kernel_rfl)) (fun _ _ _ h => h) (Or.inl ⟨by rfl, ?_⟩) ?_ ?_
             rotate_left
             ·intro w'
              go_simp
              with_reducible rfl
             rotate_left
             ·simp only [Act.put, sI_, s0_, sS_, i64_w, i32_w]
              rfl
             refine one_ (i := 5) (N := some 33) (tf_ 6 34) rfl rfl (one_of HT_.out (by kernel_rfl)) (by decide) (fun K hK => ?_)
             refine goes_ Try.func70 (by kernel_rfl) rfl #[.int .i64 ((rd_T67 l0_1 x3_2).f0), .int .i64 0, .int .i64 (wrap64 (t155 - 1))] (by rfl) rfl rfl (by (try simp only [List.map_toArray, List.map_cons, List.map_nil]); first | done | rfl | (simp only [List.length_drop, List.length_take]; rfl) | ((try simp only [decide_eq_false_iff_not, decide_eq_true_eq, eq_iff_iff, iff_true, iff_false, Int.not_lt, Int.not_le, Nat.not_lt, Nat.not_le, ByteArray.size_append, ByteArray.size_extract] at *); (rw [show wrap64 (t155 - 1) = t155 - 1 from by unfold Go.RowKit.wrap64; omega]); rfl)) ?_
             with_reducible refine (spec_l1In.calls ((rd_T67 l0_1 x3_2).f0) 0 (wrap64 (t155 - 1)) true _ A14.out).mono ?_
             rintro e w' ⟨rfl, ⟨nd, rfl⟩⟩
             refine ⟨_, rfl, ?_⟩
             refine hK.out _ _ ⟨(blk_cell BK154.out 0).trans rfl, (blk_cell BK154.out 1).trans rfl, (blk_cell BK154.out 2).trans rfl, (blk_cell BK150.out 0).trans rfl, (blk_cell BK150.out 1).trans rfl⟩ (fun hHeld => ?_)
             clear hK K
             refine norm_ (a' := ?_) ?_ ?_
             rotate_left
             ·show Act.put _ (some 33) _ = _
              simp only [Act.put, sI_, s0_, sS_, i64_w, i32_w]
              rfl
             refine pure_ (i := 6) (N := some 34) (v := ?_) (a' := ?_) (tf_ 7 33) rfl rfl (any_of HT_.out (by kernel_rfl)) (fun _ _ _ h => h) (Or.inl ⟨by rfl, ?_⟩) ?_ ?_
             rotate_left
             ·intro w'
              go_simp
              with_reducible rfl
             rotate_left
             ·simp only [Act.put, sI_, s0_, sS_, i64_w, i32_w]
              rfl
             refine pure_ (i := 7) (N := some 35) (v := ?_) (a' := ?_) (tf_ 8 32) rfl rfl (any_of HT_.out (by kernel_rfl)) (fun _ _ _ h => h) (Or.inl ⟨by rfl, ?_⟩) ?_ ?_
             rotate_left
             ·intro w'
              go_simp
              with_reducible rfl
             rotate_left
             ·simp only [Act.put, sI_, s0_, sS_, i64_w, i32_w]
              rfl
             refine pure_ (i := 8) (N := some 36) (v := ?_) (a' := ?_) (tf_ 9 31) rfl rfl (any_of HT_.out (by kernel_rfl)) (fun _ _ _ h => h) (Or.inl ⟨by rfl, ?_⟩) ?_ ?_
             rotate_left
             ·intro w'
              go_simp
              with_reducible rfl
             rotate_left
             ·simp only [Act.put, sI_, s0_, sS_, i64_w, i32_w]
              rfl
             refine pure_ (i := 9) (N := some 37) (v := ?_) (a' := ?_) (tf_ 10 30) rfl rfl (any_of HT_.out (by kernel_rfl)) (fun _ _ _ h => h) (Or.inl ⟨by rfl, ?_⟩) ?_ ?_
             rotate_left
             ·intro w'
              go_simp
              with_reducible rfl
             rotate_left
             ·simp only [Act.put, sI_, s0_, sS_, i64_w, i32_w]
              rfl
             refine pure_ (i := 10) (N := some 38) (v := ?_) (a' := ?_) (tf_ 11 29) rfl rfl (any_of HT_.out (by kernel_rfl)) (fun _ _ _ h => h) (Or.inl ⟨by rfl, ?_⟩) ?_ ?_
             rotate_left
             ·intro w'
              go_simp
              with_reducible rfl
             rotate_left
             ·simp only [Act.put, sI_, s0_, sS_, i64_w, i32_w]
              rfl
             refine pure_ (i := 11) (N := some 39) (v := undef) (a' := ?_) (tf_ 12 28) rfl rfl (any_of HT_.out (by kernel_rfl)) (fun _ _ _ h => h) (Or.inr ⟨by rfl, rfl⟩) ?_ ?_
             rotate_left
             ·simp only [Act.put, sI_, s0_, sS_, i64_w, i32_w]
              rfl
             refine pure_ (i := 12) (N := some 40) (v := undef) (a' := ?_) (tf_ 13 27) rfl rfl (any_of HT_.out (by kernel_rfl)) (fun _ _ _ h => h) (Or.inr ⟨by rfl, rfl⟩) ?_ ?_
             rotate_left
             ·simp only [Act.put, sI_, s0_, sS_, i64_w, i32_w]
              rfl
             refine pure_ (i := 13) (N := some 41) (v := undef) (a' := ?_) (tf_ 14 26) rfl rfl (any_of HT_.out (by kernel_rfl)) (fun _ _ _ h => h) (Or.inr ⟨by rfl, rfl⟩) ?_ ?_
             rotate_left
             ·simp only [Act.put, sI_, s0_, sS_, i64_w, i32_w]
              rfl
             refine pure_ (i := 14) (N := some 42) (v := undef) (a' := ?_) (tf_ 15 25) rfl rfl (any_of HT_.out (by kernel_rfl)) (fun _ _ _ h => h) (Or.inr ⟨by rfl, rfl⟩) ?_ ?_
             rotate_left
             ·simp only [Act.put, sI_, s0_, sS_, i64_w, i32_w]
              rfl
             refine pure_ (i := 15) (N := some 43) (v := undef) (a' := ?_) (tf_ 16 24) rfl rfl (any_of HT_.out (by kernel_rfl)) (fun _ _ _ h => h) (Or.inr ⟨by rfl, rfl⟩) ?_ ?_
             rotate_left
             ·simp only [Act.put, sI_, s0_, sS_, i64_w, i32_w]
              rfl
             refine pure_ (i := 16) (N := some 44) (v := undef) (a' := ?_) (tf_ 17 23) rfl rfl (any_of HT_.out (by kernel_rfl)) (fun _ _ _ h => h) (Or.inr ⟨by rfl, rfl⟩) ?_ ?_
             rotate_left
             ·simp only [Act.put, sI_, s0_, sS_, i64_w, i32_w]
              rfl
             refine pure_ (i := 17) (N := some 45) (v := undef) (a' := ?_) (tf_ 18 22) rfl rfl (any_of HT_.out (by kernel_rfl)) (fun _ _ _ h => h) (Or.inr ⟨by rfl, rfl⟩) ?_ ?_
             rotate_left
             ·simp only [Act.put, sI_, s0_, sS_, i64_w, i32_w]
              rfl
             refine pure_ (i := 18) (N := some 46) (v := undef) (a' := ?_) (tf_ 19 21) rfl rfl (any_of HT_.out (by kernel_rfl)) (fun _ _ _ h => h) (Or.inr ⟨by rfl, rfl⟩) ?_ ?_
             rotate_left
             ·simp only [Act.put, sI_, s0_, sS_, i64_w, i32_w]
              rfl
             refine pure_ (i := 19) (N := some 47) (v := undef) (a' := ?_) (tf_ 20 20) rfl rfl (any_of HT_.out (by kernel_rfl)) (fun _ _ _ h => h) (Or.inr ⟨by rfl, rfl⟩) ?_ ?_
             rotate_left
             ·simp only [Act.put, sI_, s0_, sS_, i64_w, i32_w]
              rfl
             refine pure_ (i := 20) (N := some 48) (v := undef) (a' := ?_) (tf_ 21 19) rfl rfl (any_of HT_.out (by kernel_rfl)) (fun _ _ _ h => h) (Or.inr ⟨by rfl, rfl⟩) ?_ ?_
             rotate_left
             ·simp only [Act.put, sI_, s0_, sS_, i64_w, i32_w]
              rfl
             refine pure_ (i := 21) (N := some 49) (v := ?_) (a' := ?_) (tf_ 22 18) rfl rfl (any_of HT_.out (by kernel_rfl)) (fun _ _ _ h => h) (Or.inl ⟨by rfl, ?_⟩) ?_ ?_
             rotate_left
             ·intro w'
              go_simp
              with_reducible rfl
             rotate_left
             ·simp only [Act.put, sI_, s0_, sS_, i64_w, i32_w]
              rfl
             refine pure_ (i := 22) (N := some 50) (v := ?_) (a' := ?_) (tf_ 23 17) rfl rfl (any_of HT_.out (by kernel_rfl)) (fun _ _ _ h => h) (Or.inl ⟨by rfl, ?_⟩) ?_ ?_
             rotate_left
             ·intro w'
              go_simp
              with_reducible rfl
             rotate_left
             ·simp only [Act.put, sI_, s0_, sS_, i64_w, i32_w]
              rfl
             refine pure_ (i := 23) (N := some 51) (v := ?_) (a' := ?_) (tf_ 24 16) rfl rfl (any_of HT_.out (by kernel_rfl)) (fun _ _ _ h => h) (Or.inl ⟨by rfl, ?_⟩) ?_ ?_
             rotate_left
             ·intro w'
              go_simp
              with_reducible rfl
             rotate_left
             ·simp only [Act.put, sI_, s0_, sS_, i64_w, i32_w]
              rfl
             refine pure_ (i := 24) (N := some 52) (v := ?_) (a' := ?_) (tf_ 25 15) rfl rfl (any_of HT_.out (by kernel_rfl)) (fun _ _ _ h => h) (Or.inl ⟨by rfl, ?_⟩) ?_ ?_
             rotate_left
             ·intro w'
              go_simp
              with_reducible rfl
             rotate_left
             ·simp only [Act.put, sI_, s0_, sS_, i64_w, i32_w]
              rfl
             refine take_ (i := 25) (N := some 53) (v := ?_) (a' := ?_) (tf_ 26 14) rfl rfl (take_ofW HT_.out HW_.out (by kernel_rfl)) (fun _ _ _ h => h) (Or.inl ⟨by rfl, ?_⟩) hHeld ?_ ?_
             rotate_left
             ·rintro w' ⟨s0, s1, s2, s3, s4⟩
              go_simp
              with_reducible rfl
             rotate_left
             ·simp only [Act.put, sI_, s0_, sS_, i64_w, i32_w]
              rfl
             refine pure_ (i := 26) (N := some 54) (v := ?_) (a' := ?_) (tf_ 27 13) rfl rfl (any_of HT_.out (by kernel_rfl)) (fun _ _ _ h => h) (Or.inl ⟨by rfl, ?_⟩) ?_ ?_
             rotate_left
             ·intro w'
              go_simp
              with_reducible rfl
             rotate_left
             ·simp only [Act.put, sI_, s0_, sS_, i64_w, i32_w]
              rfl
             refine pure_ (i := 27) (N := some 55) (v := ?_) (a' := ?_) (tf_ 28 12) rfl rfl (any_of HT_.out (by kernel_rfl)) (fun _ _ _ h => h) (Or.inl ⟨by rfl, ?_⟩) ?_ ?_
             rotate_left
             ·intro w'
              go_simp
              with_reducible rfl
             rotate_left
             ·simp only [Act.put, sI_, s0_, sS_, i64_w, i32_w]
              rfl
             refine pure_ (i := 28) (N := some 56) (v := ?_) (a' := ?_) (tf_ 29 11) rfl rfl (any_of HT_.out (by kernel_rfl)) (fun _ _ _ h => h) (Or.inl ⟨by rfl, ?_⟩) ?_ ?_
             rotate_left
             ·intro w'
              go_simp
              with_reducible rfl
             rotate_left
             ·simp only [Act.put, sI_, s0_, sS_, i64_w, i32_w]
              rfl
             refine pure_ (i := 29) (N := some 57) (v := ?_) (a' := ?_) (tf_ 30 10) rfl rfl (any_of HT_.out (by kernel_rfl)) (fun _ _ _ h => h) (Or.inl ⟨by rfl, ?_⟩) ?_ ?_
             rotate_left
             ·intro w'
              go_simp
              with_reducible rfl
             rotate_left
             ·simp only [Act.put, sI_, s0_, sS_, i64_w, i32_w]
              rfl
             refine pure_ (i := 30) (N := some 58) (v := ?_) (a' := ?_) (tf_ 31 9) rfl rfl (any_of HT_.out (by kernel_rfl)) (fun _ _ _ h => h) (Or.inl ⟨by rfl, ?_⟩) ?_ ?_
             rotate_left
             ·intro w'
              go_simp
              with_reducible rfl
             rotate_left
             ·simp only [Act.put, sI_, s0_, sS_, i64_w, i32_w]
              rfl
             refine take_ (i := 31) (N := some 59) (v := ?_) (a' := ?_) (tf_ 32 8) rfl rfl (take_ofW HT_.out HW_.out (by kernel_rfl)) (fun _ _ _ h => h) (Or.inl ⟨by rfl, ?_⟩) hHeld ?_ ?_
             rotate_left
             ·rintro w' ⟨s0, s1, s2, s3, s4⟩
              go_simp
              with_reducible rfl
             rotate_left
             ·simp only [Act.put, sI_, s0_, sS_, i64_w, i32_w]
              rfl
             refine pure_ (i := 32) (N := some 60) (v := ?_) (a' := ?_) (tf_ 33 7) rfl rfl (any_of HT_.out (by kernel_rfl)) (fun _ _ _ h => h) (Or.inl ⟨by rfl, ?_⟩) ?_ ?_
             rotate_left
             ·intro w'
              go_simp
              with_reducible rfl
             rotate_left
             ·simp only [Act.put, sI_, s0_, sS_, i64_w, i32_w]
              rfl
             refine pure_ (i := 33) (N := some 61) (v := ?_) (a' := ?_) (tf_ 34 6) rfl rfl (any_of HT_.out (by kernel_rfl)) (fun _ _ _ h => h) (Or.inl ⟨by rfl, ?_⟩) ?_ ?_
             rotate_left
             ·intro w'
              go_simp
              with_reducible rfl
             rotate_left
             ·simp only [Act.put, sI_, s0_, sS_, i64_w, i32_w]
              rfl
             refine pure_ (i := 34) (N := some 62) (v := ?_) (a' := ?_) (tf_ 35 5) rfl rfl (any_of HT_.out (by kernel_rfl)) (fun _ _ _ h => h) (Or.inl ⟨by rfl, ?_⟩) ?_ ?_
             rotate_left
             ·intro w'
              go_simp
              with_reducible rfl
             rotate_left
             ·simp only [Act.put, sI_, s0_, sS_, i64_w, i32_w]
              rfl
             refine pure_ (i := 35) (N := some 63) (v := ?_) (a' := ?_) (tf_ 36 4) rfl rfl (any_of HT_.out (by kernel_rfl)) (fun _ _ _ h => h) (Or.inl ⟨by rfl, ?_⟩) ?_ ?_
             rotate_left
             ·intro w'
              go_simp
              with_reducible rfl
             rotate_left
             ·simp only [Act.put, sI_, s0_, sS_, i64_w, i32_w]
              rfl
             refine take_ (i := 36) (N := some 64) (v := ?_) (a' := ?_) (tf_ 37 3) rfl rfl (take_ofW HT_.out HW_.out (by kernel_rfl)) (fun _ _ _ h => h) (Or.inl ⟨by rfl, ?_⟩) hHeld ?_ ?_
             rotate_left
             ·rintro w' ⟨s0, s1, s2, s3, s4⟩
              go_simp
              with_reducible rfl
             rotate_left
             ·simp only [Act.put, sI_, s0_, sS_, i64_w, i32_w]
              rfl
             refine pure_ (i := 37) (N := some 65) (v := ?_) (a' := ?_) (tf_ 38 2) rfl rfl (any_of HT_.out (by kernel_rfl)) (fun _ _ _ h => h) (Or.inl ⟨by rfl, ?_⟩) ?_ ?_
             rotate_left
             ·intro w'
              go_simp
              with_reducible rfl
             rotate_left
             ·simp only [Act.put, sI_, s0_, sS_, i64_w, i32_w]
              rfl
             refine pure_ (i := 38) (N := some 66) (v := ?_) (a' := ?_) (tf_ 39 1) rfl rfl (any_of HT_.out (by kernel_rfl)) (fun _ _ _ h => h) (Or.inl ⟨by rfl, ?_⟩) ?_ ?_
             rotate_left
             ·intro w'
              go_simp
              with_reducible rfl
             rotate_left
             ·simp only [Act.put, sI_, s0_, sS_, i64_w, i32_w]
              rfl
             refine pure_ (i := 39) (N := some 67) (v := ?_) (a' := ?_) (tf_ 40 0) rfl rfl (any_of HT_.out (by kernel_rfl)) (fun _ _ _ h => h) (Or.inl ⟨by rfl, ?_⟩) ?_ ?_
             rotate_left
             ·intro w'
              go_simp
              with_reducible rfl
             rotate_left
             ·simp only [Act.put, sI_, s0_, sS_, i64_w, i32_w]
              rfl
             refine done_ (done_of HT_.out (by kernel_rfl)) ?_
             try go_wp2
             go_roundg k2
             case measure => have := HJ1.out; have := HK2.out; omega
             case rel => exact ⟨(wrap64 (x3_2 + 1)), (by first | rfl | (simp; done) | (simp [*]; done)), H', ⟨by have := HJ1.out; have := HK2.out; omega⟩, ⟨by (with_reducible repeat (first | refine blk_drewN ?_ _ | refine blk_drew ?_ | refine blk_alloc ?_ _)); exact BK150.out⟩, ⟨by repeat (first | (with_reducible first | exact HB.out | apply below_alloc | apply pw_below_drewN | apply below_drew1 | refine below_set ?_ GE150.out | refine below_set ?_ GE154.out) | exact HB.out)⟩⟩
            ·rw [if_neg c68] at H
             have c68b0 : (((rd_T67 l0_1 x3_2).f2).toList == ([] : List UInt8)) = false := beq_eq_false_iff_ne.mpr c68
             have c68b1 : (((rd_T67 l0_1 x3_2).f2).toList != ([] : List UInt8)) = true := bne_iff_ne.mpr c68
             (try (have c68b2 : ((rd_T67 l0_1 x3_2).f2).toList.isEmpty = false := by simpa using c68))
             (try (have c68b3 : (!((rd_T67 l0_1 x3_2).f2).toList.isEmpty) = true := by simpa using c68))
             obtain rfl := Option.some.inj H
             have hcz76_0 : wr.cell? ⟨gb150, 0, none⟩ = some (.string a0_0) := (blk_cell BK150.out 0).trans rfl
             have hcz76_1 : wr.cell? ⟨gb150, 1, none⟩ = some (.slice A0_1 l0_1.length c0_1) := (blk_cell BK150.out 1).trans rfl
             have hfz76_0 := blk_frozen BK150.out 0
             have hfz76_1 := blk_frozen BK150.out 1
             have p153 : 0 ≤ (x3_2 : Int) := of_decide_eq_true (by first | (with_reducible assumption) | assumption)
             have q153 : x3_2 < (l0_1.length : Int) := of_decide_eq_true (by first | (with_reducible assumption) | assumption)
             obtain ⟨ad153, e153, hx153_0, hx153_1, hx153_2⟩ := at_T67 HR0_1.out x3_2 p153 q153
             cases e153
             replace hx153_0 := (HB.out.cell (World.block_lt_of_cell? w _ hx153_0)).trans hx153_0
             replace hx153_1 := (HB.out.cell (World.block_lt_of_cell? w _ hx153_1)).trans hx153_1
             replace hx153_2 := (HB.out.cell (World.block_lt_of_cell? w _ hx153_2)).trans hx153_2
             replace p153 := eq_true p153
             replace q153 := eq_true q153
             try go_wp2_with (first | ((with_reducible refine gate_dst (N := 4) rfl ?_); (try (refine gate_guard (by rfl) ?_; dsimp only)); refine box_event ?hg (N := 4) ?hd (cs := #[.int .i64 0, .string (⟨#[]⟩ : ByteArray), .string (⟨#[]⟩ : ByteArray)]) (t := 67) ?hr ?_; (case hd => rfl); (case hg => rfl); (case hr => first | (go_simp; done) | (go_simp; rfl)); intro gb154 hg w77 hbox hb; have n0_ := Aside0.mk (blk_below (g := gb150) (o := .cells #[.string a0_0, .slice (some ad153) l0_1.length c0_1] 30 (0, 0)) (by (with_reducible repeat (first | refine blk_drewN ?_ _ | refine blk_drew ?_ | refine blk_alloc ?_ _)); exact BK150.out) hb); have n1_ := Aside0.mk (below_step (by repeat (first | (with_reducible first | exact HB.out | apply below_alloc | apply pw_below_drewN | apply below_drew1 | refine below_set ?_ GE150.out) | exact HB.out)) hb); have n2_ := Aside0.mk (hbox); have n3_ := Aside0.mk ((by rw [hg]; exact (below_size (by repeat (first | (with_reducible first | exact HB.out | apply below_alloc | apply pw_below_drewN | apply below_drew1 | refine below_set ?_ GE150.out) | exact HB.out))) : w.heap.size ≤ gb154)); have n4_ := Aside0.mk ((by rw [hg]; exact (below_size (by repeat (first | (with_reducible first | exact HB.out | apply below_alloc | apply pw_below_drewN | apply below_drew1 | refine below_set ?_ GE150.out) | exact HB.out))) : w.heap.size ≤ gb154)); have n5_ := Aside0.mk ((by rw [hg]; exact Nat.ne_of_lt (blk_lt (g := gb150) (o := .cells #[.string a0_0, .slice (some ad153) l0_1.length c0_1] 30 (0, 0)) (by (with_reducible repeat (first | refine blk_drewN ?_ _ | refine blk_drew ?_ | refine blk_alloc ?_ _)); exact BK150.out)) : gb150 ≠ gb154)); have n6_ := Aside0.mk ((by rw [hg]; exact Nat.ne_of_gt (blk_lt (g := gb150) (o := .cells #[.string a0_0, .slice (some ad153) l0_1.length c0_1] 30 (0, 0)) (by (with_reducible repeat (first | refine blk_drewN ?_ _ | refine blk_drew ?_ | refine blk_alloc ?_ _)); exact BK150.out)) : gb154 ≠ gb150)); clear BK150; clear HB; have BK150 := n0_; have HB := n1_; have BK154 := n2_; have GW154 := n3_; have GE154 := n4_; have NB150_154 := n5_; have NB154_150 := n6_; clear n0_ n1_ n2_ n3_ n4_ n5_ n6_; clear hb hbox hg; have hnb78 := NB154_150.out; have hnc78 := NB150_154.out; have hcz79_0 : w77.cell? ⟨gb154, 0, none⟩ = some (.int .i64 0) := (blk_cell BK154.out 0).trans rfl; have hcz79_1 : w77.cell? ⟨gb154, 1, none⟩ = some (.string (⟨#[]⟩ : ByteArray)) := (blk_cell BK154.out 1).trans rfl; have hcz79_2 : w77.cell? ⟨gb154, 2, none⟩ = some (.string (⟨#[]⟩ : ByteArray)) := (blk_cell BK154.out 2).trans rfl; have hfz79_0 := blk_frozen BK154.out 0; have hfz79_1 := blk_frozen BK154.out 1; have hfz79_2 := blk_frozen BK154.out 2))
             have n0_ : Aside0 ((((w77.setCell ⟨gb154, 0, none⟩ (.int .i64 ((rd_T67 l0_1 x3_2).f0))).setCell ⟨gb154, 1, none⟩ (.string ((rd_T67 l0_1 x3_2).f1))).setCell ⟨gb154, 2, none⟩ (.string ((rd_T67 l0_1 x3_2).f2))).heap[gb150]? = some (.cells #[.string a0_0, .slice (some ad153) l0_1.length c0_1] 30 (0, 0))) := ⟨by (with_reducible repeat (first | refine blk_drewN ?_ _ | refine blk_drew ?_ | refine blk_alloc ?_ _)); refine blk_far ?_ NB150_154.out _; (with_reducible repeat (first | refine blk_drewN ?_ _ | refine blk_drew ?_ | refine blk_alloc ?_ _)); refine blk_far ?_ NB150_154.out _; (with_reducible repeat (first | refine blk_drewN ?_ _ | refine blk_drew ?_ | refine blk_alloc ?_ _)); refine blk_far ?_ NB150_154.out _; (with_reducible repeat (first | refine blk_drewN ?_ _ | refine blk_drew ?_ | refine blk_alloc ?_ _)); exact BK150.out⟩
             have n1_ : Aside0 ((((w77.setCell ⟨gb154, 0, none⟩ (.int .i64 ((rd_T67 l0_1 x3_2).f0))).setCell ⟨gb154, 1, none⟩ (.string ((rd_T67 l0_1 x3_2).f1))).setCell ⟨gb154, 2, none⟩ (.string ((rd_T67 l0_1 x3_2).f2))).heap[gb154]? = some (.cells #[.int .i64 ((rd_T67 l0_1 x3_2).f0), .string ((rd_T67 l0_1 x3_2).f1), .string ((rd_T67 l0_1 x3_2).f2)] 67 (0, 0))) := ⟨by (with_reducible repeat (first | refine blk_drewN ?_ _ | refine blk_drew ?_ | refine blk_alloc ?_ _)); refine blk_put (cs := #[.int .i64 ((rd_T67 l0_1 x3_2).f0), .string ((rd_T67 l0_1 x3_2).f1), .string (⟨#[]⟩ : ByteArray)]) ?_ 2 _ rfl; (with_reducible repeat (first | refine blk_drewN ?_ _ | refine blk_drew ?_ | refine blk_alloc ?_ _)); refine blk_put (cs := #[.int .i64 ((rd_T67 l0_1 x3_2).f0), .string (⟨#[]⟩ : ByteArray), .string (⟨#[]⟩ : ByteArray)]) ?_ 1 _ rfl; (with_reducible repeat (first | refine blk_drewN ?_ _ | refine blk_drew ?_ | refine blk_alloc ?_ _)); refine blk_put (cs := #[.int .i64 0, .string (⟨#[]⟩ : ByteArray), .string (⟨#[]⟩ : ByteArray)]) ?_ 0 _ rfl; (with_reducible repeat (first | refine blk_drewN ?_ _ | refine blk_drew ?_ | refine blk_alloc ?_ _)); exact BK154.out⟩
             have n2_ : Aside0 (Below w.heap.size w (((w77.setCell ⟨gb154, 0, none⟩ (.int .i64 ((rd_T67 l0_1 x3_2).f0))).setCell ⟨gb154, 1, none⟩ (.string ((rd_T67 l0_1 x3_2).f1))).setCell ⟨gb154, 2, none⟩ (.string ((rd_T67 l0_1 x3_2).f2)))) := ⟨by repeat (first | (with_reducible first | exact HB.out | apply below_alloc | apply pw_below_drewN | apply below_drew1 | refine below_set ?_ GE150.out | refine below_set ?_ GE154.out) | exact HB.out)⟩
             (try clear BK150)
             (try clear BK154)
             (try clear HB)
             generalize (((w77.setCell ⟨gb154, 0, none⟩ (.int .i64 ((rd_T67 l0_1 x3_2).f0))).setCell ⟨gb154, 1, none⟩ (.string ((rd_T67 l0_1 x3_2).f1))).setCell ⟨gb154, 2, none⟩ (.string ((rd_T67 l0_1 x3_2).f2))) = w80 at n0_ n1_ n2_ ⊢
             have BK150 := n0_
             have BK154 := n1_
             have HB := n2_
             clear n0_ n1_ n2_
             have n0_ := Aside0.mk (blk_drew BK150.out)
             have n1_ := Aside0.mk (blk_drew BK154.out)
             have n2_ := Aside0.mk (below_drew1 HB.out)
             clear BK150
             clear BK154
             clear HB
             have BK150 := n0_
             have BK154 := n1_
             have HB := n2_
             clear n0_ n1_ n2_
             refine start_ (n := 40) (S := fun w' => w'.cell? ⟨gb154, 0, none⟩ = some (.int .i64 ((rd_T67 l0_1 x3_2).f0)) ∧ w'.cell? ⟨gb154, 1, none⟩ = some (.string ((rd_T67 l0_1 x3_2).f1)) ∧ w'.cell? ⟨gb154, 2, none⟩ = some (.string ((rd_T67 l0_1 x3_2).f2)) ∧ w'.cell? ⟨gb150, 0, none⟩ = some (.string a0_0) ∧ w'.cell? ⟨gb150, 1, none⟩ = some (.slice (some ad153) l0_1.length c0_1)) (ds := []) (tf_ 0 40) (by kernel_rfl) rfl rfl ⟨(blk_cell BK154.out 0).trans rfl, (blk_cell BK154.out 1).trans rfl, (blk_cell BK154.out 2).trans rfl, (blk_cell BK150.out 0).trans rfl, (blk_cell BK150.out 1).trans rfl⟩ (fun hHeld => ?_); refine with_tabW spec_DeviceOk.tab7 spec_DeviceOk.bits7 (fun HT_ HW_ => ?_)
             generalize w80.drew = w81 at BK150 BK154 HB hHeld ⊢
             refine pure_ (i := 0) (N := some 28) (v := ?_) (a' := ?_) (tf_ 1 39) rfl rfl (any_of HT_.out (by kernel_rfl)) (fun _ _ _ h => h) (Or.inl ⟨by rfl, ?_⟩) ?_ ?_
             rotate_left
             ·intro w'
              go_simp
              with_reducible rfl
             rotate_left
             ·simp only [Act.put, sI_, s0_, sS_, i64_w, i32_w]
              rfl
             refine take_ (i := 1) (N := some 29) (v := ?_) (a' := ?_) (tf_ 2 38) rfl rfl (take_ofW HT_.out HW_.out (by kernel_rfl)) (fun _ _ _ h => h) (Or.inl ⟨by rfl, ?_⟩) hHeld ?_ ?_
             rotate_left
             ·rintro w' ⟨s0, s1, s2, s3, s4⟩
              go_simp
              with_reducible rfl
             rotate_left
             ·simp only [Act.put, sI_, s0_, sS_, i64_w, i32_w]
              rfl
             refine take_ (i := 2) (N := some 30) (v := ?_) (a' := ?_) (tf_ 3 37) rfl rfl (take_ofW HT_.out HW_.out (by kernel_rfl)) (fun _ _ _ h => h) (Or.inl ⟨by rfl, ?_⟩) hHeld ?_ ?_
             rotate_left
             ·rintro w' ⟨s0, s1, s2, s3, s4⟩
              go_simp
              with_reducible rfl
             rotate_left
             ·simp only [Act.put, sI_, s0_, sS_, i64_w, i32_w]
              rfl
             refine one_ (i := 3) (N := some 31) (tf_ 4 36) rfl rfl (one_of HT_.out (by kernel_rfl)) (by decide) (fun K hK => ?_)
             refine goes_ Try.func71 (by kernel_rfl) rfl #[.agg #[.string a0_0, .slice (some ad153) l0_1.length c0_1]] (by rfl) rfl rfl (by (try simp only [List.map_toArray, List.map_cons, List.map_nil]); first | done | rfl | (simp only [List.length_drop, List.length_take]; rfl)) ?_
             with_reducible refine (spec_l2Count.calls a0_0 _ _ l0_1 t155 _ ?side1 ?side2 A13.out).mono ?_
             (case side1 => repeat (first | exact (Kd.C_below HR0_1.out HB.out) | (with_reducible refine Kd.C_alloc ?_ _) | (with_reducible refine Kd.C_drewN ?_ _) | (with_reducible refine Kd.C_drew ?_)))
             (case side2 => exact HC0_1.out)
             rintro e w82 ⟨rfl, hb⟩
             refine ⟨_, rfl, ?_⟩
             have n0_ := Aside0.mk (blk_below (g := gb150) (o := .cells #[.string a0_0, .slice (some ad153) l0_1.length c0_1] 30 (0, 0)) (by (with_reducible repeat (first | refine blk_drewN ?_ _ | refine blk_drew ?_ | refine blk_alloc ?_ _)); exact BK150.out) hb)
             have n1_ := Aside0.mk (blk_below (g := gb154) (o := .cells #[.int .i64 ((rd_T67 l0_1 x3_2).f0), .string ((rd_T67 l0_1 x3_2).f1), .string ((rd_T67 l0_1 x3_2).f2)] 67 (0, 0)) (by (with_reducible repeat (first | refine blk_drewN ?_ _ | refine blk_drew ?_ | refine blk_alloc ?_ _)); exact BK154.out) hb)
             have n2_ := Aside0.mk (below_step (by repeat (first | (with_reducible first | exact HB.out | apply below_alloc | apply pw_below_drewN | apply below_drew1 | refine below_set ?_ GE150.out | refine below_set ?_ GE154.out) | exact HB.out)) hb)
             clear BK150
             clear BK154
             clear HB
             have BK150 := n0_
             have BK154 := n1_
             have HB := n2_
             clear n0_ n1_ n2_
             (try clear hb)
             (try clear hb2)
             (try clear hk)
             (try clear hi)
             refine hK.out _ _ ⟨(blk_cell BK154.out 0).trans rfl, (blk_cell BK154.out 1).trans rfl, (blk_cell BK154.out 2).trans rfl, (blk_cell BK150.out 0).trans rfl, (blk_cell BK150.out 1).trans rfl⟩ (fun hHeld => ?_)
             clear hK K
             refine norm_ (a' := ?_) ?_ ?_
             rotate_left
             ·show Act.put _ (some 31) _ = _
              simp only [Act.put, sI_, s0_, sS_, i64_w, i32_w]
              rfl
             refine pure_ (i := 4) (N := some 32) (v := ?_) (a' := ?_) (tf_ 5 35) rfl rfl (any_of HT_.out (by kernel_rfl)) (fun _ _ _ h => h) (Or.inl ⟨by rfl, ?_⟩) ?_ ?_
             rotate_left
             ·intro w'
              go_simp
              with_reducible rfl
             rotate_left
             ·simp only [Act.put, sI_, s0_, sS_, i64_w, i32_w]
              rfl
             refine one_ (i := 5) (N := some 33) (tf_ 6 34) rfl rfl (one_of HT_.out (by kernel_rfl)) (by decide) (fun K hK => ?_)
             refine goes_ Try.func70 (by kernel_rfl) rfl #[.int .i64 ((rd_T67 l0_1 x3_2).f0), .int .i64 0, .int .i64 (wrap64 (t155 - 1))] (by rfl) rfl rfl (by (try simp only [List.map_toArray, List.map_cons, List.map_nil]); first | done | rfl | (simp only [List.length_drop, List.length_take]; rfl) | ((try simp only [decide_eq_false_iff_not, decide_eq_true_eq, eq_iff_iff, iff_true, iff_false, Int.not_lt, Int.not_le, Nat.not_lt, Nat.not_le, ByteArray.size_append, ByteArray.size_extract] at *); (rw [show wrap64 (t155 - 1) = t155 - 1 from by unfold Go.RowKit.wrap64; omega]); rfl)) ?_
             with_reducible refine (spec_l1In.calls ((rd_T67 l0_1 x3_2).f0) 0 (wrap64 (t155 - 1)) true _ A14.out).mono ?_
             rintro e w' ⟨rfl, ⟨nd, rfl⟩⟩
             refine ⟨_, rfl, ?_⟩
             refine hK.out _ _ ⟨(blk_cell BK154.out 0).trans rfl, (blk_cell BK154.out 1).trans rfl, (blk_cell BK154.out 2).trans rfl, (blk_cell BK150.out 0).trans rfl, (blk_cell BK150.out 1).trans rfl⟩ (fun hHeld => ?_)
             clear hK K
             refine norm_ (a' := ?_) ?_ ?_
             rotate_left
             ·show Act.put _ (some 33) _ = _
              simp only [Act.put, sI_, s0_, sS_, i64_w, i32_w]
              rfl
             refine pure_ (i := 6) (N := some 34) (v := ?_) (a' := ?_) (tf_ 7 33) rfl rfl (any_of HT_.out (by kernel_rfl)) (fun _ _ _ h => h) (Or.inl ⟨by rfl, ?_⟩) ?_ ?_
             rotate_left
             ·intro w'
              go_simp
              with_reducible rfl
             rotate_left
             ·simp only [Act.put, sI_, s0_, sS_, i64_w, i32_w]
              rfl
             refine pure_ (i := 7) (N := some 35) (v := ?_) (a' := ?_) (tf_ 8 32) rfl rfl (any_of HT_.out (by kernel_rfl)) (fun _ _ _ h => h) (Or.inl ⟨by rfl, ?_⟩) ?_ ?_
             rotate_left
             ·intro w'
              go_simp
              with_reducible rfl
             rotate_left
             ·simp only [Act.put, sI_, s0_, sS_, i64_w, i32_w]
              rfl
             refine pure_ (i := 8) (N := some 36) (v := ?_) (a' := ?_) (tf_ 9 31) rfl rfl (any_of HT_.out (by kernel_rfl)) (fun _ _ _ h => h) (Or.inl ⟨by rfl, ?_⟩) ?_ ?_
             rotate_left
             ·intro w'
              go_simp
              with_reducible rfl
             rotate_left
             ·simp only [Act.put, sI_, s0_, sS_, i64_w, i32_w]
              rfl
             refine pure_ (i := 9) (N := some 37) (v := ?_) (a' := ?_) (tf_ 10 30) rfl rfl (any_of HT_.out (by kernel_rfl)) (fun _ _ _ h => h) (Or.inl ⟨by rfl, ?_⟩) ?_ ?_
             rotate_left
             ·intro w'
              go_simp
              with_reducible rfl
             rotate_left
             ·simp only [Act.put, sI_, s0_, sS_, i64_w, i32_w]
              rfl
             refine pure_ (i := 10) (N := some 38) (v := ?_) (a' := ?_) (tf_ 11 29) rfl rfl (any_of HT_.out (by kernel_rfl)) (fun _ _ _ h => h) (Or.inl ⟨by rfl, ?_⟩) ?_ ?_
             rotate_left
             ·intro w'
              go_simp
              with_reducible rfl
             rotate_left
             ·simp only [Act.put, sI_, s0_, sS_, i64_w, i32_w]
              rfl
             refine pure_ (i := 11) (N := some 39) (v := undef) (a' := ?_) (tf_ 12 28) rfl rfl (any_of HT_.out (by kernel_rfl)) (fun _ _ _ h => h) (Or.inr ⟨by rfl, rfl⟩) ?_ ?_
             rotate_left
             ·simp only [Act.put, sI_, s0_, sS_, i64_w, i32_w]
              rfl
             refine pure_ (i := 12) (N := some 40) (v := undef) (a' := ?_) (tf_ 13 27) rfl rfl (any_of HT_.out (by kernel_rfl)) (fun _ _ _ h => h) (Or.inr ⟨by rfl, rfl⟩) ?_ ?_
             rotate_left
             ·simp only [Act.put, sI_, s0_, sS_, i64_w, i32_w]
              rfl
             refine pure_ (i := 13) (N := some 41) (v := undef) (a' := ?_) (tf_ 14 26) rfl rfl (any_of HT_.out (by kernel_rfl)) (fun _ _ _ h => h) (Or.inr ⟨by rfl, rfl⟩) ?_ ?_
             rotate_left
             ·simp only [Act.put, sI_, s0_, sS_, i64_w, i32_w]
              rfl
             refine pure_ (i := 14) (N := some 42) (v := undef) (a' := ?_) (tf_ 15 25) rfl rfl (any_of HT_.out (by kernel_rfl)) (fun _ _ _ h => h) (Or.inr ⟨by rfl, rfl⟩) ?_ ?_
             rotate_left
             ·simp only [Act.put, sI_, s0_, sS_, i64_w, i32_w]
              rfl
             refine pure_ (i := 15) (N := some 43) (v := undef) (a' := ?_) (tf_ 16 24) rfl rfl (any_of HT_.out (by kernel_rfl)) (fun _ _ _ h => h) (Or.inr ⟨by rfl, rfl⟩) ?_ ?_
             rotate_left
             ·simp only [Act.put, sI_, s0_, sS_, i64_w, i32_w]
              rfl
             refine pure_ (i := 16) (N := some 44) (v := undef) (a' := ?_) (tf_ 17 23) rfl rfl (any_of HT_.out (by kernel_rfl)) (fun _ _ _ h => h) (Or.inr ⟨by rfl, rfl⟩) ?_ ?_
             rotate_left
             ·simp only [Act.put, sI_, s0_, sS_, i64_w, i32_w]
              rfl
             refine pure_ (i := 17) (N := some 45) (v := undef) (a' := ?_) (tf_ 18 22) rfl rfl (any_of HT_.out (by kernel_rfl)) (fun _ _ _ h => h) (Or.inr ⟨by rfl, rfl⟩) ?_ ?_
             rotate_left
             ·simp only [Act.put, sI_, s0_, sS_, i64_w, i32_w]
              rfl
             refine pure_ (i := 18) (N := some 46) (v := undef) (a' := ?_) (tf_ 19 21) rfl rfl (any_of HT_.out (by kernel_rfl)) (fun _ _ _ h => h) (Or.inr ⟨by rfl, rfl⟩) ?_ ?_
             rotate_left
             ·simp only [Act.put, sI_, s0_, sS_, i64_w, i32_w]
              rfl
             refine pure_ (i := 19) (N := some 47) (v := undef) (a' := ?_) (tf_ 20 20) rfl rfl (any_of HT_.out (by kernel_rfl)) (fun _ _ _ h => h) (Or.inr ⟨by rfl, rfl⟩) ?_ ?_
             rotate_left
             ·simp only [Act.put, sI_, s0_, sS_, i64_w, i32_w]
              rfl
             refine pure_ (i := 20) (N := some 48) (v := undef) (a' := ?_) (tf_ 21 19) rfl rfl (any_of HT_.out (by kernel_rfl)) (fun _ _ _ h => h) (Or.inr ⟨by rfl, rfl⟩) ?_ ?_
             rotate_left
             ·simp only [Act.put, sI_, s0_, sS_, i64_w, i32_w]
              rfl
             refine pure_ (i := 21) (N := some 49) (v := ?_) (a' := ?_) (tf_ 22 18) rfl rfl (any_of HT_.out (by kernel_rfl)) (fun _ _ _ h => h) (Or.inl ⟨by rfl, ?_⟩) ?_ ?_
             rotate_left
             ·intro w'
              go_simp
              with_reducible rfl
             rotate_left
             ·simp only [Act.put, sI_, s0_, sS_, i64_w, i32_w]
              rfl
             refine pure_ (i := 22) (N := some 50) (v := ?_) (a' := ?_) (tf_ 23 17) rfl rfl (any_of HT_.out (by kernel_rfl)) (fun _ _ _ h => h) (Or.inl ⟨by rfl, ?_⟩) ?_ ?_
             rotate_left
             ·intro w'
              go_simp
              with_reducible rfl
             rotate_left
             ·simp only [Act.put, sI_, s0_, sS_, i64_w, i32_w]
              rfl
             refine pure_ (i := 23) (N := some 51) (v := ?_) (a' := ?_) (tf_ 24 16) rfl rfl (any_of HT_.out (by kernel_rfl)) (fun _ _ _ h => h) (Or.inl ⟨by rfl, ?_⟩) ?_ ?_
             rotate_left
             ·intro w'
              go_simp
              with_reducible rfl
             rotate_left
             ·simp only [Act.put, sI_, s0_, sS_, i64_w, i32_w]
              rfl
             refine pure_ (i := 24) (N := some 52) (v := ?_) (a' := ?_) (tf_ 25 15) rfl rfl (any_of HT_.out (by kernel_rfl)) (fun _ _ _ h => h) (Or.inl ⟨by rfl, ?_⟩) ?_ ?_
             rotate_left
             ·intro w'
              go_simp
              with_reducible rfl
             rotate_left
             ·simp only [Act.put, sI_, s0_, sS_, i64_w, i32_w]
              rfl
             refine take_ (i := 25) (N := some 53) (v := ?_) (a' := ?_) (tf_ 26 14) rfl rfl (take_ofW HT_.out HW_.out (by kernel_rfl)) (fun _ _ _ h => h) (Or.inl ⟨by rfl, ?_⟩) hHeld ?_ ?_
             rotate_left
             ·rintro w' ⟨s0, s1, s2, s3, s4⟩
              go_simp
              with_reducible rfl
             rotate_left
             ·simp only [Act.put, sI_, s0_, sS_, i64_w, i32_w]
              rfl
             refine pure_ (i := 26) (N := some 54) (v := ?_) (a' := ?_) (tf_ 27 13) rfl rfl (any_of HT_.out (by kernel_rfl)) (fun _ _ _ h => h) (Or.inl ⟨by rfl, ?_⟩) ?_ ?_
             rotate_left
             ·intro w'
              go_simp
              with_reducible rfl
             rotate_left
             ·simp only [Act.put, sI_, s0_, sS_, i64_w, i32_w]
              rfl
             refine pure_ (i := 27) (N := some 55) (v := ?_) (a' := ?_) (tf_ 28 12) rfl rfl (any_of HT_.out (by kernel_rfl)) (fun _ _ _ h => h) (Or.inl ⟨by rfl, ?_⟩) ?_ ?_
             rotate_left
             ·intro w'
              go_simp
              with_reducible rfl
             rotate_left
             ·simp only [Act.put, sI_, s0_, sS_, i64_w, i32_w]
              rfl
             refine pure_ (i := 28) (N := some 56) (v := ?_) (a' := ?_) (tf_ 29 11) rfl rfl (any_of HT_.out (by kernel_rfl)) (fun _ _ _ h => h) (Or.inl ⟨by rfl, ?_⟩) ?_ ?_
             rotate_left
             ·intro w'
              go_simp
              with_reducible rfl
             rotate_left
             ·simp only [Act.put, sI_, s0_, sS_, i64_w, i32_w]
              rfl
             refine pure_ (i := 29) (N := some 57) (v := ?_) (a' := ?_) (tf_ 30 10) rfl rfl (any_of HT_.out (by kernel_rfl)) (fun _ _ _ h => h) (Or.inl ⟨by rfl, ?_⟩) ?_ ?_
             rotate_left
             ·intro w'
              go_simp
              with_reducible rfl
             rotate_left
             ·simp only [Act.put, sI_, s0_, sS_, i64_w, i32_w]
              rfl
             refine pure_ (i := 30) (N := some 58) (v := ?_) (a' := ?_) (tf_ 31 9) rfl rfl (any_of HT_.out (by kernel_rfl)) (fun _ _ _ h => h) (Or.inl ⟨by rfl, ?_⟩) ?_ ?_
             rotate_left
             ·intro w'
              go_simp
              with_reducible rfl
             rotate_left
             ·simp only [Act.put, sI_, s0_, sS_, i64_w, i32_w]
              rfl
             refine take_ (i := 31) (N := some 59) (v := ?_) (a' := ?_) (tf_ 32 8) rfl rfl (take_ofW HT_.out HW_.out (by kernel_rfl)) (fun _ _ _ h => h) (Or.inl ⟨by rfl, ?_⟩) hHeld ?_ ?_
             rotate_left
             ·rintro w' ⟨s0, s1, s2, s3, s4⟩
              go_simp
              with_reducible rfl
             rotate_left
             ·simp only [Act.put, sI_, s0_, sS_, i64_w, i32_w]
              rfl
             refine pure_ (i := 32) (N := some 60) (v := ?_) (a' := ?_) (tf_ 33 7) rfl rfl (any_of HT_.out (by kernel_rfl)) (fun _ _ _ h => h) (Or.inl ⟨by rfl, ?_⟩) ?_ ?_
             rotate_left
             ·intro w'
              go_simp
              with_reducible rfl
             rotate_left
             ·simp only [Act.put, sI_, s0_, sS_, i64_w, i32_w]
              rfl
             refine pure_ (i := 33) (N := some 61) (v := ?_) (a' := ?_) (tf_ 34 6) rfl rfl (any_of HT_.out (by kernel_rfl)) (fun _ _ _ h => h) (Or.inl ⟨by rfl, ?_⟩) ?_ ?_
             rotate_left
             ·intro w'
              go_simp
              with_reducible rfl
             rotate_left
             ·simp only [Act.put, sI_, s0_, sS_, i64_w, i32_w]
              rfl
             refine pure_ (i := 34) (N := some 62) (v := ?_) (a' := ?_) (tf_ 35 5) rfl rfl (any_of HT_.out (by kernel_rfl)) (fun _ _ _ h => h) (Or.inl ⟨by rfl, ?_⟩) ?_ ?_
             rotate_left
             ·intro w'
              go_simp
              with_reducible rfl
             rotate_left
             ·simp only [Act.put, sI_, s0_, sS_, i64_w, i32_w]
              rfl
             refine pure_ (i := 35) (N := some 63) (v := ?_) (a' := ?_) (tf_ 36 4) rfl rfl (any_of HT_.out (by kernel_rfl)) (fun _ _ _ h => h) (Or.inl ⟨by rfl, ?_⟩) ?_ ?_
             rotate_left
             ·intro w'
              go_simp
              with_reducible rfl
             rotate_left
             ·simp only [Act.put, sI_, s0_, sS_, i64_w, i32_w]
              rfl
             refine take_ (i := 36) (N := some 64) (v := ?_) (a' := ?_) (tf_ 37 3) rfl rfl (take_ofW HT_.out HW_.out (by kernel_rfl)) (fun _ _ _ h => h) (Or.inl ⟨by rfl, ?_⟩) hHeld ?_ ?_
             rotate_left
             ·rintro w' ⟨s0, s1, s2, s3, s4⟩
              go_simp
              with_reducible rfl
             rotate_left
             ·simp only [Act.put, sI_, s0_, sS_, i64_w, i32_w]
              rfl
             refine pure_ (i := 37) (N := some 65) (v := ?_) (a' := ?_) (tf_ 38 2) rfl rfl (any_of HT_.out (by kernel_rfl)) (fun _ _ _ h => h) (Or.inl ⟨by rfl, ?_⟩) ?_ ?_
             rotate_left
             ·intro w'
              go_simp
              with_reducible rfl
             rotate_left
             ·simp only [Act.put, sI_, s0_, sS_, i64_w, i32_w]
              rfl
             refine pure_ (i := 38) (N := some 66) (v := ?_) (a' := ?_) (tf_ 39 1) rfl rfl (any_of HT_.out (by kernel_rfl)) (fun _ _ _ h => h) (Or.inl ⟨by rfl, ?_⟩) ?_ ?_
             rotate_left
             ·intro w'
              go_simp
              with_reducible rfl
             rotate_left
             ·simp only [Act.put, sI_, s0_, sS_, i64_w, i32_w]
              rfl
             refine pure_ (i := 39) (N := some 67) (v := ?_) (a' := ?_) (tf_ 40 0) rfl rfl (any_of HT_.out (by kernel_rfl)) (fun _ _ _ h => h) (Or.inl ⟨by rfl, ?_⟩) ?_ ?_
             rotate_left
             ·intro w'
              go_simp
              with_reducible rfl
             rotate_left
             ·simp only [Act.put, sI_, s0_, sS_, i64_w, i32_w]
              rfl
             refine done_ (done_of HT_.out (by kernel_rfl)) ?_
             try go_wp2
             go_ret
             exact ⟨by first | rfl | (simp [errW_none, errW_some] <;> rfl) | (simp [*, errW_none, errW_some] <;> rfl), by repeat (first | (with_reducible first | exact HB.out | apply below_alloc | apply pw_below_drewN | apply below_drew1 | refine below_set ?_ GE150.out | refine below_set ?_ GE154.out) | exact HB.out)⟩
          ·rw [if_neg c59] at H
           have c59b0 : ((((rd_T67 l0_1 x3_2).f1).size : Int) == 64) = false := beq_eq_false_iff_ne.mpr c59
           have c59b1 : ((((rd_T67 l0_1 x3_2).f1).size : Int) != 64) = true := bne_iff_ne.mpr c59
           obtain rfl := Option.some.inj H
           have hcz83_0 : wr.cell? ⟨gb150, 0, none⟩ = some (.string a0_0) := (blk_cell BK150.out 0).trans rfl
           have hcz83_1 : wr.cell? ⟨gb150, 1, none⟩ = some (.slice A0_1 l0_1.length c0_1) := (blk_cell BK150.out 1).trans rfl
           have hfz83_0 := blk_frozen BK150.out 0
           have hfz83_1 := blk_frozen BK150.out 1
           have p153 : 0 ≤ (x3_2 : Int) := of_decide_eq_true (by first | (with_reducible assumption) | assumption)
           have q153 : x3_2 < (l0_1.length : Int) := of_decide_eq_true (by first | (with_reducible assumption) | assumption)
           obtain ⟨ad153, e153, hx153_0, hx153_1, hx153_2⟩ := at_T67 HR0_1.out x3_2 p153 q153
           cases e153
           replace hx153_0 := (HB.out.cell (World.block_lt_of_cell? w _ hx153_0)).trans hx153_0
           replace hx153_1 := (HB.out.cell (World.block_lt_of_cell? w _ hx153_1)).trans hx153_1
           replace hx153_2 := (HB.out.cell (World.block_lt_of_cell? w _ hx153_2)).trans hx153_2
           replace p153 := eq_true p153
           replace q153 := eq_true q153
           try go_wp2_with (first | ((with_reducible refine gate_dst (N := 4) rfl ?_); (try (refine gate_guard (by rfl) ?_; dsimp only)); refine box_event ?hg (N := 4) ?hd (cs := #[.int .i64 0, .string (⟨#[]⟩ : ByteArray), .string (⟨#[]⟩ : ByteArray)]) (t := 67) ?hr ?_; (case hd => rfl); (case hg => rfl); (case hr => first | (go_simp; done) | (go_simp; rfl)); intro gb154 hg w84 hbox hb; have n0_ := Aside0.mk (blk_below (g := gb150) (o := .cells #[.string a0_0, .slice (some ad153) l0_1.length c0_1] 30 (0, 0)) (by (with_reducible repeat (first | refine blk_drewN ?_ _ | refine blk_drew ?_ | refine blk_alloc ?_ _)); exact BK150.out) hb); have n1_ := Aside0.mk (below_step (by repeat (first | (with_reducible first | exact HB.out | apply below_alloc | apply pw_below_drewN | apply below_drew1 | refine below_set ?_ GE150.out) | exact HB.out)) hb); have n2_ := Aside0.mk (hbox); have n3_ := Aside0.mk ((by rw [hg]; exact (below_size (by repeat (first | (with_reducible first | exact HB.out | apply below_alloc | apply pw_below_drewN | apply below_drew1 | refine below_set ?_ GE150.out) | exact HB.out))) : w.heap.size ≤ gb154)); have n4_ := Aside0.mk ((by rw [hg]; exact (below_size (by repeat (first | (with_reducible first | exact HB.out | apply below_alloc | apply pw_below_drewN | apply below_drew1 | refine below_set ?_ GE150.out) | exact HB.out))) : w.heap.size ≤ gb154)); have n5_ := Aside0.mk ((by rw [hg]; exact Nat.ne_of_lt (blk_lt (g := gb150) (o := .cells #[.string a0_0, .slice (some ad153) l0_1.length c0_1] 30 (0, 0)) (by (with_reducible repeat (first | refine blk_drewN ?_ _ | refine blk_drew ?_ | refine blk_alloc ?_ _)); exact BK150.out)) : gb150 ≠ gb154)); have n6_ := Aside0.mk ((by rw [hg]; exact Nat.ne_of_gt (blk_lt (g := gb150) (o := .cells #[.string a0_0, .slice (some ad153) l0_1.length c0_1] 30 (0, 0)) (by (with_reducible repeat (first | refine blk_drewN ?_ _ | refine blk_drew ?_ | refine blk_alloc ?_ _)); exact BK150.out)) : gb154 ≠ gb150)); clear BK150; clear HB; have BK150 := n0_; have HB := n1_; have BK154 := n2_; have GW154 := n3_; have GE154 := n4_; have NB150_154 := n5_; have NB154_150 := n6_; clear n0_ n1_ n2_ n3_ n4_ n5_ n6_; clear hb hbox hg; have hnb85 := NB154_150.out; have hnc85 := NB150_154.out; have hcz86_0 : w84.cell? ⟨gb154, 0, none⟩ = some (.int .i64 0) := (blk_cell BK154.out 0).trans rfl; have hcz86_1 : w84.cell? ⟨gb154, 1, none⟩ = some (.string (⟨#[]⟩ : ByteArray)) := (blk_cell BK154.out 1).trans rfl; have hcz86_2 : w84.cell? ⟨gb154, 2, none⟩ = some (.string (⟨#[]⟩ : ByteArray)) := (blk_cell BK154.out 2).trans rfl; have hfz86_0 := blk_frozen BK154.out 0; have hfz86_1 := blk_frozen BK154.out 1; have hfz86_2 := blk_frozen BK154.out 2))
           have n0_ : Aside0 ((((w84.setCell ⟨gb154, 0, none⟩ (.int .i64 ((rd_T67 l0_1 x3_2).f0))).setCell ⟨gb154, 1, none⟩ (.string ((rd_T67 l0_1 x3_2).f1))).setCell ⟨gb154, 2, none⟩ (.string ((rd_T67 l0_1 x3_2).f2))).heap[gb150]? = some (.cells #[.string a0_0, .slice (some ad153) l0_1.length c0_1] 30 (0, 0))) := ⟨by (with_reducible repeat (first | refine blk_drewN ?_ _ | refine blk_drew ?_ | refine blk_alloc ?_ _)); refine blk_far ?_ NB150_154.out _; (with_reducible repeat (first | refine blk_drewN ?_ _ | refine blk_drew ?_ | refine blk_alloc ?_ _)); refine blk_far ?_ NB150_154.out _; (with_reducible repeat (first | refine blk_drewN ?_ _ | refine blk_drew ?_ | refine blk_alloc ?_ _)); refine blk_far ?_ NB150_154.out _; (with_reducible repeat (first | refine blk_drewN ?_ _ | refine blk_drew ?_ | refine blk_alloc ?_ _)); exact BK150.out⟩
           have n1_ : Aside0 ((((w84.setCell ⟨gb154, 0, none⟩ (.int .i64 ((rd_T67 l0_1 x3_2).f0))).setCell ⟨gb154, 1, none⟩ (.string ((rd_T67 l0_1 x3_2).f1))).setCell ⟨gb154, 2, none⟩ (.string ((rd_T67 l0_1 x3_2).f2))).heap[gb154]? = some (.cells #[.int .i64 ((rd_T67 l0_1 x3_2).f0), .string ((rd_T67 l0_1 x3_2).f1), .string ((rd_T67 l0_1 x3_2).f2)] 67 (0, 0))) := ⟨by (with_reducible repeat (first | refine blk_drewN ?_ _ | refine blk_drew ?_ | refine blk_alloc ?_ _)); refine blk_put (cs := #[.int .i64 ((rd_T67 l0_1 x3_2).f0), .string ((rd_T67 l0_1 x3_2).f1), .string (⟨#[]⟩ : ByteArray)]) ?_ 2 _ rfl; (with_reducible repeat (first | refine blk_drewN ?_ _ | refine blk_drew ?_ | refine blk_alloc ?_ _)); refine blk_put (cs := #[.int .i64 ((rd_T67 l0_1 x3_2).f0), .string (⟨#[]⟩ : ByteArray), .string (⟨#[]⟩ : ByteArray)]) ?_ 1 _ rfl; (with_reducible repeat (first | refine blk_drewN ?_ _ | refine blk_drew ?_ | refine blk_alloc ?_ _)); refine blk_put (cs := #[.int .i64 0, .string (⟨#[]⟩ : ByteArray), .string (⟨#[]⟩ : ByteArray)]) ?_ 0 _ rfl; (with_reducible repeat (first | refine blk_drewN ?_ _ | refine blk_drew ?_ | refine blk_alloc ?_ _)); exact BK154.out⟩
           have n2_ : Aside0 (Below w.heap.size w (((w84.setCell ⟨gb154, 0, none⟩ (.int .i64 ((rd_T67 l0_1 x3_2).f0))).setCell ⟨gb154, 1, none⟩ (.string ((rd_T67 l0_1 x3_2).f1))).setCell ⟨gb154, 2, none⟩ (.string ((rd_T67 l0_1 x3_2).f2)))) := ⟨by repeat (first | (with_reducible first | exact HB.out | apply below_alloc | apply pw_below_drewN | apply below_drew1 | refine below_set ?_ GE150.out | refine below_set ?_ GE154.out) | exact HB.out)⟩
           (try clear BK150)
           (try clear BK154)
           (try clear HB)
           generalize (((w84.setCell ⟨gb154, 0, none⟩ (.int .i64 ((rd_T67 l0_1 x3_2).f0))).setCell ⟨gb154, 1, none⟩ (.string ((rd_T67 l0_1 x3_2).f1))).setCell ⟨gb154, 2, none⟩ (.string ((rd_T67 l0_1 x3_2).f2))) = w87 at n0_ n1_ n2_ ⊢
           have BK150 := n0_
           have BK154 := n1_
           have HB := n2_
           clear n0_ n1_ n2_
           have n0_ := Aside0.mk (blk_drew BK150.out)
           have n1_ := Aside0.mk (blk_drew BK154.out)
           have n2_ := Aside0.mk (below_drew1 HB.out)
           clear BK150
           clear BK154
           clear HB
           have BK150 := n0_
           have BK154 := n1_
           have HB := n2_
           clear n0_ n1_ n2_
           refine start_ (n := 40) (S := fun w' => w'.cell? ⟨gb154, 0, none⟩ = some (.int .i64 ((rd_T67 l0_1 x3_2).f0)) ∧ w'.cell? ⟨gb154, 1, none⟩ = some (.string ((rd_T67 l0_1 x3_2).f1)) ∧ w'.cell? ⟨gb154, 2, none⟩ = some (.string ((rd_T67 l0_1 x3_2).f2)) ∧ w'.cell? ⟨gb150, 0, none⟩ = some (.string a0_0) ∧ w'.cell? ⟨gb150, 1, none⟩ = some (.slice (some ad153) l0_1.length c0_1)) (ds := []) (tf_ 0 40) (by kernel_rfl) rfl rfl ⟨(blk_cell BK154.out 0).trans rfl, (blk_cell BK154.out 1).trans rfl, (blk_cell BK154.out 2).trans rfl, (blk_cell BK150.out 0).trans rfl, (blk_cell BK150.out 1).trans rfl⟩ (fun hHeld => ?_); refine with_tabW spec_DeviceOk.tab7 spec_DeviceOk.bits7 (fun HT_ HW_ => ?_)
           generalize w87.drew = w88 at BK150 BK154 HB hHeld ⊢
           refine pure_ (i := 0) (N := some 28) (v := ?_) (a' := ?_) (tf_ 1 39) rfl rfl (any_of HT_.out (by kernel_rfl)) (fun _ _ _ h => h) (Or.inl ⟨by rfl, ?_⟩) ?_ ?_
           rotate_left
           ·intro w'
            go_simp
            with_reducible rfl
           rotate_left
           ·simp only [Act.put, sI_, s0_, sS_, i64_w, i32_w]
            rfl
           refine take_ (i := 1) (N := some 29) (v := ?_) (a' := ?_) (tf_ 2 38) rfl rfl (take_ofW HT_.out HW_.out (by kernel_rfl)) (fun _ _ _ h => h) (Or.inl ⟨by rfl, ?_⟩) hHeld ?_ ?_
           rotate_left
           ·rintro w' ⟨s0, s1, s2, s3, s4⟩
            go_simp
            with_reducible rfl
           rotate_left
           ·simp only [Act.put, sI_, s0_, sS_, i64_w, i32_w]
            rfl
           refine take_ (i := 2) (N := some 30) (v := ?_) (a' := ?_) (tf_ 3 37) rfl rfl (take_ofW HT_.out HW_.out (by kernel_rfl)) (fun _ _ _ h => h) (Or.inl ⟨by rfl, ?_⟩) hHeld ?_ ?_
           rotate_left
           ·rintro w' ⟨s0, s1, s2, s3, s4⟩
            go_simp
            with_reducible rfl
           rotate_left
           ·simp only [Act.put, sI_, s0_, sS_, i64_w, i32_w]
            rfl
           refine one_ (i := 3) (N := some 31) (tf_ 4 36) rfl rfl (one_of HT_.out (by kernel_rfl)) (by decide) (fun K hK => ?_)
           refine goes_ Try.func71 (by kernel_rfl) rfl #[.agg #[.string a0_0, .slice (some ad153) l0_1.length c0_1]] (by rfl) rfl rfl (by (try simp only [List.map_toArray, List.map_cons, List.map_nil]); first | done | rfl | (simp only [List.length_drop, List.length_take]; rfl)) ?_
           with_reducible refine (spec_l2Count.calls a0_0 _ _ l0_1 t155 _ ?side1 ?side2 A13.out).mono ?_
           (case side1 => repeat (first | exact (Kd.C_below HR0_1.out HB.out) | (with_reducible refine Kd.C_alloc ?_ _) | (with_reducible refine Kd.C_drewN ?_ _) | (with_reducible refine Kd.C_drew ?_)))
           (case side2 => exact HC0_1.out)
           rintro e w89 ⟨rfl, hb⟩
           refine ⟨_, rfl, ?_⟩
           have n0_ := Aside0.mk (blk_below (g := gb150) (o := .cells #[.string a0_0, .slice (some ad153) l0_1.length c0_1] 30 (0, 0)) (by (with_reducible repeat (first | refine blk_drewN ?_ _ | refine blk_drew ?_ | refine blk_alloc ?_ _)); exact BK150.out) hb)
           have n1_ := Aside0.mk (blk_below (g := gb154) (o := .cells #[.int .i64 ((rd_T67 l0_1 x3_2).f0), .string ((rd_T67 l0_1 x3_2).f1), .string ((rd_T67 l0_1 x3_2).f2)] 67 (0, 0)) (by (with_reducible repeat (first | refine blk_drewN ?_ _ | refine blk_drew ?_ | refine blk_alloc ?_ _)); exact BK154.out) hb)
           have n2_ := Aside0.mk (below_step (by repeat (first | (with_reducible first | exact HB.out | apply below_alloc | apply pw_below_drewN | apply below_drew1 | refine below_set ?_ GE150.out | refine below_set ?_ GE154.out) | exact HB.out)) hb)
           clear BK150
           clear BK154
           clear HB
           have BK150 := n0_
           have BK154 := n1_
           have HB := n2_
           clear n0_ n1_ n2_
           (try clear hb)
           (try clear hb2)
           (try clear hk)
           (try clear hi)
           refine hK.out _ _ ⟨(blk_cell BK154.out 0).trans rfl, (blk_cell BK154.out 1).trans rfl, (blk_cell BK154.out 2).trans rfl, (blk_cell BK150.out 0).trans rfl, (blk_cell BK150.out 1).trans rfl⟩ (fun hHeld => ?_)
           clear hK K
           refine norm_ (a' := ?_) ?_ ?_
           rotate_left
           ·show Act.put _ (some 31) _ = _
            simp only [Act.put, sI_, s0_, sS_, i64_w, i32_w]
            rfl
           refine pure_ (i := 4) (N := some 32) (v := ?_) (a' := ?_) (tf_ 5 35) rfl rfl (any_of HT_.out (by kernel_rfl)) (fun _ _ _ h => h) (Or.inl ⟨by rfl, ?_⟩) ?_ ?_
           rotate_left
           ·intro w'
            go_simp
            with_reducible rfl
           rotate_left
           ·simp only [Act.put, sI_, s0_, sS_, i64_w, i32_w]
            rfl
           refine one_ (i := 5) (N := some 33) (tf_ 6 34) rfl rfl (one_of HT_.out (by kernel_rfl)) (by decide) (fun K hK => ?_)
           refine goes_ Try.func70 (by kernel_rfl) rfl #[.int .i64 ((rd_T67 l0_1 x3_2).f0), .int .i64 0, .int .i64 (wrap64 (t155 - 1))] (by rfl) rfl rfl (by (try simp only [List.map_toArray, List.map_cons, List.map_nil]); first | done | rfl | (simp only [List.length_drop, List.length_take]; rfl) | ((try simp only [decide_eq_false_iff_not, decide_eq_true_eq, eq_iff_iff, iff_true, iff_false, Int.not_lt, Int.not_le, Nat.not_lt, Nat.not_le, ByteArray.size_append, ByteArray.size_extract] at *); (rw [show wrap64 (t155 - 1) = t155 - 1 from by unfold Go.RowKit.wrap64; omega]); rfl)) ?_
           with_reducible refine (spec_l1In.calls ((rd_T67 l0_1 x3_2).f0) 0 (wrap64 (t155 - 1)) true _ A14.out).mono ?_
           rintro e w' ⟨rfl, ⟨nd, rfl⟩⟩
           refine ⟨_, rfl, ?_⟩
           refine hK.out _ _ ⟨(blk_cell BK154.out 0).trans rfl, (blk_cell BK154.out 1).trans rfl, (blk_cell BK154.out 2).trans rfl, (blk_cell BK150.out 0).trans rfl, (blk_cell BK150.out 1).trans rfl⟩ (fun hHeld => ?_)
           clear hK K
           refine norm_ (a' := ?_) ?_ ?_
           rotate_left
           ·show Act.put _ (some 33) _ = _
            simp only [Act.put, sI_, s0_, sS_, i64_w, i32_w]
            rfl
           refine pure_ (i := 6) (N := some 34) (v := ?_) (a' := ?_) (tf_ 7 33) rfl rfl (any_of HT_.out (by kernel_rfl)) (fun _ _ _ h => h) (Or.inl ⟨by rfl, ?_⟩) ?_ ?_
           rotate_left
           ·intro w'
            go_simp
            with_reducible rfl
           rotate_left
           ·simp only [Act.put, sI_, s0_, sS_, i64_w, i32_w]
            rfl
           refine pure_ (i := 7) (N := some 35) (v := ?_) (a' := ?_) (tf_ 8 32) rfl rfl (any_of HT_.out (by kernel_rfl)) (fun _ _ _ h => h) (Or.inl ⟨by rfl, ?_⟩) ?_ ?_
           rotate_left
           ·intro w'
            go_simp
            with_reducible rfl
           rotate_left
           ·simp only [Act.put, sI_, s0_, sS_, i64_w, i32_w]
            rfl
           refine pure_ (i := 8) (N := some 36) (v := ?_) (a' := ?_) (tf_ 9 31) rfl rfl (any_of HT_.out (by kernel_rfl)) (fun _ _ _ h => h) (Or.inl ⟨by rfl, ?_⟩) ?_ ?_
           rotate_left
           ·intro w'
            go_simp
            with_reducible rfl
           rotate_left
           ·simp only [Act.put, sI_, s0_, sS_, i64_w, i32_w]
            rfl
           refine pure_ (i := 9) (N := some 37) (v := ?_) (a' := ?_) (tf_ 10 30) rfl rfl (any_of HT_.out (by kernel_rfl)) (fun _ _ _ h => h) (Or.inl ⟨by rfl, ?_⟩) ?_ ?_
           rotate_left
           ·intro w'
            go_simp
            with_reducible rfl
           rotate_left
           ·simp only [Act.put, sI_, s0_, sS_, i64_w, i32_w]
            rfl
           refine pure_ (i := 10) (N := some 38) (v := ?_) (a' := ?_) (tf_ 11 29) rfl rfl (any_of HT_.out (by kernel_rfl)) (fun _ _ _ h => h) (Or.inl ⟨by rfl, ?_⟩) ?_ ?_
           rotate_left
           ·intro w'
            go_simp
            with_reducible rfl
           rotate_left
           ·simp only [Act.put, sI_, s0_, sS_, i64_w, i32_w]
            rfl
           refine pure_ (i := 11) (N := some 39) (v := undef) (a' := ?_) (tf_ 12 28) rfl rfl (any_of HT_.out (by kernel_rfl)) (fun _ _ _ h => h) (Or.inr ⟨by rfl, rfl⟩) ?_ ?_
           rotate_left
           ·simp only [Act.put, sI_, s0_, sS_, i64_w, i32_w]
            rfl
           refine pure_ (i := 12) (N := some 40) (v := undef) (a' := ?_) (tf_ 13 27) rfl rfl (any_of HT_.out (by kernel_rfl)) (fun _ _ _ h => h) (Or.inr ⟨by rfl, rfl⟩) ?_ ?_
           rotate_left
           ·simp only [Act.put, sI_, s0_, sS_, i64_w, i32_w]
            rfl
           refine pure_ (i := 13) (N := some 41) (v := undef) (a' := ?_) (tf_ 14 26) rfl rfl (any_of HT_.out (by kernel_rfl)) (fun _ _ _ h => h) (Or.inr ⟨by rfl, rfl⟩) ?_ ?_
           rotate_left
           ·simp only [Act.put, sI_, s0_, sS_, i64_w, i32_w]
            rfl
           refine pure_ (i := 14) (N := some 42) (v := undef) (a' := ?_) (tf_ 15 25) rfl rfl (any_of HT_.out (by kernel_rfl)) (fun _ _ _ h => h) (Or.inr ⟨by rfl, rfl⟩) ?_ ?_
           rotate_left
           ·simp only [Act.put, sI_, s0_, sS_, i64_w, i32_w]
            rfl
           refine pure_ (i := 15) (N := some 43) (v := undef) (a' := ?_) (tf_ 16 24) rfl rfl (any_of HT_.out (by kernel_rfl)) (fun _ _ _ h => h) (Or.inr ⟨by rfl, rfl⟩) ?_ ?_
           rotate_left
           ·simp only [Act.put, sI_, s0_, sS_, i64_w, i32_w]
            rfl
           refine pure_ (i := 16) (N := some 44) (v := undef) (a' := ?_) (tf_ 17 23) rfl rfl (any_of HT_.out (by kernel_rfl)) (fun _ _ _ h => h) (Or.inr ⟨by rfl, rfl⟩) ?_ ?_
           rotate_left
           ·simp only [Act.put, sI_, s0_, sS_, i64_w, i32_w]
            rfl
           refine pure_ (i := 17) (N := some 45) (v := undef) (a' := ?_) (tf_ 18 22) rfl rfl (any_of HT_.out (by kernel_rfl)) (fun _ _ _ h => h) (Or.inr ⟨by rfl, rfl⟩) ?_ ?_
           rotate_left
           ·simp only [Act.put, sI_, s0_, sS_, i64_w, i32_w]
            rfl
           refine pure_ (i := 18) (N := some 46) (v := undef) (a' := ?_) (tf_ 19 21) rfl rfl (any_of HT_.out (by kernel_rfl)) (fun _ _ _ h => h) (Or.inr ⟨by rfl, rfl⟩) ?_ ?_
           rotate_left
           ·simp only [Act.put, sI_, s0_, sS_, i64_w, i32_w]
            rfl
           refine pure_ (i := 19) (N := some 47) (v := undef) (a' := ?_) (tf_ 20 20) rfl rfl (any_of HT_.out (by kernel_rfl)) (fun _ _ _ h => h) (Or.inr ⟨by rfl, rfl⟩) ?_ ?_
           rotate_left
           ·simp only [Act.put, sI_, s0_, sS_, i64_w, i32_w]
            rfl
           refine pure_ (i := 20) (N := some 48) (v := undef) (a' := ?_) (tf_ 21 19) rfl rfl (any_of HT_.out (by kernel_rfl)) (fun _ _ _ h => h) (Or.inr ⟨by rfl, rfl⟩) ?_ ?_
           rotate_left
           ·simp only [Act.put, sI_, s0_, sS_, i64_w, i32_w]
            rfl
           refine pure_ (i := 21) (N := some 49) (v := ?_) (a' := ?_) (tf_ 22 18) rfl rfl (any_of HT_.out (by kernel_rfl)) (fun _ _ _ h => h) (Or.inl ⟨by rfl, ?_⟩) ?_ ?_
           rotate_left
           ·intro w'
            go_simp
            with_reducible rfl
           rotate_left
           ·simp only [Act.put, sI_, s0_, sS_, i64_w, i32_w]
            rfl
           refine pure_ (i := 22) (N := some 50) (v := ?_) (a' := ?_) (tf_ 23 17) rfl rfl (any_of HT_.out (by kernel_rfl)) (fun _ _ _ h => h) (Or.inl ⟨by rfl, ?_⟩) ?_ ?_
           rotate_left
           ·intro w'
            go_simp
            with_reducible rfl
           rotate_left
           ·simp only [Act.put, sI_, s0_, sS_, i64_w, i32_w]
            rfl
           refine pure_ (i := 23) (N := some 51) (v := ?_) (a' := ?_) (tf_ 24 16) rfl rfl (any_of HT_.out (by kernel_rfl)) (fun _ _ _ h => h) (Or.inl ⟨by rfl, ?_⟩) ?_ ?_
           rotate_left
           ·intro w'
            go_simp
            with_reducible rfl
           rotate_left
           ·simp only [Act.put, sI_, s0_, sS_, i64_w, i32_w]
            rfl
           refine pure_ (i := 24) (N := some 52) (v := ?_) (a' := ?_) (tf_ 25 15) rfl rfl (any_of HT_.out (by kernel_rfl)) (fun _ _ _ h => h) (Or.inl ⟨by rfl, ?_⟩) ?_ ?_
           rotate_left
           ·intro w'
            go_simp
            with_reducible rfl
           rotate_left
           ·simp only [Act.put, sI_, s0_, sS_, i64_w, i32_w]
            rfl
           refine take_ (i := 25) (N := some 53) (v := ?_) (a' := ?_) (tf_ 26 14) rfl rfl (take_ofW HT_.out HW_.out (by kernel_rfl)) (fun _ _ _ h => h) (Or.inl ⟨by rfl, ?_⟩) hHeld ?_ ?_
           rotate_left
           ·rintro w' ⟨s0, s1, s2, s3, s4⟩
            go_simp
            with_reducible rfl
           rotate_left
           ·simp only [Act.put, sI_, s0_, sS_, i64_w, i32_w]
            rfl
           refine pure_ (i := 26) (N := some 54) (v := ?_) (a' := ?_) (tf_ 27 13) rfl rfl (any_of HT_.out (by kernel_rfl)) (fun _ _ _ h => h) (Or.inl ⟨by rfl, ?_⟩) ?_ ?_
           rotate_left
           ·intro w'
            go_simp
            with_reducible rfl
           rotate_left
           ·simp only [Act.put, sI_, s0_, sS_, i64_w, i32_w]
            rfl
           refine pure_ (i := 27) (N := some 55) (v := ?_) (a' := ?_) (tf_ 28 12) rfl rfl (any_of HT_.out (by kernel_rfl)) (fun _ _ _ h => h) (Or.inl ⟨by rfl, ?_⟩) ?_ ?_
           rotate_left
           ·intro w'
            go_simp
            with_reducible rfl
           rotate_left
           ·simp only [Act.put, sI_, s0_, sS_, i64_w, i32_w]
            rfl
           refine pure_ (i := 28) (N := some 56) (v := ?_) (a' := ?_) (tf_ 29 11) rfl rfl (any_of HT_.out (by kernel_rfl)) (fun _ _ _ h => h) (Or.inl ⟨by rfl, ?_⟩) ?_ ?_
           rotate_left
           ·intro w'
            go_simp
            with_reducible rfl
           rotate_left
           ·simp only [Act.put, sI_, s0_, sS_, i64_w, i32_w]
            rfl
           refine pure_ (i := 29) (N := some 57) (v := ?_) (a' := ?_) (tf_ 30 10) rfl rfl (any_of HT_.out (by kernel_rfl)) (fun _ _ _ h => h) (Or.inl ⟨by rfl, ?_⟩) ?_ ?_
           rotate_left
           ·intro w'
            go_simp
            with_reducible rfl
           rotate_left
           ·simp only [Act.put, sI_, s0_, sS_, i64_w, i32_w]
            rfl
           refine pure_ (i := 30) (N := some 58) (v := undef) (a' := ?_) (tf_ 31 9) rfl rfl (any_of HT_.out (by kernel_rfl)) (fun _ _ _ h => h) (Or.inr ⟨by rfl, rfl⟩) ?_ ?_
           rotate_left
           ·simp only [Act.put, sI_, s0_, sS_, i64_w, i32_w]
            rfl
           refine pure_ (i := 31) (N := some 59) (v := undef) (a' := ?_) (tf_ 32 8) rfl rfl (any_of HT_.out (by kernel_rfl)) (fun _ _ _ h => h) (Or.inr ⟨by rfl, rfl⟩) ?_ ?_
           rotate_left
           ·simp only [Act.put, sI_, s0_, sS_, i64_w, i32_w]
            rfl
           refine pure_ (i := 32) (N := some 60) (v := undef) (a' := ?_) (tf_ 33 7) rfl rfl (any_of HT_.out (by kernel_rfl)) (fun _ _ _ h => h) (Or.inr ⟨by rfl, rfl⟩) ?_ ?_
           rotate_left
           ·simp only [Act.put, sI_, s0_, sS_, i64_w, i32_w]
            rfl
           refine pure_ (i := 33) (N := some 61) (v := undef) (a' := ?_) (tf_ 34 6) rfl rfl (any_of HT_.out (by kernel_rfl)) (fun _ _ _ h => h) (Or.inr ⟨by rfl, rfl⟩) ?_ ?_
           rotate_left
           ·simp only [Act.put, sI_, s0_, sS_, i64_w, i32_w]
            rfl
           refine pure_ (i := 34) (N := some 62) (v := undef) (a' := ?_) (tf_ 35 5) rfl rfl (any_of HT_.out (by kernel_rfl)) (fun _ _ _ h => h) (Or.inr ⟨by rfl, rfl⟩) ?_ ?_
           rotate_left
           ·simp only [Act.put, sI_, s0_, sS_, i64_w, i32_w]
            rfl
           refine pure_ (i := 35) (N := some 63) (v := undef) (a' := ?_) (tf_ 36 4) rfl rfl (any_of HT_.out (by kernel_rfl)) (fun _ _ _ h => h) (Or.inr ⟨by rfl, rfl⟩) ?_ ?_
           rotate_left
           ·simp only [Act.put, sI_, s0_, sS_, i64_w, i32_w]
            rfl
           refine pure_ (i := 36) (N := some 64) (v := undef) (a' := ?_) (tf_ 37 3) rfl rfl (any_of HT_.out (by kernel_rfl)) (fun _ _ _ h => h) (Or.inr ⟨by rfl, rfl⟩) ?_ ?_
           rotate_left
           ·simp only [Act.put, sI_, s0_, sS_, i64_w, i32_w]
            rfl
           refine pure_ (i := 37) (N := some 65) (v := undef) (a' := ?_) (tf_ 38 2) rfl rfl (any_of HT_.out (by kernel_rfl)) (fun _ _ _ h => h) (Or.inr ⟨by rfl, rfl⟩) ?_ ?_
           rotate_left
           ·simp only [Act.put, sI_, s0_, sS_, i64_w, i32_w]
            rfl
           refine pure_ (i := 38) (N := some 66) (v := undef) (a' := ?_) (tf_ 39 1) rfl rfl (any_of HT_.out (by kernel_rfl)) (fun _ _ _ h => h) (Or.inr ⟨by rfl, rfl⟩) ?_ ?_
           rotate_left
           ·simp only [Act.put, sI_, s0_, sS_, i64_w, i32_w]
            rfl
           refine pure_ (i := 39) (N := some 67) (v := ?_) (a' := ?_) (tf_ 40 0) rfl rfl (any_of HT_.out (by kernel_rfl)) (fun _ _ _ h => h) (Or.inl ⟨by rfl, ?_⟩) ?_ ?_
           rotate_left
           ·intro w'
            go_simp
            with_reducible rfl
           rotate_left
           ·simp only [Act.put, sI_, s0_, sS_, i64_w, i32_w]
            rfl
           refine done_ (done_of HT_.out (by kernel_rfl)) ?_
           try go_wp2
           go_ret
           exact ⟨by first | rfl | (simp [errW_none, errW_some] <;> rfl) | (simp [*, errW_none, errW_some] <;> rfl), by repeat (first | (with_reducible first | exact HB.out | apply below_alloc | apply pw_below_drewN | apply below_drew1 | refine below_set ?_ GE150.out | refine below_set ?_ GE154.out) | exact HB.out)⟩
        ·replace c15 := Bool.eq_false_iff.mpr c15
         subst c15
         have H1 : (some false) = some r := by rw [if_neg (show ¬ (false = true) by decide)] at H; exact H
         clear H
         have H := H1
         clear H1
         obtain rfl := Option.some.inj H
         have hcz90_0 : wr.cell? ⟨gb150, 0, none⟩ = some (.string a0_0) := (blk_cell BK150.out 0).trans rfl
         have hcz90_1 : wr.cell? ⟨gb150, 1, none⟩ = some (.slice A0_1 l0_1.length c0_1) := (blk_cell BK150.out 1).trans rfl
         have hfz90_0 := blk_frozen BK150.out 0
         have hfz90_1 := blk_frozen BK150.out 1
         have p153 : 0 ≤ (x3_2 : Int) := of_decide_eq_true (by first | (with_reducible assumption) | assumption)
         have q153 : x3_2 < (l0_1.length : Int) := of_decide_eq_true (by first | (with_reducible assumption) | assumption)
         obtain ⟨ad153, e153, hx153_0, hx153_1, hx153_2⟩ := at_T67 HR0_1.out x3_2 p153 q153
         cases e153
         replace hx153_0 := (HB.out.cell (World.block_lt_of_cell? w _ hx153_0)).trans hx153_0
         replace hx153_1 := (HB.out.cell (World.block_lt_of_cell? w _ hx153_1)).trans hx153_1
         replace hx153_2 := (HB.out.cell (World.block_lt_of_cell? w _ hx153_2)).trans hx153_2
         replace p153 := eq_true p153
         replace q153 := eq_true q153
         try go_wp2_with (first | ((with_reducible refine gate_dst (N := 4) rfl ?_); (try (refine gate_guard (by rfl) ?_; dsimp only)); refine box_event ?hg (N := 4) ?hd (cs := #[.int .i64 0, .string (⟨#[]⟩ : ByteArray), .string (⟨#[]⟩ : ByteArray)]) (t := 67) ?hr ?_; (case hd => rfl); (case hg => rfl); (case hr => first | (go_simp; done) | (go_simp; rfl)); intro gb154 hg w91 hbox hb; have n0_ := Aside0.mk (blk_below (g := gb150) (o := .cells #[.string a0_0, .slice (some ad153) l0_1.length c0_1] 30 (0, 0)) (by (with_reducible repeat (first | refine blk_drewN ?_ _ | refine blk_drew ?_ | refine blk_alloc ?_ _)); exact BK150.out) hb); have n1_ := Aside0.mk (below_step (by repeat (first | (with_reducible first | exact HB.out | apply below_alloc | apply pw_below_drewN | apply below_drew1 | refine below_set ?_ GE150.out) | exact HB.out)) hb); have n2_ := Aside0.mk (hbox); have n3_ := Aside0.mk ((by rw [hg]; exact (below_size (by repeat (first | (with_reducible first | exact HB.out | apply below_alloc | apply pw_below_drewN | apply below_drew1 | refine below_set ?_ GE150.out) | exact HB.out))) : w.heap.size ≤ gb154)); have n4_ := Aside0.mk ((by rw [hg]; exact (below_size (by repeat (first | (with_reducible first | exact HB.out | apply below_alloc | apply pw_below_drewN | apply below_drew1 | refine below_set ?_ GE150.out) | exact HB.out))) : w.heap.size ≤ gb154)); have n5_ := Aside0.mk ((by rw [hg]; exact Nat.ne_of_lt (blk_lt (g := gb150) (o := .cells #[.string a0_0, .slice (some ad153) l0_1.length c0_1] 30 (0, 0)) (by (with_reducible repeat (first | refine blk_drewN ?_ _ | refine blk_drew ?_ | refine blk_alloc ?_ _)); exact BK150.out)) : gb150 ≠ gb154)); have n6_ := Aside0.mk ((by rw [hg]; exact Nat.ne_of_gt (blk_lt (g := gb150) (o := .cells #[.string a0_0, .slice (some ad153) l0_1.length c0_1] 30 (0, 0)) (by (with_reducible repeat (first | refine blk_drewN ?_ _ | refine blk_drew ?_ | refine blk_alloc ?_ _)); exact BK150.out)) : gb154 ≠ gb150)); clear BK150; clear HB; have BK150 := n0_; have HB := n1_; have BK154 := n2_; have GW154 := n3_; have GE154 := n4_; have NB150_154 := n5_; have NB154_150 := n6_; clear n0_ n1_ n2_ n3_ n4_ n5_ n6_; clear hb hbox hg; have hnb92 := NB154_150.out; have hnc92 := NB150_154.out; have hcz93_0 : w91.cell? ⟨gb154, 0, none⟩ = some (.int .i64 0) := (blk_cell BK154.out 0).trans rfl; have hcz93_1 : w91.cell? ⟨gb154, 1, none⟩ = some (.string (⟨#[]⟩ : ByteArray)) := (blk_cell BK154.out 1).trans rfl; have hcz93_2 : w91.cell? ⟨gb154, 2, none⟩ = some (.string (⟨#[]⟩ : ByteArray)) := (blk_cell BK154.out 2).trans rfl; have hfz93_0 := blk_frozen BK154.out 0; have hfz93_1 := blk_frozen BK154.out 1; have hfz93_2 := blk_frozen BK154.out 2))
         have n0_ : Aside0 ((((w91.setCell ⟨gb154, 0, none⟩ (.int .i64 ((rd_T67 l0_1 x3_2).f0))).setCell ⟨gb154, 1, none⟩ (.string ((rd_T67 l0_1 x3_2).f1))).setCell ⟨gb154, 2, none⟩ (.string ((rd_T67 l0_1 x3_2).f2))).heap[gb150]? = some (.cells #[.string a0_0, .slice (some ad153) l0_1.length c0_1] 30 (0, 0))) := ⟨by (with_reducible repeat (first | refine blk_drewN ?_ _ | refine blk_drew ?_ | refine blk_alloc ?_ _)); refine blk_far ?_ NB150_154.out _; (with_reducible repeat (first | refine blk_drewN ?_ _ | refine blk_drew ?_ | refine blk_alloc ?_ _)); refine blk_far ?_ NB150_154.out _; (with_reducible repeat (first | refine blk_drewN ?_ _ | refine blk_drew ?_ | refine blk_alloc ?_ _)); refine blk_far ?_ NB150_154.out _; (with_reducible repeat (first | refine blk_drewN ?_ _ | refine blk_drew ?_ | refine blk_alloc ?_ _)); exact BK150.out⟩
         have n1_ : Aside0 ((((w91.setCell ⟨gb154, 0, none⟩ (.int .i64 ((rd_T67 l0_1 x3_2).f0))).setCell ⟨gb154, 1, none⟩ (.string ((rd_T67 l0_1 x3_2).f1))).setCell ⟨gb154, 2, none⟩ (.string ((rd_T67 l0_1 x3_2).f2))).heap[gb154]? = some (.cells #[.int .i64 ((rd_T67 l0_1 x3_2).f0), .string ((rd_T67 l0_1 x3_2).f1), .string ((rd_T67 l0_1 x3_2).f2)] 67 (0, 0))) := ⟨by (with_reducible repeat (first | refine blk_drewN ?_ _ | refine blk_drew ?_ | refine blk_alloc ?_ _)); refine blk_put (cs := #[.int .i64 ((rd_T67 l0_1 x3_2).f0), .string ((rd_T67 l0_1 x3_2).f1), .string (⟨#[]⟩ : ByteArray)]) ?_ 2 _ rfl; (with_reducible repeat (first | refine blk_drewN ?_ _ | refine blk_drew ?_ | refine blk_alloc ?_ _)); refine blk_put (cs := #[.int .i64 ((rd_T67 l0_1 x3_2).f0), .string (⟨#[]⟩ : ByteArray), .string (⟨#[]⟩ : ByteArray)]) ?_ 1 _ rfl; (with_reducible repeat (first | refine blk_drewN ?_ _ | refine blk_drew ?_ | refine blk_alloc ?_ _)); refine blk_put (cs := #[.int .i64 0, .string (⟨#[]⟩ : ByteArray), .string (⟨#[]⟩ : ByteArray)]) ?_ 0 _ rfl; (with_reducible repeat (first | refine blk_drewN ?_ _ | refine blk_drew ?_ | refine blk_alloc ?_ _)); exact BK154.out⟩
         have n2_ : Aside0 (Below w.heap.size w (((w91.setCell ⟨gb154, 0, none⟩ (.int .i64 ((rd_T67 l0_1 x3_2).f0))).setCell ⟨gb154, 1, none⟩ (.string ((rd_T67 l0_1 x3_2).f1))).setCell ⟨gb154, 2, none⟩ (.string ((rd_T67 l0_1 x3_2).f2)))) := ⟨by repeat (first | (with_reducible first | exact HB.out | apply below_alloc | apply pw_below_drewN | apply below_drew1 | refine below_set ?_ GE150.out | refine below_set ?_ GE154.out) | exact HB.out)⟩
         (try clear BK150)
         (try clear BK154)
         (try clear HB)
         generalize (((w91.setCell ⟨gb154, 0, none⟩ (.int .i64 ((rd_T67 l0_1 x3_2).f0))).setCell ⟨gb154, 1, none⟩ (.string ((rd_T67 l0_1 x3_2).f1))).setCell ⟨gb154, 2, none⟩ (.string ((rd_T67 l0_1 x3_2).f2))) = w94 at n0_ n1_ n2_ ⊢
         have BK150 := n0_
         have BK154 := n1_
         have HB := n2_
         clear n0_ n1_ n2_
         have n0_ := Aside0.mk (blk_drew BK150.out)
         have n1_ := Aside0.mk (blk_drew BK154.out)
         have n2_ := Aside0.mk (below_drew1 HB.out)
         clear BK150
         clear BK154
         clear HB
         have BK150 := n0_
         have BK154 := n1_
         have HB := n2_
         clear n0_ n1_ n2_
         refine start_ (n := 40) (S := fun w' => w'.cell? ⟨gb154, 0, none⟩ = some (.int .i64 ((rd_T67 l0_1 x3_2).f0)) ∧ w'.cell? ⟨gb154, 1, none⟩ = some (.string ((rd_T67 l0_1 x3_2).f1)) ∧ w'.cell? ⟨gb154, 2, none⟩ = some (.string ((rd_T67 l0_1 x3_2).f2)) ∧ w'.cell? ⟨gb150, 0, none⟩ = some (.string a0_0) ∧ w'.cell? ⟨gb150, 1, none⟩ = some (.slice (some ad153) l0_1.length c0_1)) (ds := []) (tf_ 0 40) (by kernel_rfl) rfl rfl ⟨(blk_cell BK154.out 0).trans rfl, (blk_cell BK154.out 1).trans rfl, (blk_cell BK154.out 2).trans rfl, (blk_cell BK150.out 0).trans rfl, (blk_cell BK150.out 1).trans rfl⟩ (fun hHeld => ?_); refine with_tabW spec_DeviceOk.tab7 spec_DeviceOk.bits7 (fun HT_ HW_ => ?_)
         generalize w94.drew = w95 at BK150 BK154 HB hHeld ⊢
         refine pure_ (i := 0) (N := some 28) (v := ?_) (a' := ?_) (tf_ 1 39) rfl rfl (any_of HT_.out (by kernel_rfl)) (fun _ _ _ h => h) (Or.inl ⟨by rfl, ?_⟩) ?_ ?_
         rotate_left
         ·intro w'
          go_simp
          with_reducible rfl
         rotate_left
         ·simp only [Act.put, sI_, s0_, sS_, i64_w, i32_w]
          rfl
         refine take_ (i := 1) (N := some 29) (v := ?_) (a' := ?_) (tf_ 2 38) rfl rfl (take_ofW HT_.out HW_.out (by kernel_rfl)) (fun _ _ _ h => h) (Or.inl ⟨by rfl, ?_⟩) hHeld ?_ ?_
         rotate_left
         ·rintro w' ⟨s0, s1, s2, s3, s4⟩
          go_simp
          with_reducible rfl
         rotate_left
         ·simp only [Act.put, sI_, s0_, sS_, i64_w, i32_w]
          rfl
         refine take_ (i := 2) (N := some 30) (v := ?_) (a' := ?_) (tf_ 3 37) rfl rfl (take_ofW HT_.out HW_.out (by kernel_rfl)) (fun _ _ _ h => h) (Or.inl ⟨by rfl, ?_⟩) hHeld ?_ ?_
         rotate_left
         ·rintro w' ⟨s0, s1, s2, s3, s4⟩
          go_simp
          with_reducible rfl
         rotate_left
         ·simp only [Act.put, sI_, s0_, sS_, i64_w, i32_w]
          rfl
         refine one_ (i := 3) (N := some 31) (tf_ 4 36) rfl rfl (one_of HT_.out (by kernel_rfl)) (by decide) (fun K hK => ?_)
         refine goes_ Try.func71 (by kernel_rfl) rfl #[.agg #[.string a0_0, .slice (some ad153) l0_1.length c0_1]] (by rfl) rfl rfl (by (try simp only [List.map_toArray, List.map_cons, List.map_nil]); first | done | rfl | (simp only [List.length_drop, List.length_take]; rfl)) ?_
         with_reducible refine (spec_l2Count.calls a0_0 _ _ l0_1 t155 _ ?side1 ?side2 A13.out).mono ?_
         (case side1 => repeat (first | exact (Kd.C_below HR0_1.out HB.out) | (with_reducible refine Kd.C_alloc ?_ _) | (with_reducible refine Kd.C_drewN ?_ _) | (with_reducible refine Kd.C_drew ?_)))
         (case side2 => exact HC0_1.out)
         rintro e w96 ⟨rfl, hb⟩
         refine ⟨_, rfl, ?_⟩
         have n0_ := Aside0.mk (blk_below (g := gb150) (o := .cells #[.string a0_0, .slice (some ad153) l0_1.length c0_1] 30 (0, 0)) (by (with_reducible repeat (first | refine blk_drewN ?_ _ | refine blk_drew ?_ | refine blk_alloc ?_ _)); exact BK150.out) hb)
         have n1_ := Aside0.mk (blk_below (g := gb154) (o := .cells #[.int .i64 ((rd_T67 l0_1 x3_2).f0), .string ((rd_T67 l0_1 x3_2).f1), .string ((rd_T67 l0_1 x3_2).f2)] 67 (0, 0)) (by (with_reducible repeat (first | refine blk_drewN ?_ _ | refine blk_drew ?_ | refine blk_alloc ?_ _)); exact BK154.out) hb)
         have n2_ := Aside0.mk (below_step (by repeat (first | (with_reducible first | exact HB.out | apply below_alloc | apply pw_below_drewN | apply below_drew1 | refine below_set ?_ GE150.out | refine below_set ?_ GE154.out) | exact HB.out)) hb)
         clear BK150
         clear BK154
         clear HB
         have BK150 := n0_
         have BK154 := n1_
         have HB := n2_
         clear n0_ n1_ n2_
         (try clear hb)
         (try clear hb2)
         (try clear hk)
         (try clear hi)
         refine hK.out _ _ ⟨(blk_cell BK154.out 0).trans rfl, (blk_cell BK154.out 1).trans rfl, (blk_cell BK154.out 2).trans rfl, (blk_cell BK150.out 0).trans rfl, (blk_cell BK150.out 1).trans rfl⟩ (fun hHeld => ?_)
         clear hK K
         refine norm_ (a' := ?_) ?_ ?_
         rotate_left
         ·show Act.put _ (some 31) _ = _
          simp only [Act.put, sI_, s0_, sS_, i64_w, i32_w]
          rfl
         refine pure_ (i := 4) (N := some 32) (v := ?_) (a' := ?_) (tf_ 5 35) rfl rfl (any_of HT_.out (by kernel_rfl)) (fun _ _ _ h => h) (Or.inl ⟨by rfl, ?_⟩) ?_ ?_
         rotate_left
         ·intro w'
          go_simp
          with_reducible rfl
         rotate_left
         ·simp only [Act.put, sI_, s0_, sS_, i64_w, i32_w]
          rfl
         refine one_ (i := 5) (N := some 33) (tf_ 6 34) rfl rfl (one_of HT_.out (by kernel_rfl)) (by decide) (fun K hK => ?_)
         refine goes_ Try.func70 (by kernel_rfl) rfl #[.int .i64 ((rd_T67 l0_1 x3_2).f0), .int .i64 0, .int .i64 (wrap64 (t155 - 1))] (by rfl) rfl rfl (by (try simp only [List.map_toArray, List.map_cons, List.map_nil]); first | done | rfl | (simp only [List.length_drop, List.length_take]; rfl) | ((try simp only [decide_eq_false_iff_not, decide_eq_true_eq, eq_iff_iff, iff_true, iff_false, Int.not_lt, Int.not_le, Nat.not_lt, Nat.not_le, ByteArray.size_append, ByteArray.size_extract] at *); (rw [show wrap64 (t155 - 1) = t155 - 1 from by unfold Go.RowKit.wrap64; omega]); rfl)) ?_
         with_reducible refine (spec_l1In.calls ((rd_T67 l0_1 x3_2).f0) 0 (wrap64 (t155 - 1)) false _ A14.out).mono ?_
         rintro e w' ⟨rfl, ⟨nd, rfl⟩⟩
         refine ⟨_, rfl, ?_⟩
         refine hK.out _ _ ⟨(blk_cell BK154.out 0).trans rfl, (blk_cell BK154.out 1).trans rfl, (blk_cell BK154.out 2).trans rfl, (blk_cell BK150.out 0).trans rfl, (blk_cell BK150.out 1).trans rfl⟩ (fun hHeld => ?_)
         clear hK K
         refine norm_ (a' := ?_) ?_ ?_
         rotate_left
         ·show Act.put _ (some 33) _ = _
          simp only [Act.put, sI_, s0_, sS_, i64_w, i32_w]
          rfl
         refine pure_ (i := 6) (N := some 34) (v := ?_) (a' := ?_) (tf_ 7 33) rfl rfl (any_of HT_.out (by kernel_rfl)) (fun _ _ _ h => h) (Or.inl ⟨by rfl, ?_⟩) ?_ ?_
         rotate_left
         ·intro w'
          go_simp
          with_reducible rfl
         rotate_left
         ·simp only [Act.put, sI_, s0_, sS_, i64_w, i32_w]
          rfl
         refine pure_ (i := 7) (N := some 35) (v := ?_) (a' := ?_) (tf_ 8 32) rfl rfl (any_of HT_.out (by kernel_rfl)) (fun _ _ _ h => h) (Or.inl ⟨by rfl, ?_⟩) ?_ ?_
         rotate_left
         ·intro w'
          go_simp
          with_reducible rfl
         rotate_left
         ·simp only [Act.put, sI_, s0_, sS_, i64_w, i32_w]
          rfl
         refine pure_ (i := 8) (N := some 36) (v := undef) (a' := ?_) (tf_ 9 31) rfl rfl (any_of HT_.out (by kernel_rfl)) (fun _ _ _ h => h) (Or.inr ⟨by rfl, rfl⟩) ?_ ?_
         rotate_left
         ·simp only [Act.put, sI_, s0_, sS_, i64_w, i32_w]
          rfl
         refine pure_ (i := 9) (N := some 37) (v := undef) (a' := ?_) (tf_ 10 30) rfl rfl (any_of HT_.out (by kernel_rfl)) (fun _ _ _ h => h) (Or.inr ⟨by rfl, rfl⟩) ?_ ?_
         rotate_left
         ·simp only [Act.put, sI_, s0_, sS_, i64_w, i32_w]
          rfl
         refine pure_ (i := 10) (N := some 38) (v := undef) (a' := ?_) (tf_ 11 29) rfl rfl (any_of HT_.out (by kernel_rfl)) (fun _ _ _ h => h) (Or.inr ⟨by rfl, rfl⟩) ?_ ?_
         rotate_left
         ·simp only [Act.put, sI_, s0_, sS_, i64_w, i32_w]
          rfl
         refine pure_ (i := 11) (N := some 39) (v := undef) (a' := ?_) (tf_ 12 28) rfl rfl (any_of HT_.out (by kernel_rfl)) (fun _ _ _ h => h) (Or.inr ⟨by rfl, rfl⟩) ?_ ?_
         rotate_left
         ·simp only [Act.put, sI_, s0_, sS_, i64_w, i32_w]
          rfl
         refine pure_ (i := 12) (N := some 40) (v := undef) (a' := ?_) (tf_ 13 27) rfl rfl (any_of HT_.out (by kernel_rfl)) (fun _ _ _ h => h) (Or.inr ⟨by rfl, rfl⟩) ?_ ?_
         rotate_left
         ·simp only [Act.put, sI_, s0_, sS_, i64_w, i32_w]
          rfl
         refine pure_ (i := 13) (N := some 41) (v := undef) (a' := ?_) (tf_ 14 26) rfl rfl (any_of HT_.out (by kernel_rfl)) (fun _ _ _ h => h) (Or.inr ⟨by rfl, rfl⟩) ?_ ?_
         rotate_left
         ·simp only [Act.put, sI_, s0_, sS_, i64_w, i32_w]
          rfl
         refine pure_ (i := 14) (N := some 42) (v := undef) (a' := ?_) (tf_ 15 25) rfl rfl (any_of HT_.out (by kernel_rfl)) (fun _ _ _ h => h) (Or.inr ⟨by rfl, rfl⟩) ?_ ?_
         rotate_left
         ·simp only [Act.put, sI_, s0_, sS_, i64_w, i32_w]
          rfl
         refine pure_ (i := 15) (N := some 43) (v := undef) (a' := ?_) (tf_ 16 24) rfl rfl (any_of HT_.out (by kernel_rfl)) (fun _ _ _ h => h) (Or.inr ⟨by rfl, rfl⟩) ?_ ?_
         rotate_left
         ·simp only [Act.put, sI_, s0_, sS_, i64_w, i32_w]
          rfl
         refine pure_ (i := 16) (N := some 44) (v := undef) (a' := ?_) (tf_ 17 23) rfl rfl (any_of HT_.out (by kernel_rfl)) (fun _ _ _ h => h) (Or.inr ⟨by rfl, rfl⟩) ?_ ?_
         rotate_left
         ·simp only [Act.put, sI_, s0_, sS_, i64_w, i32_w]
          rfl
         refine pure_ (i := 17) (N := some 45) (v := undef) (a' := ?_) (tf_ 18 22) rfl rfl (any_of HT_.out (by kernel_rfl)) (fun _ _ _ h => h) (Or.inr ⟨by rfl, rfl⟩) ?_ ?_
         rotate_left
         ·simp only [Act.put, sI_, s0_, sS_, i64_w, i32_w]
          rfl
         refine pure_ (i := 18) (N := some 46) (v := undef) (a' := ?_) (tf_ 19 21) rfl rfl (any_of HT_.out (by kernel_rfl)) (fun _ _ _ h => h) (Or.inr ⟨by rfl, rfl⟩) ?_ ?_
         rotate_left
         ·simp only [Act.put, sI_, s0_, sS_, i64_w, i32_w]
          rfl
         refine pure_ (i := 19) (N := some 47) (v := undef) (a' := ?_) (tf_ 20 20) rfl rfl (any_of HT_.out (by kernel_rfl)) (fun _ _ _ h => h) (Or.inr ⟨by rfl, rfl⟩) ?_ ?_
         rotate_left
         ·simp only [Act.put, sI_, s0_, sS_, i64_w, i32_w]
          rfl
         refine pure_ (i := 20) (N := some 48) (v := undef) (a' := ?_) (tf_ 21 19) rfl rfl (any_of HT_.out (by kernel_rfl)) (fun _ _ _ h => h) (Or.inr ⟨by rfl, rfl⟩) ?_ ?_
         rotate_left
         ·simp only [Act.put, sI_, s0_, sS_, i64_w, i32_w]
          rfl
         refine pure_ (i := 21) (N := some 49) (v := undef) (a' := ?_) (tf_ 22 18) rfl rfl (any_of HT_.out (by kernel_rfl)) (fun _ _ _ h => h) (Or.inr ⟨by rfl, rfl⟩) ?_ ?_
         rotate_left
         ·simp only [Act.put, sI_, s0_, sS_, i64_w, i32_w]
          rfl
         refine pure_ (i := 22) (N := some 50) (v := ?_) (a' := ?_) (tf_ 23 17) rfl rfl (any_of HT_.out (by kernel_rfl)) (fun _ _ _ h => h) (Or.inl ⟨by rfl, ?_⟩) ?_ ?_
         rotate_left
         ·intro w'
          go_simp
          with_reducible rfl
         rotate_left
         ·simp only [Act.put, sI_, s0_, sS_, i64_w, i32_w]
          rfl
         refine pure_ (i := 23) (N := some 51) (v := ?_) (a' := ?_) (tf_ 24 16) rfl rfl (any_of HT_.out (by kernel_rfl)) (fun _ _ _ h => h) (Or.inl ⟨by rfl, ?_⟩) ?_ ?_
         rotate_left
         ·intro w'
          go_simp
          with_reducible rfl
         rotate_left
         ·simp only [Act.put, sI_, s0_, sS_, i64_w, i32_w]
          rfl
         refine pure_ (i := 24) (N := some 52) (v := undef) (a' := ?_) (tf_ 25 15) rfl rfl (any_of HT_.out (by kernel_rfl)) (fun _ _ _ h => h) (Or.inr ⟨by rfl, rfl⟩) ?_ ?_
         rotate_left
         ·simp only [Act.put, sI_, s0_, sS_, i64_w, i32_w]
          rfl
         refine pure_ (i := 25) (N := some 53) (v := undef) (a' := ?_) (tf_ 26 14) rfl rfl (any_of HT_.out (by kernel_rfl)) (fun _ _ _ h => h) (Or.inr ⟨by rfl, rfl⟩) ?_ ?_
         rotate_left
         ·simp only [Act.put, sI_, s0_, sS_, i64_w, i32_w]
          rfl
         refine pure_ (i := 26) (N := some 54) (v := undef) (a' := ?_) (tf_ 27 13) rfl rfl (any_of HT_.out (by kernel_rfl)) (fun _ _ _ h => h) (Or.inr ⟨by rfl, rfl⟩) ?_ ?_
         rotate_left
         ·simp only [Act.put, sI_, s0_, sS_, i64_w, i32_w]
          rfl
         refine pure_ (i := 27) (N := some 55) (v := undef) (a' := ?_) (tf_ 28 12) rfl rfl (any_of HT_.out (by kernel_rfl)) (fun _ _ _ h => h) (Or.inr ⟨by rfl, rfl⟩) ?_ ?_
         rotate_left
         ·simp only [Act.put, sI_, s0_, sS_, i64_w, i32_w]
          rfl
         refine pure_ (i := 28) (N := some 56) (v := ?_) (a' := ?_) (tf_ 29 11) rfl rfl (any_of HT_.out (by kernel_rfl)) (fun _ _ _ h => h) (Or.inl ⟨by rfl, ?_⟩) ?_ ?_
         rotate_left
         ·intro w'
          go_simp
          with_reducible rfl
         rotate_left
         ·simp only [Act.put, sI_, s0_, sS_, i64_w, i32_w]
          rfl
         refine pure_ (i := 29) (N := some 57) (v := ?_) (a' := ?_) (tf_ 30 10) rfl rfl (any_of HT_.out (by kernel_rfl)) (fun _ _ _ h => h) (Or.inl ⟨by rfl, ?_⟩) ?_ ?_
         rotate_left
         ·intro w'
          go_simp
          with_reducible rfl
         rotate_left
         ·simp only [Act.put, sI_, s0_, sS_, i64_w, i32_w]
          rfl
         refine pure_ (i := 30) (N := some 58) (v := undef) (a' := ?_) (tf_ 31 9) rfl rfl (any_of HT_.out (by kernel_rfl)) (fun _ _ _ h => h) (Or.inr ⟨by rfl, rfl⟩) ?_ ?_
         rotate_left
         ·simp only [Act.put, sI_, s0_, sS_, i64_w, i32_w]
          rfl
         refine pure_ (i := 31) (N := some 59) (v := undef) (a' := ?_) (tf_ 32 8) rfl rfl (any_of HT_.out (by kernel_rfl)) (fun _ _ _ h => h) (Or.inr ⟨by rfl, rfl⟩) ?_ ?_
         rotate_left
         ·simp only [Act.put, sI_, s0_, sS_, i64_w, i32_w]
          rfl
         refine pure_ (i := 32) (N := some 60) (v := undef) (a' := ?_) (tf_ 33 7) rfl rfl (any_of HT_.out (by kernel_rfl)) (fun _ _ _ h => h) (Or.inr ⟨by rfl, rfl⟩) ?_ ?_
         rotate_left
         ·simp only [Act.put, sI_, s0_, sS_, i64_w, i32_w]
          rfl
         refine pure_ (i := 33) (N := some 61) (v := undef) (a' := ?_) (tf_ 34 6) rfl rfl (any_of HT_.out (by kernel_rfl)) (fun _ _ _ h => h) (Or.inr ⟨by rfl, rfl⟩) ?_ ?_
         rotate_left
         ·simp only [Act.put, sI_, s0_, sS_, i64_w, i32_w]
          rfl
         refine pure_ (i := 34) (N := some 62) (v := undef) (a' := ?_) (tf_ 35 5) rfl rfl (any_of HT_.out (by kernel_rfl)) (fun _ _ _ h => h) (Or.inr ⟨by rfl, rfl⟩) ?_ ?_
         rotate_left
         ·simp only [Act.put, sI_, s0_, sS_, i64_w, i32_w]
          rfl
         refine pure_ (i := 35) (N := some 63) (v := undef) (a' := ?_) (tf_ 36 4) rfl rfl (any_of HT_.out (by kernel_rfl)) (fun _ _ _ h => h) (Or.inr ⟨by rfl, rfl⟩) ?_ ?_
         rotate_left
         ·simp only [Act.put, sI_, s0_, sS_, i64_w, i32_w]
          rfl
         refine pure_ (i := 36) (N := some 64) (v := undef) (a' := ?_) (tf_ 37 3) rfl rfl (any_of HT_.out (by kernel_rfl)) (fun _ _ _ h => h) (Or.inr ⟨by rfl, rfl⟩) ?_ ?_
         rotate_left
         ·simp only [Act.put, sI_, s0_, sS_, i64_w, i32_w]
          rfl
         refine pure_ (i := 37) (N := some 65) (v := undef) (a' := ?_) (tf_ 38 2) rfl rfl (any_of HT_.out (by kernel_rfl)) (fun _ _ _ h => h) (Or.inr ⟨by rfl, rfl⟩) ?_ ?_
         rotate_left
         ·simp only [Act.put, sI_, s0_, sS_, i64_w, i32_w]
          rfl
         refine pure_ (i := 38) (N := some 66) (v := undef) (a' := ?_) (tf_ 39 1) rfl rfl (any_of HT_.out (by kernel_rfl)) (fun _ _ _ h => h) (Or.inr ⟨by rfl, rfl⟩) ?_ ?_
         rotate_left
         ·simp only [Act.put, sI_, s0_, sS_, i64_w, i32_w]
          rfl
         refine pure_ (i := 39) (N := some 67) (v := ?_) (a' := ?_) (tf_ 40 0) rfl rfl (any_of HT_.out (by kernel_rfl)) (fun _ _ _ h => h) (Or.inl ⟨by rfl, ?_⟩) ?_ ?_
         rotate_left
         ·intro w'
          go_simp
          with_reducible rfl
         rotate_left
         ·simp only [Act.put, sI_, s0_, sS_, i64_w, i32_w]
          rfl
         refine done_ (done_of HT_.out (by kernel_rfl)) ?_
         try go_wp2
         go_ret
         exact ⟨by first | rfl | (simp [errW_none, errW_some] <;> rfl) | (simp [*, errW_none, errW_some] <;> rfl), by repeat (first | (with_reducible first | exact HB.out | apply below_alloc | apply pw_below_drewN | apply below_drew1 | refine below_set ?_ GE150.out | refine below_set ?_ GE154.out) | exact HB.out)⟩
       ·rw [if_neg c12] at H
        exact absurd H (by simp)
      ·rw [if_neg c11] at H
       have c11b0 : decide (x3_2 < (l0_1.length : Int)) = false := decide_eq_false c11
       clear c11
       obtain rfl := Option.some.inj H
       have hcz97_0 : wr.cell? ⟨gb150, 0, none⟩ = some (.string a0_0) := (blk_cell BK150.out 0).trans rfl
       have hcz97_1 : wr.cell? ⟨gb150, 1, none⟩ = some (.slice A0_1 l0_1.length c0_1) := (blk_cell BK150.out 1).trans rfl
       have hfz97_0 := blk_frozen BK150.out 0
       have hfz97_1 := blk_frozen BK150.out 1
       go_wp2
       go_ret
       exact ⟨by first | rfl | (simp [errW_none, errW_some] <;> rfl) | (simp [*, errW_none, errW_some] <;> rfl), by repeat (first | (with_reducible first | exact HB.out | apply below_alloc | apply pw_below_drewN | apply below_drew1 | refine below_set ?_ GE150.out) | exact HB.out)⟩

end Go.Proofs.Ytbbbajnnoficbaa.PFnExactEvict
