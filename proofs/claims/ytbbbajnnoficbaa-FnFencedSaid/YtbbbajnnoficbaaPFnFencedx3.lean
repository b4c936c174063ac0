-- by a patched copy of the print (wip/tools/patch_print.py)
import Derived.Test.YtbbbajnnoficbaaPFnFencedx0
import Derived.Test.YtbbbajnnoficbaaPFnFencedx1
import Derived.Test.YtbbbajnnoficbaaPFnFencedx2
namespace Go.Proofs.Ytbbbajnnoficbaa.PFnFenced
open Go.RowKit Go.Proofs.YtbbbajnnoficbaaW.PrintWords Go.Proofs.YtbbbajnnoficbaaW.PrintLast Go.Proofs.YtbbbajnnoficbaaW.PrintMore
attribute [local go_sem] max2_int min2_int max_two min_two max_three min_three max_four min_four   -- for this text's walks alone
open Go.Proofs.YtbbbajnnoficbaaW.PrintWords renaming blk_drewN → bN, blk_drew → bD, blk_alloc → bA, below_alloc → lA, pw_below_drewN → lN, below_drew1 → lD, below_set → lS, below_step → lT, blk_below → bB, blk_cell → bC, blk_frozen → bF
open Go.Proofs.YtbbbajnnoficbaaW.PrintWords.Aside0 renaming mk → mK
set_option linter.unusedVariables false
set_option linter.unusedSimpArgs false

/-! ### spec_l2Seen: function 67 -/
def spec_l2Seen.l : List S67 → List UInt8 → Option (List UInt8)
  | [], b => some b
  | x :: xs, b => if 0 ≤ x.f0 ∧ 64 * x.f0 + 64 ≤ (b.length : Int) ∧ (x.f1.size : Int) ≤ 64 then spec_l2Seen.l xs (b.take (64 * x.f0).toNat ++ x.f1.data.toList ++ b.drop ((64 * x.f0).toNat + x.f1.data.toList.length)) else none
def spec_l2Seen.f (a0_0 : ByteArray) (l0_1 : List S67) : Option ByteArray := if (a0_0.size : Int) ≤ 9223372036854775807 then (spec_l2Seen.l l0_1 a0_0.data.toList).map fun b => ⟨b.toArray⟩ else none
set_option maxHeartbeats 8000000 in
set_option maxRecDepth 100000 in
theorem spec_l2Seen.calls (a0_0 : ByteArray) (A0_1 : Option Addr) (c0_1 : Nat) (l0_1 : List (S67)) (r : ByteArray) (w : World) (hr0_1 : Kd.C k67 w A0_1 l0_1.length l0_1) (hc0_1 : l0_1.length ≤ c0_1) (h : spec_l2Seen.f a0_0 l0_1 = some r) :
    Calls Try.prog 67 #[.agg #[.string a0_0, .slice A0_1 l0_1.length c0_1]] w fun e w' => e = .returned (.string r) ∧ Below w.heap.size w w' := by
 have hu30 := Try.underlying30; have hu67 := Try.underlying67; have HR0_1 := mK hr0_1; have HC0_1 := mK hc0_1; have HL := mK (Kd.C_max hr0_1); clear hr0_1 hc0_1; have HB := mK (Below.refl w.heap.size w)
 obtain ⟨b1, hb1, rfl⟩ : ∃ b1, spec_l2Seen.l l0_1 a0_0.data.toList = some b1 ∧ (⟨b1.toArray⟩ : ByteArray) = r := by
   unfold spec_l2Seen.f at h; by_cases c : (a0_0.size : Int) ≤ 9223372036854775807
   · rw [if_pos c] at h; exact Option.map_eq_some_iff.mp h
   · rw [if_neg c] at h; cases h
 have HS : (a0_0.size : Int) ≤ 9223372036854775807 := by
   unfold spec_l2Seen.f at h; by_cases c : (a0_0.size : Int) ≤ 9223372036854775807
   · exact c
   · rw [if_neg c] at h; cases h
 replace HS := mK HS; have H := mK hb1; clear h hb1; go_enter Try.func67, Try.ntmps67; go_wp2_with (first | ((with_reducible refine gate_dst (N := 1) rfl ?_); refine box_event ?hg (N := 1) ?hd (cs := #[.string a0_0, .slice A0_1 l0_1.length c0_1]) (t := 30) ?hr ?_; (case hd => rfl); (case hg => rfl); (case hr => first | (go_simp; done) | (go_simp; rfl)); intro gb115 hg w4 hbox hb; have n0_ := mK (lT HB.out hb); have n1_ := mK hbox; have n3_ := mK (by rw [hg]; exact (below_size HB.out) : w.heap.size ≤ gb115); clear HB; have HB := n0_; have BK := n1_; have GE := n3_; clear n0_ n1_ n3_; clear hb hbox hg; have hcz0 : w4.cell? ⟨gb115, 0, none⟩ = some (.string a0_0) := (bC BK.out 0).trans rfl; have hcz1 : w4.cell? ⟨gb115, 1, none⟩ = some (.slice A0_1 l0_1.length c0_1) := (bC BK.out 1).trans rfl) | ((with_reducible refine gate_dst (N := 7) rfl ?_); refine Go.Proofs.YtbbbajnnoficbaaBts.conv_event rfl 9 50 5 (.tmp 6) rfl a0_0 rfl Try.underlying9 Try.underlying50 Try.underlying5 ?_; intro g hg cap w5 hcap hbr hb; have n0_ := mK (lT HB.out hb); have n1_ := mK (bB BK.out hb); have n2_ := mK hbr; have n3_ := mK (by rw [hg]; exact (below_size HB.out) : w.heap.size ≤ g);  have n4_ := mK (by rw [hg]; exact Nat.ne_of_lt (blk_lt BK.out) : gb115 ≠ g); clear HB BK; have HB := n0_; have BK := n1_; have BR := n2_; have GE2 := n3_; have NE := n4_; have HCAP := mK hcap; clear n0_ n1_ n2_ n3_ n4_ hg hbr hb hcap hcz0 hcz1)); go_loopg [4] l0_1.length (fun kq v4 w' => ∃ (i : Nat) (b : List UInt8), v4 = .int .i64 (i : Int) ∧ i ≤ l0_1.length ∧ l0_1.length - i ≤ kq ∧ Aside0 (spec_l2Seen.l (l0_1.drop i) b = some b1) ∧ Aside0 (b.length = a0_0.size) ∧ Aside0 (Go.Proofs.YtbbbajnnoficbaaBts.BRow w' g 5 b) ∧ Aside0 (w'.heap[gb115]? = some (.cells #[.string a0_0, (.slice A0_1 l0_1.length c0_1)] 30 (0, 0))) ∧ Aside0 (Below w.heap.size w w')); (case atStart => exact ⟨0, a0_0.data.toList, rfl, Nat.zero_le _, by omega, ⟨by simpa using H.out⟩, ⟨by simp⟩, BR, BK, HB⟩)
 case round =>
  clear H BR BK HB; obtain ⟨i, b, rfl, hi, hk, H, BL, BR, BK, HB⟩ := hrel; have hcz0 : wr.cell? ⟨gb115, 0, none⟩ = some (.string a0_0) := (bC BK.out 0).trans rfl; have hcz1 : wr.cell? ⟨gb115, 1, none⟩ = some (.slice A0_1 l0_1.length c0_1) := (bC BK.out 1).trans rfl; by_cases c : i < l0_1.length
  ·have h1 := H.out; (have ex : l0_1.drop i = rd_T67 l0_1 i :: l0_1.drop (i + 1) := by rw [List.drop_eq_getElem_cons c]; simp [rd_T67, List.getD, c]); rw [ex] at h1; unfold spec_l2Seen.l at h1; by_cases c2 : 0 ≤ (rd_T67 l0_1 i).f0 ∧ 64 * (rd_T67 l0_1 i).f0 + 64 ≤ (b.length : Int) ∧ ((rd_T67 l0_1 i).f1.size : Int) ≤ 64
   ·rw [if_pos c2] at h1; obtain ⟨c3, c4, c5⟩ := c2; obtain ⟨ad, ea, hx0, hx1, hx2⟩ := at_T67 HR0_1.out (i : Int) (by omega) (by omega); cases ea; replace hx0 := (HB.out.cell (World.block_lt_of_cell? w _ hx0)).trans hx0; replace hx1 := (HB.out.cell (World.block_lt_of_cell? w _ hx1)).trans hx1; clear hx2; simp only [Int.toNat_natCast] at hx0 hx1; generalize rd_T67 l0_1 (i : Int) = x at *; obtain ⟨xa, xd, xs⟩ := x; simp only at *; obtain ⟨n, rfl⟩ := Int.eq_ofNat_of_zero_le c3; have hl := HS.out; (have hn : 64 * n + 64 ≤ a0_0.size := by have := BL.out; omega); (have hd : xd.size ≤ 64 := by omega); have H2 := mK (show spec_l2Seen.l (l0_1.drop (i + 1)) (Go.Proofs.YtbbbajnnoficbaaBts.lay b (64 * n) xd.data.toList) = some b1 by rw [show (64 * (n : Int)).toNat = 64 * n by omega] at h1; exact h1); have hil := HL.out; (have q1 : (0 : Int) ≤ 64 * (n : Int) := by omega); (have q2 : 64 * (n : Int) ≤ (a0_0.size : Int) := by omega); (have q3 : IntKind.i64.wrap (64 * (n : Int)) = 64 * (n : Int) := by rw [i64_w]; unfold wrap64; omega); (have qt : (64 * (n : Int)).toNat = 64 * n := by omega); (have qc : ¬ cap = 64 * n := by have := HCAP.out; omega); have s1 := mK (show xd.size ≤ a0_0.size - 64 * n by omega); have s2 := mK (show 64 * n + (a0_0.size - 64 * n) ≤ b.length by have := BL.out; omega); have s3 := mK (show 64 * n + xd.data.toList.length ≤ b.length by have := BL.out; have h7 : xd.data.toList.length = xd.size := (by simp); omega); have BR2 := mK BR.out.drew; clear h1 H ex c3 c4 c5; go_wp2; go_region_law (refine Go.Proofs.YtbbbajnnoficbaaBts.step_copy rfl (.tmp 23) (.tmp 29) 50 9 rfl 5 Try.underlying50 (by kernel_rfl) g (64 * n) (a0_0.size - 64 * n) (cap - 64 * n) (by simp [Act.eval, Act.put]) xd (by simp [Act.eval, Act.put]) b BR2.out s1.out s2.out ?_); (all_goals go_wp2; go_roundg (l0_1.length - (i + 1)); (case measure => omega); (case rel => exact ⟨i + 1, _, by first | rfl | (simp; done), by omega, by omega, ⟨H2.out⟩, ⟨by rw [Go.Proofs.YtbbbajnnoficbaaBts.lay_length _ _ _ s3.out]; exact BL.out⟩, ⟨Go.Proofs.YtbbbajnnoficbaaBts.BRow.setCells _ _ _ _ BR2.out s3.out⟩, ⟨by rw [Go.Proofs.YtbbbajnnoficbaaBts.setCells_block NE.out]; exact BK.out⟩, ⟨Go.Proofs.YtbbbajnnoficbaaBts.below_setCells GE2.out _ _ _ (below_drew HB.out)⟩⟩))
   (·rw [if_neg c2] at h1; cases h1)
  ·have h1 := H.out; rw [List.drop_of_length_le (by omega)] at h1; (obtain rfl : b = b1 := by simpa [spec_l2Seen.l] using h1); (have hin : i = l0_1.length := by omega); subst hin; clear c; go_wp2_with ((with_reducible refine gate_dst (N := 32) rfl ?_); refine Go.Proofs.YtbbbajnnoficbaaBts.string_event rfl 50 9 5 (.tmp 31) rfl g _ _ b rfl Try.underlying50 Try.underlying5 Try.underlying9 BR.out BL.out.symm ?_); go_ret; exact ⟨rfl, HB.out⟩


/-! ### spec_Seen: function 31 -/
def spec_Seen.f (k : Nat) (a0_0 : ByteArray) (l0_1 : List (S67)) : Option (ByteArray) := (spec_DeviceOk.f k a0_0 l0_1).bind fun t132 => (if t132 = true then ((spec_l2Seen.f a0_0 l0_1).bind fun t133 => (some t133)) else (some (⟨#[]⟩ : ByteArray)))
theorem spec_Seen.mono : ∀ a0 a1 k, LeO (spec_Seen.f k a0 a1) (spec_Seen.f (k + 1) a0 a1) := by
  intro a0 a1 k
  unfold spec_Seen.f
  repeat' first
      | (with_reducible exact spec_DeviceOk.mono _ _ _)
      | (with_reducible exact LeO.refl _)
      | (with_reducible exact LeO.none _)
      | (with_reducible refine LeO.ite ?_ ?_)
      | (with_reducible refine LeO.bind ?_ (fun _ => ?_))
      | exact spec_DeviceOk.mono _ _ _
      | exact LeO.none _
      | refine LeO.ite ?_ ?_
      | refine LeO.bind ?_ (fun _ => ?_)
set_option maxHeartbeats 8000000 in
set_option maxRecDepth 100000 in
theorem spec_Seen.calls (k : Nat) (a0_0 : ByteArray) (A0_1 : Option Addr) (c0_1 : Nat) (l0_1 : List (S67)) (r : ByteArray) (w : World) (hr0_1 : Kd.C k67 w A0_1 l0_1.length l0_1) (hc0_1 : l0_1.length ≤ c0_1) (h : spec_Seen.f k a0_0 l0_1 = some r) :
    Calls Try.prog 31 #[.agg #[.string a0_0, .slice A0_1 l0_1.length c0_1]] w fun e w' => e = .returned (.string r) ∧ Below w.heap.size w w' := by
 have hu30 := Try.underlying30; have HR0_1 := mK hr0_1; have HC0_1 := mK hc0_1; clear hr0_1 hc0_1; have HB := mK (Below.refl w.heap.size w); have H : ((spec_DeviceOk.f k a0_0 l0_1).bind fun t132 => (if t132 = true then ((spec_l2Seen.f a0_0 l0_1).bind fun t133 => (some t133)) else (some (⟨#[]⟩ : ByteArray)))) = some r := h; clear h; replace H := Option.bind_eq_some_iff.mp H; obtain ⟨t132, A20, H⟩ := H; replace H : (if t132 = true then ((spec_l2Seen.f a0_0 l0_1).bind fun t133 => (some t133)) else (some (⟨#[]⟩ : ByteArray))) = some r := H; have A2 := mK A20; clear A20; by_cases c3 : t132 = true
 ·subst c3; (have H1 : ((spec_l2Seen.f a0_0 l0_1).bind fun t133 => (some t133)) = some r := by rw [if_pos rfl] at H; exact H); clear H; have H := H1; clear H1; replace H := Option.bind_eq_some_iff.mp H; obtain ⟨t133, A40, H⟩ := H; replace H : (some t133) = some r := H; have A4 := mK A40; clear A40; obtain rfl := Option.some.inj H; go_enter Try.func31, Try.ntmps31; go_wp2_with (first | ((with_reducible refine gate_dst (N := 1) rfl ?_); refine box_event ?hg (N := 1) ?hd (cs := #[.string a0_0, .slice A0_1 l0_1.length c0_1]) (t := 30) ?hr ?_; (case hd => rfl); (case hg => rfl); (case hr => first | (go_simp; done) | (go_simp; rfl)); intro gb131 hg w5 hbox hb; have n0_ := mK (lT (by repeat (first | (with_reducible first | exact HB.out | apply lA | apply lN | apply lD) | exact HB.out)) hb); have n1_ := mK (hbox); have n2_ := mK ((by rw [hg]; exact (below_size (by repeat (first | (with_reducible first | exact HB.out | apply lA | apply lN | apply lD) | exact HB.out))) : w.heap.size ≤ gb131)); have n3_ := mK ((by rw [hg]; exact (below_size (by repeat (first | (with_reducible first | exact HB.out | apply lA | apply lN | apply lD) | exact HB.out))) : w.heap.size ≤ gb131)); clear HB; have HB := n0_; have BK131 := n1_; have GW131 := n2_; have GE131 := n3_; clear n0_ n1_ n2_ n3_; clear hb hbox hg; have hcz6_0 : w5.cell? ⟨gb131, 0, none⟩ = some (.string a0_0) := (bC BK131.out 0).trans rfl; have hcz6_1 : w5.cell? ⟨gb131, 1, none⟩ = some (.slice A0_1 l0_1.length c0_1) := (bC BK131.out 1).trans rfl; have hfz6_0 := bF BK131.out 0; have hfz6_1 := bF BK131.out 1) | ((with_reducible refine gate_callee (f := 46) rfl ?_); refine goesL_ (some 4) rfl rfl Try.func46 (by kernel_rfl) rfl #[.agg #[.string a0_0, .slice A0_1 l0_1.length c0_1]] rfl (by (try simp only [List.map_toArray, List.map_cons, List.map_nil]); first | done | rfl | (simp only [List.length_drop, List.length_take]; rfl)) ?_; (with_reducible refine (spec_DeviceOk.calls k a0_0 _ _ l0_1 true _ ?side1 ?side2 A2.out).mono ?_); (case side1 => repeat (first | exact (Kd.C_below HR0_1.out HB.out) | (with_reducible refine Kd.C_alloc ?_ _) | (with_reducible refine Kd.C_drewN ?_ _) | (with_reducible refine Kd.C_drew ?_))); (case side2 => exact HC0_1.out); rintro e w7 ⟨rfl, hb⟩; refine ⟨_, rfl, ?_⟩; have n0_ := mK (bB (g := gb131) (o := .cells #[.string a0_0, .slice A0_1 l0_1.length c0_1] 30 (0, 0)) (by (with_reducible repeat (first | apply bN | apply bD | apply bA)); exact BK131.out) hb); have n1_ := mK (lT (by repeat (first | (with_reducible first | exact HB.out | apply lA | apply lN | apply lD | refine lS ?_ GE131.out) | exact HB.out)) hb); clear BK131; clear HB; have BK131 := n0_; have HB := n1_; clear n0_ n1_; (try clear hb); (try clear hb2); (try clear hk); (try clear hi); have hcz8_0 : w7.cell? ⟨gb131, 0, none⟩ = some (.string a0_0) := (bC BK131.out 0).trans rfl; have hcz8_1 : w7.cell? ⟨gb131, 1, none⟩ = some (.slice A0_1 l0_1.length c0_1) := (bC BK131.out 1).trans rfl; have hfz8_0 := bF BK131.out 0; have hfz8_1 := bF BK131.out 1) | ((with_reducible refine gate_callee (f := 67) rfl ?_); refine goesL_ (some 7) rfl rfl Try.func67 (by kernel_rfl) rfl #[.agg #[.string a0_0, .slice A0_1 l0_1.length c0_1]] rfl (by (try simp only [List.map_toArray, List.map_cons, List.map_nil]); first | done | rfl | (simp only [List.length_drop, List.length_take]; rfl)) ?_; (with_reducible refine (spec_l2Seen.calls a0_0 _ _ l0_1 t133 _ ?side1 ?side2 A4.out).mono ?_); (case side1 => repeat (first | exact (Kd.C_below HR0_1.out HB.out) | (with_reducible refine Kd.C_alloc ?_ _) | (with_reducible refine Kd.C_drewN ?_ _) | (with_reducible refine Kd.C_drew ?_))); (case side2 => exact HC0_1.out); rintro e w9 ⟨rfl, hb⟩; refine ⟨_, rfl, ?_⟩; have n0_ := mK (bB (g := gb131) (o := .cells #[.string a0_0, .slice A0_1 l0_1.length c0_1] 30 (0, 0)) (by (with_reducible repeat (first | apply bN | apply bD | apply bA)); exact BK131.out) hb); have n1_ := mK (lT (by repeat (first | (with_reducible first | exact HB.out | apply lA | apply lN | apply lD | refine lS ?_ GE131.out) | exact HB.out)) hb); clear BK131; clear HB; have BK131 := n0_; have HB := n1_; clear n0_ n1_; (try clear hb); (try clear hb2); (try clear hk); (try clear hi))); go_ret; exact ⟨by first | rfl | (simp [errW_none, errW_some] <;> rfl) | (simp [*, errW_none, errW_some] <;> rfl), by repeat (first | (with_reducible first | exact HB.out | apply lA | apply lN | apply lD | refine lS ?_ GE131.out) | exact HB.out)⟩
 ·replace c3 := Bool.eq_false_iff.mpr c3; subst c3; (have H1 : (some (⟨#[]⟩ : ByteArray)) = some r := by rw [if_neg (show ¬ (false = true) by decide)] at H; exact H); clear H; have H := H1; clear H1; obtain rfl := Option.some.inj H; go_enter Try.func31, Try.ntmps31; go_wp2_with (first | ((with_reducible refine gate_dst (N := 1) rfl ?_); refine box_event ?hg (N := 1) ?hd (cs := #[.string a0_0, .slice A0_1 l0_1.length c0_1]) (t := 30) ?hr ?_; (case hd => rfl); (case hg => rfl); (case hr => first | (go_simp; done) | (go_simp; rfl)); intro gb131 hg w10 hbox hb; have n0_ := mK (lT (by repeat (first | (with_reducible first | exact HB.out | apply lA | apply lN | apply lD) | exact HB.out)) hb); have n1_ := mK (hbox); have n2_ := mK ((by rw [hg]; exact (below_size (by repeat (first | (with_reducible first | exact HB.out | apply lA | apply lN | apply lD) | exact HB.out))) : w.heap.size ≤ gb131)); have n3_ := mK ((by rw [hg]; exact (below_size (by repeat (first | (with_reducible first | exact HB.out | apply lA | apply lN | apply lD) | exact HB.out))) : w.heap.size ≤ gb131)); clear HB; have HB := n0_; have BK131 := n1_; have GW131 := n2_; have GE131 := n3_; clear n0_ n1_ n2_ n3_; clear hb hbox hg; have hcz11_0 : w10.cell? ⟨gb131, 0, none⟩ = some (.string a0_0) := (bC BK131.out 0).trans rfl; have hcz11_1 : w10.cell? ⟨gb131, 1, none⟩ = some (.slice A0_1 l0_1.length c0_1) := (bC BK131.out 1).trans rfl; have hfz11_0 := bF BK131.out 0; have hfz11_1 := bF BK131.out 1) | ((with_reducible refine gate_callee (f := 46) rfl ?_); refine goesL_ (some 4) rfl rfl Try.func46 (by kernel_rfl) rfl #[.agg #[.string a0_0, .slice A0_1 l0_1.length c0_1]] rfl (by (try simp only [List.map_toArray, List.map_cons, List.map_nil]); first | done | rfl | (simp only [List.length_drop, List.length_take]; rfl)) ?_; (with_reducible refine (spec_DeviceOk.calls k a0_0 _ _ l0_1 false _ ?side1 ?side2 A2.out).mono ?_); (case side1 => repeat (first | exact (Kd.C_below HR0_1.out HB.out) | (with_reducible refine Kd.C_alloc ?_ _) | (with_reducible refine Kd.C_drewN ?_ _) | (with_reducible refine Kd.C_drew ?_))); (case side2 => exact HC0_1.out); rintro e w12 ⟨rfl, hb⟩; refine ⟨_, rfl, ?_⟩; have n0_ := mK (bB (g := gb131) (o := .cells #[.string a0_0, .slice A0_1 l0_1.length c0_1] 30 (0, 0)) (by (with_reducible repeat (first | apply bN | apply bD | apply bA)); exact BK131.out) hb); have n1_ := mK (lT (by repeat (first | (with_reducible first | exact HB.out | apply lA | apply lN | apply lD | refine lS ?_ GE131.out) | exact HB.out)) hb); clear BK131; clear HB; have BK131 := n0_; have HB := n1_; clear n0_ n1_; (try clear hb); (try clear hb2); (try clear hk); (try clear hi))); go_ret; exact ⟨by first | rfl | (simp [errW_none, errW_some] <;> rfl) | (simp [*, errW_none, errW_some] <;> rfl), by repeat (first | (with_reducible first | exact HB.out | apply lA | apply lN | apply lD | refine lS ?_ GE131.out) | exact HB.out)⟩

/-! ### impl_Device_find: function 76 -/
set_option maxHeartbeats 4000000 in
set_option maxRecDepth 1000000 in
theorem impl_Device_find.nan (x : Int) (w : World) : Calls Try.prog 112 #[.int .i64 x] w fun e w' => e = .returned (.bool false) ∧ Below w.heap.size w w' := by
  have HB := mK (Below.refl w.heap.size w)
  go_enter Try.func112, Try.ntmps112
  go_wp2
  go_ret
  exact ⟨by first | rfl | (simp; done), by (with_reducible repeat (first | exact HB.out | refine below_drew ?_))⟩
def impl_Device_find.cmp (x y : Int) : Int := if x < y then -1 else if y < x then 1 else 0
set_option maxHeartbeats 4000000 in
set_option maxRecDepth 1000000 in
theorem impl_Device_find.compare (x y : Int) (w : World) : Calls Try.prog 103 #[.int .i64 x, .int .i64 y] w fun e w' => e = .returned (.int .i64 (impl_Device_find.cmp x y)) ∧ Below w.heap.size w w' := by
  have HB := mK (Below.refl w.heap.size w)
  have N1 := mK (fun W => impl_Device_find.nan x W)
  have N2 := mK (fun W => impl_Device_find.nan y W)
  unfold impl_Device_find.cmp
  by_cases c1 : x < y
  · rw [if_pos c1]
    go_enter Try.func103, Try.ntmps103
    go_wp2_with (first | (go_at_call 112; (first | refine (N1.out _).mono ?_ | refine (N2.out _).mono ?_); rintro e w2 ⟨rfl, hb⟩; have n0_ := mK (lT HB.out hb); clear HB; have HB := n0_; clear n0_ hb))
    go_ret
    exact ⟨rfl, HB.out⟩
  · rw [if_neg c1]
    by_cases c2 : y < x
    · rw [if_pos c2]
      go_enter Try.func103, Try.ntmps103
      go_wp2_with (first | (go_at_call 112; (first | refine (N1.out _).mono ?_ | refine (N2.out _).mono ?_); rintro e w2 ⟨rfl, hb⟩; have n0_ := mK (lT HB.out hb); clear HB; have HB := n0_; clear n0_ hb))
      go_ret
      exact ⟨rfl, HB.out⟩
    · rw [if_neg c2]
      go_enter Try.func103, Try.ntmps103
      go_wp2_with (first | (go_at_call 112; (first | refine (N1.out _).mono ?_ | refine (N2.out _).mono ?_); rintro e w2 ⟨rfl, hb⟩; have n0_ := mK (lT HB.out hb); clear HB; have HB := n0_; clear n0_ hb))
      go_ret
      exact ⟨rfl, HB.out⟩
set_option maxHeartbeats 4000000 in
set_option maxRecDepth 1000000 in
theorem impl_Device_find.closure (x : Int) (a b : ByteArray) (y : Int) (w : World) : Calls Try.prog 102 #[.agg #[.int .i64 x, .string a, .string b], .int .i64 y] w fun e w' => e = .returned (.int .i64 (impl_Device_find.cmp x y)) ∧ Below w.heap.size w w' := by
  have hu67 := Try.underlying67
  have HB := mK (Below.refl w.heap.size w)
  have N1 := mK (fun W => impl_Device_find.compare x y W)
  go_enter Try.func102, Try.ntmps102
  go_wp2_with (first | ((with_reducible refine gate_dst (N := 2) rfl ?_); refine box_event ?hg (N := 2) ?hd (cs := #[.int .i64 x, .string a, .string b]) (t := 67) ?hr ?_; (case hd => rfl); (case hg => rfl); (case hr => first | (go_simp; done) | (go_simp; rfl)); intro gd hg w4 hbox hb; have n0_ := mK (lT HB.out hb); clear HB; have HB := n0_; have hcz0 : w4.cell? ⟨gd, 0, none⟩ = some (.int .i64 x) := (bC hbox 0).trans rfl; clear n0_ hb hbox hg) | (go_at_call 103; (refine (N1.out _).mono ?_); rintro e w2 ⟨rfl, hb⟩; have n0_ := mK (lT HB.out hb); clear HB; have HB := n0_; clear n0_ hb))
  go_ret
  exact ⟨rfl, HB.out⟩
def impl_Device_find.idx (l : List S67) (y : Int) : Nat := l.countP (fun x => decide (x.f0 < y))
theorem impl_Device_find.idx_eq (l : List S67) (y : Int) (i : Nat) (hi : i ≤ l.length) (h1 : ∀ t, t < i → (rd_T67 l (t : Int)).f0 < y) (h2 : ∀ t, i ≤ t → t < l.length → y ≤ (rd_T67 l (t : Int)).f0) : impl_Device_find.idx l y = i := by
  unfold impl_Device_find.idx
  have g : ∀ t (ht : t < l.length), rd_T67 l (t : Int) = l[t] := fun t ht => by simp [rd_T67, List.getD, ht]
  rw [← List.take_append_drop i l, List.countP_append]
  have e1 : (l.take i).countP (fun x => decide (x.f0 < y)) = (l.take i).length := by
    rw [List.countP_eq_length]
    intro a ha
    obtain ⟨t, ht, rfl⟩ := List.getElem_of_mem ha
    rw [List.length_take] at ht
    have := h1 t (by omega)
    rw [g t (by omega)] at this
    simpa using this
  have e2 : (l.drop i).countP (fun x => decide (x.f0 < y)) = 0 := by
    rw [List.countP_eq_zero]
    intro a ha
    obtain ⟨t, ht, rfl⟩ := List.getElem_of_mem ha
    rw [List.length_drop] at ht
    have := h2 (i + t) (by omega) (by omega)
    rw [g (i + t) (by omega)] at this
    simp; omega
  rw [e1, e2, List.length_take]; omega
def impl_Device_find.srt (l : List S67) : Prop := l.Pairwise (fun x y => x.f0 < y.f0)
instance (l : List S67) : Decidable (impl_Device_find.srt l) := by unfold impl_Device_find.srt; infer_instance
def impl_Device_find.f (a0_0 : ByteArray) (l0_1 : List S67) (a1 : Int) : Option (Int × Bool) := if impl_Device_find.srt l0_1 then if l0_1.length ≤ 4611686018427387903 then some ((impl_Device_find.idx l0_1 a1 : Nat), decide (impl_Device_find.idx l0_1 a1 < l0_1.length) && decide ((rd_T67 l0_1 (impl_Device_find.idx l0_1 a1 : Nat)).f0 = a1)) else none else none
set_option maxHeartbeats 4000000 in
set_option maxRecDepth 1000000 in
theorem impl_Device_find.search (A : Option Addr) (c : Nat) (l : List S67) (y : Int) (w : World) (hr : Kd.C k67 w A l.length l) (hc : l.length ≤ c) (hs : impl_Device_find.srt l) (hsz : l.length ≤ 4611686018427387903) :
    Calls Try.prog 101 #[.slice A l.length c, .int .i64 y, .func (.func 102) #[] #[]] w fun e w' => e = .returned (.tuple #[.int .i64 (impl_Device_find.idx l y : Nat), .bool (decide (impl_Device_find.idx l y < l.length) && decide ((rd_T67 l (impl_Device_find.idx l y : Nat)).f0 = y))]) ∧ Below w.heap.size w w' := by
  have hu67 := Try.underlying67
  have eg : ∀ args w, (callFunc 102 args).run Try.prog w = .ok (.enter 102 args) w := enters_of Try.func102 (by kernel_rfl) rfl
  have HB := mK (Below.refl w.heap.size w)
  have HR := mK hr
  have M : Aside0 (∀ a b : Nat, a ≤ b → b < l.length → (rd_T67 l (b : Int)).f0 < y → (rd_T67 l (a : Int)).f0 < y) := ⟨by
    intro a b hab hb h
    have g : ∀ t (ht : t < l.length), rd_T67 l (t : Int) = l[t] := fun t ht => by simp [rd_T67, List.getD, ht]
    rw [g b hb] at h
    rw [g a (by omega)]
    rcases Nat.lt_or_ge a b with h1 | h1
    · have := (List.pairwise_iff_getElem.1 hs) a b (by omega) hb h1
      omega
    · obtain rfl : a = b := by omega
      exact h⟩
  clear hr hs
  generalize hidx : impl_Device_find.idx l y = cnt
  have CN := mK hidx
  clear hidx
  go_enter Try.func101, Try.ntmps101
  go_wp2
  go_loopg [9, 10] l.length (fun kx s9 s10 wr => ∃ lo hi : Nat, s9 = .int .i64 lo ∧ s10 = .int .i64 hi ∧ lo ≤ hi ∧ hi ≤ l.length ∧ hi - lo ≤ kx ∧ Aside0 (Below w.heap.size w wr) ∧
    Aside0 ((∀ t : Nat, t < lo → (rd_T67 l (t : Int)).f0 < y) ∧ (∀ t : Nat, hi ≤ t → t < l.length → y ≤ (rd_T67 l (t : Int)).f0)))
  case atStart => exact ⟨0, l.length, rfl, rfl, Nat.zero_le _, Nat.le_refl _, by omega, HB, ⟨fun t ht => absurd ht (Nat.not_lt_zero _), fun t h1 h2 => by omega⟩⟩
  case round =>
    clear HB
    obtain ⟨lo, hi, rfl, rfl, hlh, hin, hg, HB, I⟩ := hrel
    by_cases hlt : lo < hi
    · obtain ⟨ad, ea, hx0, hx1, hx2⟩ := at_T67 HR.out (((lo + hi) / 2 : Nat) : Int) (by omega) (by omega)
      cases ea
      replace hx0 := (HB.out.cell (World.block_lt_of_cell? w _ hx0)).trans hx0
      replace hx1 := (HB.out.cell (World.block_lt_of_cell? w _ hx1)).trans hx1
      replace hx2 := (HB.out.cell (World.block_lt_of_cell? w _ hx2)).trans hx2
      simp only [Int.toNat_natCast] at hx0 hx1 hx2
      generalize hy : rd_T67 l (((lo + hi) / 2 : Nat) : Int) = x at hx0 hx1 hx2
      have Y := mK hy
      clear hy
      have N1 := mK (fun W => impl_Device_find.closure x.f0 x.f1 x.f2 y W)
      generalize hcm : impl_Device_find.cmp x.f0 y = cm at N1
      have CM := mK hcm
      clear hcm
      by_cases hyx : cm < 0
      · have hxy : x.f0 < y := by have := CM.out; unfold impl_Device_find.cmp at this; split at this <;> first | assumption | (split at this <;> omega)
        go_wp2_with (go_at_fn 102; (refine (N1.out _).mono ?_); rintro e w2 ⟨rfl, hb⟩; have n0_ := mK (lT HB.out hb); clear HB; have HB := n0_; clear n0_ hb)
        go_roundg (hi - ((lo + hi) / 2 + 1))
        case measure => omega
        case rel => exact ⟨(lo + hi) / 2 + 1, hi, by rw [show ((lo : Int) + (hi : Int)) / 2 + 1 = (((lo + hi) / 2 + 1 : Nat) : Int) by omega], rfl, by omega, hin, Nat.le_refl _, HB, ⟨⟨fun t ht => M.out t ((lo + hi) / 2) (by omega) (by omega) (by rw [Y.out]; exact hxy), I.out.2⟩⟩⟩
      · have hxy : y ≤ x.f0 := by have := CM.out; unfold impl_Device_find.cmp at this; split at this <;> omega
        go_wp2_with (go_at_fn 102; (refine (N1.out _).mono ?_); rintro e w2 ⟨rfl, hb⟩; have n0_ := mK (lT HB.out hb); clear HB; have HB := n0_; clear n0_ hb)
        go_roundg ((lo + hi) / 2 - lo)
        case measure => omega
        case rel => exact ⟨lo, (lo + hi) / 2, rfl, by rw [show ((lo : Int) + (hi : Int)) / 2 = (((lo + hi) / 2 : Nat) : Int) by omega], by omega, by omega, Nat.le_refl _, HB, ⟨⟨I.out.1, fun t ht htn => Int.not_lt.1 fun h => by have := M.out ((lo + hi) / 2) t ht htn h; rw [Y.out] at this; omega⟩⟩⟩
    · obtain rfl : hi = lo := by omega
      have ecnt : cnt = hi := by
        rw [← CN.out]
        exact impl_Device_find.idx_eq l y hi hin (fun t ht => I.out.1 t ht) (fun t h3 h4 => I.out.2 t h3 h4)
      subst ecnt
      by_cases hn : cnt < l.length
      · obtain ⟨ad, ea, hx0, hx1, hx2⟩ := at_T67 HR.out (cnt : Int) (by omega) (by omega)
        cases ea
        replace hx0 := (HB.out.cell (World.block_lt_of_cell? w _ hx0)).trans hx0
        replace hx1 := (HB.out.cell (World.block_lt_of_cell? w _ hx1)).trans hx1
        replace hx2 := (HB.out.cell (World.block_lt_of_cell? w _ hx2)).trans hx2
        simp only [Int.toNat_natCast] at hx0 hx1 hx2
        generalize hy : rd_T67 l (cnt : Int) = x at hx0 hx1 hx2 ⊢
        have N1 := mK (fun W => impl_Device_find.closure x.f0 x.f1 x.f2 y W)
        generalize hcm : impl_Device_find.cmp x.f0 y = cm at N1
        have CM := mK hcm
        have Y := mK hy
        clear hcm hy
        by_cases hyx : cm = 0
        · have hxy := mK (show x.f0 = y by have := CM.out; unfold impl_Device_find.cmp at this; split at this <;> first | omega | (split at this <;> omega))
          go_wp2_with (go_at_fn 102; (refine (N1.out _).mono ?_); rintro e w2 ⟨rfl, hb⟩; have n0_ := mK (lT HB.out hb); clear HB; have HB := n0_; clear n0_ hb)
          go_ret2
          exact ⟨by try rw [Y.out]
                    simp [hn, hyx, hxy.out], HB.out⟩
        · have hxy := mK (show ¬ x.f0 = y by intro e; apply hyx; rw [← CM.out, e]; unfold impl_Device_find.cmp; simp)
          go_wp2_with (go_at_fn 102; (refine (N1.out _).mono ?_); rintro e w2 ⟨rfl, hb⟩; have n0_ := mK (lT HB.out hb); clear HB; have HB := n0_; clear n0_ hb)
          go_ret2
          exact ⟨by try rw [Y.out]
                    simp [hn, hyx, hxy.out], HB.out⟩
      · go_wp2
        go_ret2
        exact ⟨by simp [hn], HB.out⟩
set_option maxHeartbeats 4000000 in
set_option maxRecDepth 1000000 in
theorem impl_Device_find.calls (a0_0 : ByteArray) (A0_1 : Option Addr) (c0_1 : Nat) (l0_1 : List (S67)) (a1 : Int) (r1 : Int) (r2 : Bool) (w : World) (hr0_1 : Kd.C k67 w A0_1 l0_1.length l0_1) (hc0_1 : l0_1.length ≤ c0_1) (h : impl_Device_find.f a0_0 l0_1 a1 = some (r1, r2)) :
    Calls Try.prog 76 #[.agg #[.string a0_0, .slice A0_1 l0_1.length c0_1], .int .i64 a1] w fun e w' => e = .returned (.tuple #[.int .i64 r1, .bool r2]) ∧ Below w.heap.size w w' := by
 have hu30 := Try.underlying30; unfold impl_Device_find.f at h; by_cases c1 : impl_Device_find.srt l0_1
 ·rw [if_pos c1] at h; by_cases c2 : l0_1.length ≤ 4611686018427387903
  ·rw [if_pos c2] at h; obtain ⟨rfl, rfl⟩ := Prod.mk.inj (Option.some.inj h); clear h; have HB := mK (Below.refl w.heap.size w); have N1 := mK (fun W (hW : Kd.C k67 W A0_1 l0_1.length l0_1) => impl_Device_find.search A0_1 c0_1 l0_1 a1 W hW hc0_1 c1 c2); have HR := mK hr0_1; clear hr0_1; go_enter Try.func76, Try.ntmps76; go_wp2_with (first | ((with_reducible refine gate_dst (N := 2) rfl ?_); refine box_event ?hg (N := 2) ?hd (cs := #[.string a0_0, .slice A0_1 l0_1.length c0_1]) (t := 30) ?hr ?_; (case hd => rfl); (case hg => rfl); (case hr => first | (go_simp; done) | (go_simp; rfl)); intro gd hg w4 hbox hb; have n0_ := mK (lT HB.out hb); clear HB; have HB := n0_; have hcz1 : w4.cell? ⟨gd, 1, none⟩ = some (.slice A0_1 l0_1.length c0_1) := (bC hbox 1).trans rfl; clear n0_ hb hbox hg) | (go_at_call 101; (refine (N1.out _ (Kd.C_below HR.out HB.out)).mono ?_); rintro e w2 ⟨rfl, hb⟩; have n0_ := mK (lT HB.out hb); clear HB; have HB := n0_; clear n0_ hb)); go_ret2; exact ⟨rfl, HB.out⟩
  (·rw [if_neg c2] at h; cases h)
 (·rw [if_neg c1] at h; cases h)


/-! ### impl_Device_seenLine: function 97 -/
def impl_Device_seenLine.f (a0_0 : ByteArray) (l0_1 : List (S67)) (a1 : Int) : Option (ByteArray) := (impl_Device_find.f a0_0 l0_1 a1).bind fun bt135 => (if bt135.2 = true then (if 0 ≤ bt135.1 then (if bt135.1 < (l0_1.length : Int) then (some ((rd_T67 l0_1 bt135.1).f1)) else (none)) else (none)) else ((impl_Device_safeLine.f a0_0 l0_1 a1).bind fun t138 => (some t138)))
set_option maxHeartbeats 8000000 in
set_option maxRecDepth 100000 in
theorem impl_Device_seenLine.calls (a0_0 : ByteArray) (A0_1 : Option Addr) (c0_1 : Nat) (l0_1 : List (S67)) (a1 : Int) (r : ByteArray) (w : World) (hr0_1 : Kd.C k67 w A0_1 l0_1.length l0_1) (hc0_1 : l0_1.length ≤ c0_1) (h : impl_Device_seenLine.f a0_0 l0_1 a1 = some r) :
    Calls Try.prog 97 #[.agg #[.string a0_0, .slice A0_1 l0_1.length c0_1], .int .i64 a1] w fun e w' => e = .returned (.string r) ∧ Below w.heap.size w w' := by
 have hu30 := Try.underlying30; have HR0_1 := mK hr0_1; have HC0_1 := mK hc0_1; clear hr0_1 hc0_1; have HB := mK (Below.refl w.heap.size w); have H : ((impl_Device_find.f a0_0 l0_1 a1).bind fun bt135 => (if bt135.2 = true then (if 0 ≤ bt135.1 then (if bt135.1 < (l0_1.length : Int) then (some ((rd_T67 l0_1 bt135.1).f1)) else (none)) else (none)) else ((impl_Device_safeLine.f a0_0 l0_1 a1).bind fun t138 => (some t138)))) = some r := h; clear h; replace H := Option.bind_eq_some_iff.mp H; obtain ⟨⟨t135, t136⟩, A30, H⟩ := H; replace H : (if t136 = true then (if 0 ≤ t135 then (if t135 < (l0_1.length : Int) then (some ((rd_T67 l0_1 t135).f1)) else (none)) else (none)) else ((impl_Device_safeLine.f a0_0 l0_1 a1).bind fun t138 => (some t138))) = some r := H; have A3 := mK A30; clear A30; by_cases c4 : t136 = true
 ·subst c4; (have H1 : (if 0 ≤ t135 then (if t135 < (l0_1.length : Int) then (some ((rd_T67 l0_1 t135).f1)) else (none)) else (none)) = some r := by rw [if_pos rfl] at H; exact H); clear H; have H := H1; clear H1; by_cases c5 : 0 ≤ t135
  ·rw [if_pos c5] at H; have c5b0 : decide (0 ≤ t135) = true := decide_eq_true c5; clear c5; by_cases c6 : t135 < (l0_1.length : Int)
   ·rw [if_pos c6] at H; have c6b0 : decide (t135 < (l0_1.length : Int)) = true := decide_eq_true c6; clear c6; obtain rfl := Option.some.inj H; go_enter Try.func97, Try.ntmps97; go_wp2_with (first | ((with_reducible refine gate_dst (N := 2) rfl ?_); refine box_event ?hg (N := 2) ?hd (cs := #[.string a0_0, .slice A0_1 l0_1.length c0_1]) (t := 30) ?hr ?_; (case hd => rfl); (case hg => rfl); (case hr => first | (go_simp; done) | (go_simp; rfl)); intro gb134 hg w7 hbox hb; have n0_ := mK (lT (by repeat (first | (with_reducible first | exact HB.out | apply lA | apply lN | apply lD) | exact HB.out)) hb); have n1_ := mK (hbox); have n2_ := mK ((by rw [hg]; exact (below_size (by repeat (first | (with_reducible first | exact HB.out | apply lA | apply lN | apply lD) | exact HB.out))) : w.heap.size ≤ gb134)); have n3_ := mK ((by rw [hg]; exact (below_size (by repeat (first | (with_reducible first | exact HB.out | apply lA | apply lN | apply lD) | exact HB.out))) : w.heap.size ≤ gb134)); clear HB; have HB := n0_; have BK134 := n1_; have GW134 := n2_; have GE134 := n3_; clear n0_ n1_ n2_ n3_; clear hb hbox hg; have hcz8_0 : w7.cell? ⟨gb134, 0, none⟩ = some (.string a0_0) := (bC BK134.out 0).trans rfl; have hcz8_1 : w7.cell? ⟨gb134, 1, none⟩ = some (.slice A0_1 l0_1.length c0_1) := (bC BK134.out 1).trans rfl; have hfz8_0 := bF BK134.out 0; have hfz8_1 := bF BK134.out 1) | ((with_reducible refine gate_callee (f := 76) rfl ?_); refine goesL_ (some 10) rfl rfl Try.func76 (by kernel_rfl) rfl #[.agg #[.string a0_0, .slice A0_1 l0_1.length c0_1], .int .i64 a1] rfl (by (try simp only [List.map_toArray, List.map_cons, List.map_nil]); first | done | rfl | (simp only [List.length_drop, List.length_take]; rfl)) ?_; (with_reducible refine (impl_Device_find.calls a0_0 _ _ l0_1 a1 t135 true _ ?side1 ?side2 A3.out).mono ?_); (case side1 => repeat (first | exact (Kd.C_below HR0_1.out HB.out) | (with_reducible refine Kd.C_alloc ?_ _) | (with_reducible refine Kd.C_drewN ?_ _) | (with_reducible refine Kd.C_drew ?_))); (case side2 => exact HC0_1.out); rintro e w9 ⟨rfl, hb⟩; refine ⟨_, rfl, ?_⟩; have n0_ := mK (bB (g := gb134) (o := .cells #[.string a0_0, .slice A0_1 l0_1.length c0_1] 30 (0, 0)) (by (with_reducible repeat (first | apply bN | apply bD | apply bA)); exact BK134.out) hb); have n1_ := mK (lT (by repeat (first | (with_reducible first | exact HB.out | apply lA | apply lN | apply lD | refine lS ?_ GE134.out) | exact HB.out)) hb); clear BK134; clear HB; have BK134 := n0_; have HB := n1_; clear n0_ n1_; (try clear hb); (try clear hb2); (try clear hk); (try clear hi); have hcz10_0 : w9.cell? ⟨gb134, 0, none⟩ = some (.string a0_0) := (bC BK134.out 0).trans rfl; have hcz10_1 : w9.cell? ⟨gb134, 1, none⟩ = some (.slice A0_1 l0_1.length c0_1) := (bC BK134.out 1).trans rfl; have hfz10_0 := bF BK134.out 0; have hfz10_1 := bF BK134.out 1; have p137 : 0 ≤ (t135 : Int) := of_decide_eq_true (by first | (with_reducible assumption) | assumption); have q137 : t135 < (l0_1.length : Int) := of_decide_eq_true (by first | (with_reducible assumption) | assumption); obtain ⟨ad137, e137, hx137_0, hx137_1, hx137_2⟩ := at_T67 HR0_1.out t135 p137 q137; cases e137; replace hx137_0 := (HB.out.cell (World.block_lt_of_cell? w _ hx137_0)).trans hx137_0; replace hx137_1 := (HB.out.cell (World.block_lt_of_cell? w _ hx137_1)).trans hx137_1; replace hx137_2 := (HB.out.cell (World.block_lt_of_cell? w _ hx137_2)).trans hx137_2; replace p137 := eq_true p137; replace q137 := eq_true q137)); go_ret; exact ⟨by first | rfl | (simp [errW_none, errW_some] <;> rfl) | (simp [*, errW_none, errW_some] <;> rfl), by repeat (first | (with_reducible first | exact HB.out | apply lA | apply lN | apply lD | refine lS ?_ GE134.out) | exact HB.out)⟩
   (·rw [if_neg c6] at H; exact absurd H (by simp))
  (·rw [if_neg c5] at H; exact absurd H (by simp))
 ·replace c4 := Bool.eq_false_iff.mpr c4; subst c4; (have H1 : ((impl_Device_safeLine.f a0_0 l0_1 a1).bind fun t138 => (some t138)) = some r := by rw [if_neg (show ¬ (false = true) by decide)] at H; exact H); clear H; have H := H1; clear H1; replace H := Option.bind_eq_some_iff.mp H; obtain ⟨t138, A110, H⟩ := H; replace H : (some t138) = some r := H; have A11 := mK A110; clear A110; obtain rfl := Option.some.inj H; go_enter Try.func97, Try.ntmps97; go_wp2_with (first | ((with_reducible refine gate_dst (N := 2) rfl ?_); refine box_event ?hg (N := 2) ?hd (cs := #[.string a0_0, .slice A0_1 l0_1.length c0_1]) (t := 30) ?hr ?_; (case hd => rfl); (case hg => rfl); (case hr => first | (go_simp; done) | (go_simp; rfl)); intro gb134 hg w12 hbox hb; have n0_ := mK (lT (by repeat (first | (with_reducible first | exact HB.out | apply lA | apply lN | apply lD) | exact HB.out)) hb); have n1_ := mK (hbox); have n2_ := mK ((by rw [hg]; exact (below_size (by repeat (first | (with_reducible first | exact HB.out | apply lA | apply lN | apply lD) | exact HB.out))) : w.heap.size ≤ gb134)); have n3_ := mK ((by rw [hg]; exact (below_size (by repeat (first | (with_reducible first | exact HB.out | apply lA | apply lN | apply lD) | exact HB.out))) : w.heap.size ≤ gb134)); clear HB; have HB := n0_; have BK134 := n1_; have GW134 := n2_; have GE134 := n3_; clear n0_ n1_ n2_ n3_; clear hb hbox hg; have hcz13_0 : w12.cell? ⟨gb134, 0, none⟩ = some (.string a0_0) := (bC BK134.out 0).trans rfl; have hcz13_1 : w12.cell? ⟨gb134, 1, none⟩ = some (.slice A0_1 l0_1.length c0_1) := (bC BK134.out 1).trans rfl; have hfz13_0 := bF BK134.out 0; have hfz13_1 := bF BK134.out 1) | ((with_reducible refine gate_callee (f := 76) rfl ?_); refine goesL_ (some 10) rfl rfl Try.func76 (by kernel_rfl) rfl #[.agg #[.string a0_0, .slice A0_1 l0_1.length c0_1], .int .i64 a1] rfl (by (try simp only [List.map_toArray, List.map_cons, List.map_nil]); first | done | rfl | (simp only [List.length_drop, List.length_take]; rfl)) ?_; (with_reducible refine (impl_Device_find.calls a0_0 _ _ l0_1 a1 t135 false _ ?side1 ?side2 A3.out).mono ?_); (case side1 => repeat (first | exact (Kd.C_below HR0_1.out HB.out) | (with_reducible refine Kd.C_alloc ?_ _) | (with_reducible refine Kd.C_drewN ?_ _) | (with_reducible refine Kd.C_drew ?_))); (case side2 => exact HC0_1.out); rintro e w14 ⟨rfl, hb⟩; refine ⟨_, rfl, ?_⟩; have n0_ := mK (bB (g := gb134) (o := .cells #[.string a0_0, .slice A0_1 l0_1.length c0_1] 30 (0, 0)) (by (with_reducible repeat (first | apply bN | apply bD | apply bA)); exact BK134.out) hb); have n1_ := mK (lT (by repeat (first | (with_reducible first | exact HB.out | apply lA | apply lN | apply lD | refine lS ?_ GE134.out) | exact HB.out)) hb); clear BK134; clear HB; have BK134 := n0_; have HB := n1_; clear n0_ n1_; (try clear hb); (try clear hb2); (try clear hk); (try clear hi); have hcz15_0 : w14.cell? ⟨gb134, 0, none⟩ = some (.string a0_0) := (bC BK134.out 0).trans rfl; have hcz15_1 : w14.cell? ⟨gb134, 1, none⟩ = some (.slice A0_1 l0_1.length c0_1) := (bC BK134.out 1).trans rfl; have hfz15_0 := bF BK134.out 0; have hfz15_1 := bF BK134.out 1) | ((with_reducible refine gate_callee (f := 58) rfl ?_); refine goesL_ (some 22) rfl rfl Try.func58 (by kernel_rfl) rfl #[.agg #[.string a0_0, .slice A0_1 l0_1.length c0_1], .int .i64 a1] rfl (by (try simp only [List.map_toArray, List.map_cons, List.map_nil]); first | done | rfl | (simp only [List.length_drop, List.length_take]; rfl)) ?_; (with_reducible refine (impl_Device_safeLine.calls a0_0 _ _ l0_1 a1 t138 _ ?side1 ?side2 A11.out).mono ?_); (case side1 => repeat (first | exact (Kd.C_below HR0_1.out HB.out) | (with_reducible refine Kd.C_alloc ?_ _) | (with_reducible refine Kd.C_drewN ?_ _) | (with_reducible refine Kd.C_drew ?_))); (case side2 => exact HC0_1.out); rintro e w16 ⟨rfl, hb⟩; refine ⟨_, rfl, ?_⟩; have n0_ := mK (bB (g := gb134) (o := .cells #[.string a0_0, .slice A0_1 l0_1.length c0_1] 30 (0, 0)) (by (with_reducible repeat (first | apply bN | apply bD | apply bA)); exact BK134.out) hb); have n1_ := mK (lT (by repeat (first | (with_reducible first | exact HB.out | apply lA | apply lN | apply lD | refine lS ?_ GE134.out) | exact HB.out)) hb); clear BK134; clear HB; have BK134 := n0_; have HB := n1_; clear n0_ n1_; (try clear hb); (try clear hb2); (try clear hk); (try clear hi))); go_ret; exact ⟨by first | rfl | (simp [errW_none, errW_some] <;> rfl) | (simp [*, errW_none, errW_some] <;> rfl), by repeat (first | (with_reducible first | exact HB.out | apply lA | apply lN | apply lD | refine lS ?_ GE134.out) | exact HB.out)⟩

/-! ### impl_Device_seen: function 68 -/
theorem impl_Device_seen.keep {T e b : Nat} {bs : List Value} {w w1 : World} (h : Lib.IsBuilder T e b b bs w) (hb : Below w.heap.size w w1) : Lib.IsBuilder T e b b bs w1 := by
  have k : ∀ p, Lib.BuilderAt T e b b p bs w → Lib.BuilderAt T e b b p bs w1 := by
    intro p h
    obtain ⟨hB, v, hbk, hown, hne⟩ := h
    have hlt : b < w.heap.size := (Array.getElem?_eq_some_iff.1 hbk).1
    refine ⟨hB, v, (hb.block b hlt).trans hbk, ⟨hown.1, ?_⟩, hne⟩
    rcases hown.2 with hn | ⟨g, cap, cur, hv, hg, hgg, rest⟩
    · exact .inl hn
    · exact .inr ⟨g, cap, cur, hv, hg, (hb.block g (Array.getElem?_eq_some_iff.1 hgg).1).trans hgg, rest⟩
  rcases h with h | h
  · exact .inl (k _ h)
  · exact .inr (k _ h)
theorem impl_Device_seen.step2 {N B : Nat} {w0 w w1 : World} (h : Below N w0 w) (hb : Below B w w1) (hle : N ≤ B) : Below N w0 w1 :=
  h.trans (hb.mono hle)
set_option maxHeartbeats 1000000 in
set_option maxRecDepth 100000 in
theorem impl_Device_seen.used (b : Nat) (w : World) (h0 : w.cell? ⟨b, 0, none⟩ = some (.pointer (some ⟨b, 0, none⟩))) :
    Calls Try.prog 111 #[.pointer (some ⟨b, 0, none⟩)] w fun e w' => e = .returned (.tuple #[]) ∧ w' = w := by
  have hj0 : (Try.prog.info? 99).map (·.size) = some 2 := by kernel_rfl
  obtain ⟨j, hj, _⟩ := Option.map_eq_some_iff.1 hj0
  go_enter Try.func111, Try.ntmps111
  go_wp2
  rw [Lib.run_neq_ptr_same w _ Try.underlying97 hj]
  go_wp2
  go_end0
  exact ⟨rfl, rfl⟩
set_option maxHeartbeats 1000000 in
set_option maxRecDepth 100000 in
theorem impl_Device_seen.fresh (b : Nat) (w : World) (h0 : w.cell? ⟨b, 0, none⟩ = some (.pointer none)) (hsh : w.shape? b = some (99, 2)) (hfz : w.frozen? ⟨b, 0, none⟩ = false) :
    Calls Try.prog 111 #[.pointer (some ⟨b, 0, none⟩)] w fun e w' => e = .returned (.tuple #[]) ∧ w' = w.setCell ⟨b, 0, none⟩ (.pointer (some ⟨b, 0, none⟩)) := by
  have hj0 : (Try.prog.info? 99).map (·.size) = some 2 := by kernel_rfl
  have hlies : liesAt Try.prog Try.prog.depth 99 (2 / Try.prog.cellsOf 99) 0 99 1 = true := by kernel_rfl
  obtain ⟨j, hj, hjs⟩ := Option.map_eq_some_iff.1 hj0
  go_enter Try.func111, Try.ntmps111
  go_wp2
  rw [Lib.run_to_unsafe w ⟨b, 0, none⟩ Try.underlying97 Try.underlying125 hj (by rw [hjs]; decide) hsh (Nat.zero_lt_succ 1)]
  simp only [Result.andThen]
  rw [Oper.upon_value]
  go_wp2
  rw [run_callFunc_extern Try.func120 (by kernel_rfl) (by kernel_rfl) (by kernel_rfl) (e := Extern.AbiNoEscape.same) (by kernel_rfl)]
  rw [Lib.run_noEscape]
  simp only [Result.andThen]
  rw [Oper.upon_value]
  go_wp2
  rw [Lib.run_from_unsafe w ⟨b, 0, none⟩ Try.underlying125 Try.underlying97 hj hsh hlies]
  simp only [Result.andThen]
  rw [Oper.upon_value]
  go_wp2
  go_end0
  exact ⟨rfl, rfl⟩
theorem impl_Device_seen.check (B b : Nat) (bs : List Value) (w : World) (h : Lib.IsBuilder 99 5 B b bs w) :
    Calls Try.prog 111 #[.pointer (some ⟨b, 0, none⟩)] w fun e w' => e = .returned (.tuple #[]) ∧ (Lib.BuilderAt 99 5 B b (.pointer (some ⟨b, 0, none⟩)) bs w' ∧ Below B w w') := by
  rcases h with h | h
  · refine (impl_Device_seen.fresh b w h.cell0 h.shape h.frozen0).mono ?_
    rintro e w' ⟨rfl, rfl⟩
    exact ⟨rfl, h.used _, (Below.refl B w).setCell (p := ⟨b, 0, none⟩) h.1 _⟩
  · refine (impl_Device_seen.used b w h.cell0).mono ?_
    rintro e w' ⟨rfl, rfl⟩
    exact ⟨rfl, h, Below.refl B _⟩
set_option maxHeartbeats 2000000 in
set_option maxRecDepth 100000 in
theorem impl_Device_seen.write (B b : Nat) (bs : List Value) (s : ByteArray) (w : World) (h : Lib.IsBuilder 99 5 B b bs w) (hlen : bs.length + s.size ≤ 140737488355328) (hBw : B ≤ w.heap.size) :
    Calls Try.prog 96 #[.pointer (some ⟨b, 0, none⟩), .string s] w fun e w' => e = .returned (.tuple #[.int .i64 s.size, .nilIface]) ∧ (Lib.BuilderAt 99 5 B b (.pointer (some ⟨b, 0, none⟩)) (bs ++ Lib.strCells s) w' ∧ Below B w w') := by
  have hinfo : (Try.prog.info? 5).map (fun i => (i.zero, i.size, i.bytes)) = some (some (.int .u8 0), 1, 1) := by kernel_rfl
  obtain ⟨i0, hi, hz0, hz1, hz2⟩ := info_parts hinfo
  have hu99 := Try.underlying99
  go_enter Try.func96, Try.ntmps96
  go_wp2_with (go_at_call 111; refine (impl_Device_seen.check B b bs _ h).mono ?_)
  rintro e w1 ⟨rfl, h1, hb1⟩
  obtain ⟨hB, v, hbk, hown, hne⟩ := h1
  have c0 : w1.cell? ⟨b, 0, none⟩ = some (.pointer (some ⟨b, 0, none⟩)) := by rw [Lib.cell_of_heap hbk]; rfl
  have c1 : w1.cell? ⟨b, 1, none⟩ = some v := by rw [Lib.cell_of_heap hbk]; rfl
  go_wp2_with (at_builtin; refine Lib.wpList_append_own_string _ rfl _ _ 50 9 rfl B 5 i0 Try.underlying50 Try.underlying9 hi hz0 hz1 hz2 _ _ _ rfl hown s rfl ?c3 ?c4 ?c5 ?_)
  case c3 => unfold maxLen; omega
  case c4 => omega
  case c5 => have := hb1.size; omega
  intro v' w2 hown' hgrow _
  have hlt : b < w1.heap.size := by
    rcases Nat.lt_or_ge b w1.heap.size with h' | h'
    · exact h'
    · simp [Array.getElem?_eq_none h'] at hbk
  have hb2 : w2.heap[b]? = some (.cells #[.pointer (some ⟨b, 0, none⟩), v] 99 (0, 0)) := by
    rw [hgrow.block b hlt (fun e => hne e.symm)]
    exact hbk
  have d0 : w2.cell? ⟨b, 0, none⟩ = some (.pointer (some ⟨b, 0, none⟩)) := by rw [Lib.cell_of_heap hb2]; rfl
  have d1 : w2.cell? ⟨b, 1, none⟩ = some v := by rw [Lib.cell_of_heap hb2]; rfl
  have f1 : w2.frozen? ⟨b, 1, none⟩ = false := Lib.frozen_of_heap hb2 1
  obtain ⟨ao, n', cap, rfl⟩ : ∃ ao n' cap, v' = .slice ao n' cap := by
    rcases hown'.2 with ⟨hv, _⟩ | ⟨g, cap, cur, hv, _⟩
    · exact ⟨_, _, _, hv⟩
    · exact ⟨_, _, _, hv⟩
  go_wp2
  go_ret2
  refine ⟨rfl, ?_, ?_⟩
  · exact Lib.BuilderAt.put (T := 99) (e := 5) hB hb2 (bs' := bs ++ Lib.strCells s) (by simpa [Lib.strCells_length] using hown') (by decide)
  · exact (hb1.grown hgrow (by have := hb1.size; omega) (fun k hk => (hown.lt k hk).1)).setCell (p := ⟨b, 1, none⟩) hB _
set_option maxHeartbeats 1000000 in
set_option maxRecDepth 100000 in
theorem impl_Device_seen.str (B b : Nat) (l : List UInt8) (w : World) (h : Lib.IsBuilder 99 5 B b (Lib.byteCells l) w) (h0 : l ≠ []) :
    Calls Try.prog 98 #[.pointer (some ⟨b, 0, none⟩)] w fun e w' => e = .returned (.string ⟨l.toArray⟩) ∧ Below B w w' := by
  have hcb : Try.prog.cellsOf 5 = 1 := by kernel_rfl
  have mixed : Try.prog.follows .mixedOrders = true := by kernel_rfl
  obtain ⟨p, hB, v, hbk, hown, hne⟩ : ∃ p, Lib.BuilderAt 99 5 B b p (Lib.byteCells l) w := by
    rcases h with h | h
    · exact ⟨_, h⟩
    · exact ⟨_, h⟩
  have hl0 : l.length ≠ 0 := by simpa using h0
  rw [Lib.byteCells_length] at hown
  obtain ⟨g, cap, cur, rfl, hbg, hg, hnc, hcm, hcs, htake⟩ : ∃ g cap cur, v = .slice (some ⟨g, 0, none⟩) l.length cap ∧ B ≤ g ∧ w.heap[g]? = some (.cells cur 5 (0, 0)) ∧ l.length ≤ cap ∧ cap ≤ maxLen ∧ cur.size = cap * 1 ∧ cur.toList.take (l.length * 1) = Lib.byteCells l := by
    rcases hown.2 with ⟨_, hz⟩ | ⟨g, cap, cur, hv, r⟩
    · exact absurd hz hl0
    · exact ⟨g, cap, cur, hv, r⟩
  have c1 : w.drew.cell? ⟨b, 1, none⟩ = some (.slice (some ⟨g, 0, none⟩) l.length cap) := by
    have : w.drew.heap[b]? = some (.cells #[p, .slice (some ⟨g, 0, none⟩) l.length cap] 99 (0, 0)) := hbk
    rw [Lib.cell_of_heap this]; rfl
  have hSD : (Builtin.unsafeSliceData_ #[50] 118 #[.slice (some ⟨g, 0, none⟩) l.length cap]).run Try.prog w.drew = .ok (.pointer (some ⟨g, 0, none⟩)) w.drew :=
    Lib.run_unsafeSliceData_row _ _ _ _ _ _ (by omega)
  have hUS : (Builtin.unsafeString_ #[118, 3] 9 #[.pointer (some ⟨g, 0, none⟩), .int .i64 l.length]).run Try.prog w.drew = .ok (.string ⟨l.toArray⟩) (w.drew.freeze ⟨g, 0, none⟩ l.length) := by
    refine Lib.run_unsafeString_row w.drew 118 3 9 5 Try.underlying118 hcb g cur.size (by have hg' : w.drew.heap[g]? = some (.cells cur 5 (0, 0)) := hg; simp [World.shape?, hg']) l h0 (by omega) (by unfold maxLen at hcm; omega) ?_
    intro j x hx
    have := hown.cells (g := g) rfl j (.int .u8 x.toNat) (by simp [Lib.byteCells, hx])
    exact this
  have hu99 := Try.underlying99
  go_enter Try.func98, Try.ntmps98
  go_wp2
  go_region_o
  all_goals (go_wp2; go_ret; exact ⟨rfl, Lib.below_freeze (Below.drew (Below.refl B w)) (p := ⟨g, 0, none⟩) hbg _⟩)
/-- What the loop gathers: some lines' contents. -/
def impl_Device_seen.l (a0_0 : ByteArray) (l0_1 : List S67) : Nat → Int → List UInt8 → Option (List UInt8)
  | 0, _, _ => none
  | k + 1, x, b => (impl_Device_has.f a0_0 l0_1 x).bind fun t => if t = true then (impl_Device_seenLine.f a0_0 l0_1 x).bind (fun s => if 0 ≤ x ∧ x ≤ 4294967296 ∧ ((b.length + s.size : Nat) : Int) ≤ 140737488355328 then impl_Device_seen.l a0_0 l0_1 k (x + 1) (b ++ s.data.toList) else none) else (if b = [] then none else some b)
def impl_Device_seen.f (k : Nat) (a0_0 : ByteArray) (l0_1 : List S67) : Option ByteArray := (impl_Device_seen.l a0_0 l0_1 k 0 []).map fun b => ⟨b.toArray⟩
theorem impl_Device_seen.mono_l (a0_0 : ByteArray) (l0_1 : List S67) : ∀ k x b, LeO (impl_Device_seen.l a0_0 l0_1 k x b) (impl_Device_seen.l a0_0 l0_1 (k + 1) x b)
  | 0, _, _ => fun r h => by simp [impl_Device_seen.l] at h
  | k + 1, x, b => by
    have ih := impl_Device_seen.mono_l a0_0 l0_1 k
    unfold impl_Device_seen.l
    refine LeO.bind (LeO.refl _) (fun t => LeO.ite ?_ (LeO.refl _))
    refine LeO.bind (LeO.refl _) (fun s => LeO.ite (ih _ _) (LeO.refl _))
theorem impl_Device_seen.mono : ∀ a0 a1 k, LeO (impl_Device_seen.f k a0 a1) (impl_Device_seen.f (k + 1) a0 a1) := by
  intro a0 a1 k r h
  unfold impl_Device_seen.f at h ⊢
  obtain ⟨b, hb, e⟩ := Option.map_eq_some_iff.1 h
  exact Option.map_eq_some_iff.2 ⟨b, impl_Device_seen.mono_l a0 a1 k 0 [] b hb, e⟩
theorem impl_Device_seen.cells (b : List UInt8) (s : ByteArray) : Lib.byteCells b ++ Lib.strCells s = Lib.byteCells (b ++ s.data.toList) := by simp [Lib.byteCells, Lib.strCells]
set_option maxHeartbeats 4000000 in
set_option maxRecDepth 100000 in
theorem impl_Device_seen.calls (k : Nat) (a0_0 : ByteArray) (A0_1 : Option Addr) (c0_1 : Nat) (l0_1 : List (S67)) (r : ByteArray) (w : World) (hr0_1 : Kd.C k67 w A0_1 l0_1.length l0_1) (hc0_1 : l0_1.length ≤ c0_1) (h : impl_Device_seen.f k a0_0 l0_1 = some r) :
    Calls Try.prog 68 #[.agg #[.string a0_0, .slice A0_1 l0_1.length c0_1]] w fun e w' => e = .returned (.string r) ∧ Below w.heap.size w w' := by
 have hu30 := Try.underlying30; have hu99 := Try.underlying99; have HR := mK hr0_1; have HC := mK hc0_1; clear hr0_1 hc0_1; have HB := mK (Below.refl w.heap.size w)
 obtain ⟨b1, hb1, rfl⟩ : ∃ b1, impl_Device_seen.l a0_0 l0_1 k 0 [] = some b1 ∧ (⟨b1.toArray⟩ : ByteArray) = r := by
   unfold impl_Device_seen.f at h; exact Option.map_eq_some_iff.mp h
 have H := mK hb1; clear h hb1; go_enter Try.func68, Try.ntmps68; go_wp2_with (first | ((with_reducible refine gate_dst (N := 1) rfl ?_); refine box_event ?hg (N := 1) ?hd (cs := #[.string a0_0, .slice A0_1 l0_1.length c0_1]) (t := 30) ?hr ?_; (case hd => rfl); (case hg => rfl); (case hr => first | (go_simp; done) | (go_simp; rfl)); intro gd hg w4 hbox hb; have n0_ := mK (lT HB.out hb); have n1_ := mK hbox; have n3_ := mK (by rw [hg]; exact (below_size HB.out) : w.heap.size ≤ gd); clear HB; have HB := n0_; have BK := n1_; have GE := n3_; clear n0_ n1_ n3_; clear hb hbox hg; have hcz0 : w4.cell? ⟨gd, 0, none⟩ = some (.string a0_0) := (bC BK.out 0).trans rfl; have hcz1 : w4.cell? ⟨gd, 1, none⟩ = some (.slice A0_1 l0_1.length c0_1) := (bC BK.out 1).trans rfl) | ((with_reducible refine gate_dst (N := 3) rfl ?_); refine box_event ?hg (N := 3) ?hd (cs := #[.pointer none, .slice none 0 0]) (t := 99) ?hr ?_; (case hd => rfl); (case hg => rfl); (case hr => first | (go_simp; done) | (go_simp; rfl)); intro gb hg w5 hbox hb; have n0_ := mK (lT HB.out hb); have n1_ := mK hbox; have n2_ := mK (bB BK.out hb); have n3_ := mK (by rw [hg]; exact (below_size HB.out) : w.heap.size ≤ gb); have n4_ := mK (by rw [hg]; exact (blk_lt BK.out) : gd < gb); clear HB BK hcz0 hcz1; have HB := n0_; have BKb := n1_; have BK := n2_; have GEb := n3_; have LTb := n4_; have EQb := mK hg; clear n0_ n1_ n2_ n3_ n4_; clear hb hbox hg)); have BD0 : Lib.IsBuilder 99 5 gb gb (Lib.byteCells []) w5 := .inl ⟨Nat.le_refl _, _, BKb.out, World.ownsRow_nil _ _ _ _, by simp [Value.ownBlock]⟩; have BD := mK BD0; clear BD0 BKb; go_loopg [4] k (fun kq v4 w' => ∃ (x : Int) (b : List UInt8), v4 = .int .i64 x ∧ Aside0 (impl_Device_seen.l a0_0 l0_1 kq x b = some b1) ∧ Aside0 (Lib.IsBuilder 99 5 gb gb (Lib.byteCells b) w') ∧ Aside0 (w'.heap[gd]? = some (.cells #[.string a0_0, (.slice A0_1 l0_1.length c0_1)] 30 (0, 0))) ∧ Aside0 (gb ≤ w'.heap.size) ∧ Aside0 (Below w.heap.size w w')); (case atStart => exact ⟨0, [], rfl, H, BD, BK, ⟨by have := BD.out; rcases this with h | h <;> exact Nat.le_of_lt h.lt⟩, HB⟩)
 case round =>
  clear H BD BK HB; obtain ⟨x, b, rfl, H, BD, BK, SZ, HB⟩ := hrel
  cases gk with
  | zero => exact absurd H.out (by simp [impl_Device_seen.l])
  | succ k1 =>
   have h1 := H.out; unfold impl_Device_seen.l at h1; obtain ⟨t, hh, h2⟩ := Option.bind_eq_some_iff.mp h1; have HH := mK hh; have hcz0 : wr.cell? ⟨gd, 0, none⟩ = some (.string a0_0) := (bC BK.out 0).trans rfl; have hcz1 : wr.cell? ⟨gd, 1, none⟩ = some (.slice A0_1 l0_1.length c0_1) := (bC BK.out 1).trans rfl; by_cases c : t = true
   ·subst c; rw [if_pos rfl] at h2; obtain ⟨s, hs, h3⟩ := Option.bind_eq_some_iff.mp h2; have HSL := mK hs; by_cases c2 : 0 ≤ x ∧ x ≤ 4294967296 ∧ ((b.length + s.size : Nat) : Int) ≤ 140737488355328
    ·rw [if_pos c2] at h3; obtain ⟨c3, c4, c5⟩ := c2; have H2 := mK h3; have L5 := mK c5; clear h1 h2 h3 hh hs H; go_wp2_with (first | (go_at_call 73; (with_reducible refine (impl_Device_has.calls a0_0 _ _ l0_1 x true _ ?side1 ?side2 HH.out).mono ?_); (case side1 => exact Kd.C_below HR.out HB.out); (case side2 => exact HC.out); rintro e w6 ⟨rfl, hb⟩; have n0_ := mK (lT HB.out hb); have n1_ := mK (bB BK.out hb); have n2_ := mK (impl_Device_seen.keep BD.out hb); have n3_ := mK (Nat.le_trans SZ.out hb.size); clear HB BK BD SZ hcz0 hcz1; have HB := n0_; have BK := n1_; have BD := n2_; have SZ := n3_; clear n0_ n1_ n2_ n3_; have hcz0 : w6.cell? ⟨gd, 0, none⟩ = some (.string a0_0) := (bC BK.out 0).trans rfl; have hcz1 : w6.cell? ⟨gd, 1, none⟩ = some (.slice A0_1 l0_1.length c0_1) := (bC BK.out 1).trans rfl) | (go_at_call 97; (with_reducible refine (impl_Device_seenLine.calls a0_0 _ _ l0_1 x s _ ?side1 ?side2 HSL.out).mono ?_); (case side1 => exact Kd.C_below HR.out HB.out); (case side2 => exact HC.out); rintro e w7 ⟨rfl, hb7⟩; have n0_ := mK (lT HB.out hb7); have n1_ := mK (bB BK.out hb7); have n2_ := mK (impl_Device_seen.keep BD.out hb7); have n3_ := mK (Nat.le_trans SZ.out hb7.size); clear HB BK BD SZ hcz0 hcz1; have HB := n0_; have BK := n1_; have BD := n2_; have SZ := n3_; clear n0_ n1_ n2_ n3_) | (go_at_call 96; (refine (impl_Device_seen.write gb gb (Lib.byteCells b) s _ BD.out ?side1 ?side2).mono ?_); (case side1 => have := L5.out; rw [Lib.byteCells_length]; omega); (case side2 => exact SZ.out); rintro e w8 ⟨rfl, hd8, hb8⟩; rw [impl_Device_seen.cells] at hd8; have n0_ := mK (impl_Device_seen.step2 HB.out hb8 GEb.out); have n1_ := mK ((hb8.block gd LTb.out).trans BK.out); have n2_ := mK (show Lib.IsBuilder 99 5 gb gb (Lib.byteCells (b ++ s.data.toList)) w8 from .inr hd8); have n3_ := mK (Nat.le_trans SZ.out hb8.size); clear HB BK BD SZ; have HB := n0_; have BK := n1_; have BD := n2_; have SZ := n3_; clear n0_ n1_ n2_ n3_ hd8)); go_roundg k1; (case measure => omega); (case rel => exact ⟨x + 1, _, by first | rfl | (rw [i64_w]; unfold wrap64; congr 1; omega) | (congr 1; unfold wrap64; omega) | (simp; omega), H2, BD, BK, SZ, HB⟩)
    (·rw [if_neg c2] at h3; cases h3)
   ·replace c := Bool.eq_false_iff.mpr c; subst c; rw [if_neg (by decide)] at h2; by_cases c2 : b = []; (·rw [if_pos c2] at h2; cases h2)
    ·rw [if_neg c2] at h2; obtain rfl := Option.some.inj h2; clear h1 h2 hh H; go_wp2_with (first | (go_at_call 73; (with_reducible refine (impl_Device_has.calls a0_0 _ _ l0_1 x false _ ?side1 ?side2 HH.out).mono ?_); (case side1 => exact Kd.C_below HR.out HB.out); (case side2 => exact HC.out); rintro e w6 ⟨rfl, hb⟩; have n0_ := mK (lT HB.out hb); have n2_ := mK (impl_Device_seen.keep BD.out hb); clear HB BK BD SZ hcz0 hcz1; have HB := n0_; have BD := n2_; clear n0_ n2_) | (go_at_call 98; (refine (impl_Device_seen.str gb gb b _ BD.out c2).mono ?_); rintro e w8 ⟨rfl, hb8⟩; have n0_ := mK (impl_Device_seen.step2 HB.out hb8 GEb.out); clear HB BD; have HB := n0_; clear n0_)); go_ret; exact ⟨rfl, HB.out⟩


/-! ### impl_Seen: function 32 -/
def impl_Seen.f (k : Nat) (a0_0 : ByteArray) (l0_1 : List (S67)) : Option (ByteArray) := (impl_DeviceOk.f k a0_0 l0_1).bind fun t140 => (if t140 = true then ((impl_Device_seen.f k a0_0 l0_1).bind fun t141 => (some t141)) else (some (⟨#[]⟩ : ByteArray)))
theorem impl_Seen.mono : ∀ a0 a1 k, LeO (impl_Seen.f k a0 a1) (impl_Seen.f (k + 1) a0 a1) := by
  intro a0 a1 k
  unfold impl_Seen.f
  repeat' first
      | (with_reducible exact impl_DeviceOk.mono _ _ _)
      | (with_reducible exact impl_Device_seen.mono _ _ _)
      | (with_reducible exact LeO.refl _)
      | (with_reducible exact LeO.none _)
      | (with_reducible refine LeO.ite ?_ ?_)
      | (with_reducible refine LeO.bind ?_ (fun _ => ?_))
      | exact impl_DeviceOk.mono _ _ _
      | exact impl_Device_seen.mono _ _ _
      | exact LeO.none _
      | refine LeO.ite ?_ ?_
      | refine LeO.bind ?_ (fun _ => ?_)
set_option maxHeartbeats 8000000 in
set_option maxRecDepth 100000 in
theorem impl_Seen.calls (k : Nat) (a0_0 : ByteArray) (A0_1 : Option Addr) (c0_1 : Nat) (l0_1 : List (S67)) (r : ByteArray) (w : World) (hr0_1 : Kd.C k67 w A0_1 l0_1.length l0_1) (hc0_1 : l0_1.length ≤ c0_1) (h : impl_Seen.f k a0_0 l0_1 = some r) :
    Calls Try.prog 32 #[.agg #[.string a0_0, .slice A0_1 l0_1.length c0_1]] w fun e w' => e = .returned (.string r) ∧ Below w.heap.size w w' := by
 have hu30 := Try.underlying30; have HR0_1 := mK hr0_1; have HC0_1 := mK hc0_1; clear hr0_1 hc0_1; have HB := mK (Below.refl w.heap.size w); have H : ((impl_DeviceOk.f k a0_0 l0_1).bind fun t140 => (if t140 = true then ((impl_Device_seen.f k a0_0 l0_1).bind fun t141 => (some t141)) else (some (⟨#[]⟩ : ByteArray)))) = some r := h; clear h; replace H := Option.bind_eq_some_iff.mp H; obtain ⟨t140, A20, H⟩ := H; replace H : (if t140 = true then ((impl_Device_seen.f k a0_0 l0_1).bind fun t141 => (some t141)) else (some (⟨#[]⟩ : ByteArray))) = some r := H; have A2 := mK A20; clear A20; by_cases c3 : t140 = true
 ·subst c3; (have H1 : ((impl_Device_seen.f k a0_0 l0_1).bind fun t141 => (some t141)) = some r := by rw [if_pos rfl] at H; exact H); clear H; have H := H1; clear H1; replace H := Option.bind_eq_some_iff.mp H; obtain ⟨t141, A40, H⟩ := H; replace H : (some t141) = some r := H; have A4 := mK A40; clear A40; obtain rfl := Option.some.inj H; go_enter Try.func32, Try.ntmps32; go_wp2_with (first | ((with_reducible refine gate_dst (N := 1) rfl ?_); refine box_event ?hg (N := 1) ?hd (cs := #[.string a0_0, .slice A0_1 l0_1.length c0_1]) (t := 30) ?hr ?_; (case hd => rfl); (case hg => rfl); (case hr => first | (go_simp; done) | (go_simp; rfl)); intro gb139 hg w5 hbox hb; have n0_ := mK (lT (by repeat (first | (with_reducible first | exact HB.out | apply lA | apply lN | apply lD) | exact HB.out)) hb); have n1_ := mK (hbox); have n2_ := mK ((by rw [hg]; exact (below_size (by repeat (first | (with_reducible first | exact HB.out | apply lA | apply lN | apply lD) | exact HB.out))) : w.heap.size ≤ gb139)); have n3_ := mK ((by rw [hg]; exact (below_size (by repeat (first | (with_reducible first | exact HB.out | apply lA | apply lN | apply lD) | exact HB.out))) : w.heap.size ≤ gb139)); clear HB; have HB := n0_; have BK139 := n1_; have GW139 := n2_; have GE139 := n3_; clear n0_ n1_ n2_ n3_; clear hb hbox hg; have hcz6_0 : w5.cell? ⟨gb139, 0, none⟩ = some (.string a0_0) := (bC BK139.out 0).trans rfl; have hcz6_1 : w5.cell? ⟨gb139, 1, none⟩ = some (.slice A0_1 l0_1.length c0_1) := (bC BK139.out 1).trans rfl; have hfz6_0 := bF BK139.out 0; have hfz6_1 := bF BK139.out 1) | ((with_reducible refine gate_callee (f := 45) rfl ?_); refine goesL_ (some 4) rfl rfl Try.func45 (by kernel_rfl) rfl #[.agg #[.string a0_0, .slice A0_1 l0_1.length c0_1]] rfl (by (try simp only [List.map_toArray, List.map_cons, List.map_nil]); first | done | rfl | (simp only [List.length_drop, List.length_take]; rfl)) ?_; (with_reducible refine (impl_DeviceOk.calls k a0_0 _ _ l0_1 true _ ?side1 ?side2 A2.out).mono ?_); (case side1 => repeat (first | exact (Kd.C_below HR0_1.out HB.out) | (with_reducible refine Kd.C_alloc ?_ _) | (with_reducible refine Kd.C_drewN ?_ _) | (with_reducible refine Kd.C_drew ?_))); (case side2 => exact HC0_1.out); rintro e w7 ⟨rfl, hb⟩; refine ⟨_, rfl, ?_⟩; have n0_ := mK (bB (g := gb139) (o := .cells #[.string a0_0, .slice A0_1 l0_1.length c0_1] 30 (0, 0)) (by (with_reducible repeat (first | apply bN | apply bD | apply bA)); exact BK139.out) hb); have n1_ := mK (lT (by repeat (first | (with_reducible first | exact HB.out | apply lA | apply lN | apply lD | refine lS ?_ GE139.out) | exact HB.out)) hb); clear BK139; clear HB; have BK139 := n0_; have HB := n1_; clear n0_ n1_; (try clear hb); (try clear hb2); (try clear hk); (try clear hi); have hcz8_0 : w7.cell? ⟨gb139, 0, none⟩ = some (.string a0_0) := (bC BK139.out 0).trans rfl; have hcz8_1 : w7.cell? ⟨gb139, 1, none⟩ = some (.slice A0_1 l0_1.length c0_1) := (bC BK139.out 1).trans rfl; have hfz8_0 := bF BK139.out 0; have hfz8_1 := bF BK139.out 1) | ((with_reducible refine gate_callee (f := 68) rfl ?_); refine goesL_ (some 7) rfl rfl Try.func68 (by kernel_rfl) rfl #[.agg #[.string a0_0, .slice A0_1 l0_1.length c0_1]] rfl (by (try simp only [List.map_toArray, List.map_cons, List.map_nil]); first | done | rfl | (simp only [List.length_drop, List.length_take]; rfl)) ?_; (with_reducible refine (impl_Device_seen.calls k a0_0 _ _ l0_1 t141 _ ?side1 ?side2 A4.out).mono ?_); (case side1 => repeat (first | exact (Kd.C_below HR0_1.out HB.out) | (with_reducible refine Kd.C_alloc ?_ _) | (with_reducible refine Kd.C_drewN ?_ _) | (with_reducible refine Kd.C_drew ?_))); (case side2 => exact HC0_1.out); rintro e w9 ⟨rfl, hb⟩; refine ⟨_, rfl, ?_⟩; have n0_ := mK (bB (g := gb139) (o := .cells #[.string a0_0, .slice A0_1 l0_1.length c0_1] 30 (0, 0)) (by (with_reducible repeat (first | apply bN | apply bD | apply bA)); exact BK139.out) hb); have n1_ := mK (lT (by repeat (first | (with_reducible first | exact HB.out | apply lA | apply lN | apply lD | refine lS ?_ GE139.out) | exact HB.out)) hb); clear BK139; clear HB; have BK139 := n0_; have HB := n1_; clear n0_ n1_; (try clear hb); (try clear hb2); (try clear hk); (try clear hi))); go_ret; exact ⟨by first | rfl | (simp [errW_none, errW_some] <;> rfl) | (simp [*, errW_none, errW_some] <;> rfl), by repeat (first | (with_reducible first | exact HB.out | apply lA | apply lN | apply lD | refine lS ?_ GE139.out) | exact HB.out)⟩
 ·replace c3 := Bool.eq_false_iff.mpr c3; subst c3; (have H1 : (some (⟨#[]⟩ : ByteArray)) = some r := by rw [if_neg (show ¬ (false = true) by decide)] at H; exact H); clear H; have H := H1; clear H1; obtain rfl := Option.some.inj H; go_enter Try.func32, Try.ntmps32; go_wp2_with (first | ((with_reducible refine gate_dst (N := 1) rfl ?_); refine box_event ?hg (N := 1) ?hd (cs := #[.string a0_0, .slice A0_1 l0_1.length c0_1]) (t := 30) ?hr ?_; (case hd => rfl); (case hg => rfl); (case hr => first | (go_simp; done) | (go_simp; rfl)); intro gb139 hg w10 hbox hb; have n0_ := mK (lT (by repeat (first | (with_reducible first | exact HB.out | apply lA | apply lN | apply lD) | exact HB.out)) hb); have n1_ := mK (hbox); have n2_ := mK ((by rw [hg]; exact (below_size (by repeat (first | (with_reducible first | exact HB.out | apply lA | apply lN | apply lD) | exact HB.out))) : w.heap.size ≤ gb139)); have n3_ := mK ((by rw [hg]; exact (below_size (by repeat (first | (with_reducible first | exact HB.out | apply lA | apply lN | apply lD) | exact HB.out))) : w.heap.size ≤ gb139)); clear HB; have HB := n0_; have BK139 := n1_; have GW139 := n2_; have GE139 := n3_; clear n0_ n1_ n2_ n3_; clear hb hbox hg; have hcz11_0 : w10.cell? ⟨gb139, 0, none⟩ = some (.string a0_0) := (bC BK139.out 0).trans rfl; have hcz11_1 : w10.cell? ⟨gb139, 1, none⟩ = some (.slice A0_1 l0_1.length c0_1) := (bC BK139.out 1).trans rfl; have hfz11_0 := bF BK139.out 0; have hfz11_1 := bF BK139.out 1) | ((with_reducible refine gate_callee (f := 45) rfl ?_); refine goesL_ (some 4) rfl rfl Try.func45 (by kernel_rfl) rfl #[.agg #[.string a0_0, .slice A0_1 l0_1.length c0_1]] rfl (by (try simp only [List.map_toArray, List.map_cons, List.map_nil]); first | done | rfl | (simp only [List.length_drop, List.length_take]; rfl)) ?_; (with_reducible refine (impl_DeviceOk.calls k a0_0 _ _ l0_1 false _ ?side1 ?side2 A2.out).mono ?_); (case side1 => repeat (first | exact (Kd.C_below HR0_1.out HB.out) | (with_reducible refine Kd.C_alloc ?_ _) | (with_reducible refine Kd.C_drewN ?_ _) | (with_reducible refine Kd.C_drew ?_))); (case side2 => exact HC0_1.out); rintro e w12 ⟨rfl, hb⟩; refine ⟨_, rfl, ?_⟩; have n0_ := mK (bB (g := gb139) (o := .cells #[.string a0_0, .slice A0_1 l0_1.length c0_1] 30 (0, 0)) (by (with_reducible repeat (first | apply bN | apply bD | apply bA)); exact BK139.out) hb); have n1_ := mK (lT (by repeat (first | (with_reducible first | exact HB.out | apply lA | apply lN | apply lD | refine lS ?_ GE139.out) | exact HB.out)) hb); clear BK139; clear HB; have BK139 := n0_; have HB := n1_; clear n0_ n1_; (try clear hb); (try clear hb2); (try clear hk); (try clear hi))); go_ret; exact ⟨by first | rfl | (simp [errW_none, errW_some] <;> rfl) | (simp [*, errW_none, errW_some] <;> rfl), by repeat (first | (with_reducible first | exact HB.out | apply lA | apply lN | apply lD | refine lS ?_ GE139.out) | exact HB.out)⟩

/-! ### impl_Flush: function 36 -/
theorem impl_Flush.bound (s : ByteArray) (l : List S67) (y i : Int) (b : Bool) (h : impl_Device_find.f s l y = some (i, b)) : 0 ≤ i ∧ (b = true → i < (l.length : Int)) := by
  unfold impl_Device_find.f at h
  split at h
  · split at h
    · obtain ⟨rfl, rfl⟩ := Prod.mk.inj (Option.some.inj h)
      refine ⟨by omega, fun hb => ?_⟩
      simp only [Bool.and_eq_true, decide_eq_true_eq] at hb
      omega
    · cases h
  · cases h
def impl_Flush.put (l : List S67) (i : Int) (b : Bool) : List S67 := if b = true then l.set i.toNat ⟨(rd_T67 l i).f0, (rd_T67 l i).f1, (rd_T67 l i).f1⟩ else l
set_option maxHeartbeats 4000000 in
set_option maxRecDepth 1000000 in
theorem impl_Flush.flush (base g : Nat) (ok : Nat → Prop) (s : ByteArray) (A : Option Addr) (c : Nat) (l : List S67) (y i : Int) (b : Bool) (w0 w : World) (hbk : w.heap[g]? = some (.cells #[.string s, .slice A l.length c] 30 (0, 0)))
    (hR : Kd.R k67 67 w base ok (.slice A l.length c) l) (hok : ∀ k, ok k → k ≠ g) (hB : Below base w0 w) (hbw : base ≤ w.heap.size) (hf : impl_Device_find.f s l y = some (i, b)) :
    Calls Try.prog 74 #[.pointer (some ⟨g, 0, none⟩), .int .i64 y] w fun e w' => e = .returned (.tuple #[]) ∧ w'.heap[g]? = some (.cells #[.string s, .slice A l.length c] 30 (0, 0)) ∧ Kd.R k67 67 w' base ok (.slice A l.length c) (impl_Flush.put l i b) ∧ Below base w0 w' ∧ w.heap.size ≤ w'.heap.size ∧ ∀ k, k < w.heap.size → some k ≠ (Value.slice A l.length c).ownBlock → w'.heap[k]? = w.heap[k]? := by
  have hu30 := Try.underlying30
  have hu67 := Try.underlying67
  obtain ⟨i0, ib⟩ := impl_Flush.bound s l y i b hf
  have F := mK hf
  have BK := mK hbk
  have HR := mK hR
  have HB := mK hB
  have hcz0 : w.cell? ⟨g, 0, none⟩ = some (.string s) := (bC BK.out 0).trans rfl
  have hcz1 : w.cell? ⟨g, 1, none⟩ = some (.slice A l.length c) := (bC BK.out 1).trans rfl
  clear hf hbk hR hB
  by_cases hb1 : b = true
  · subst hb1
    have i1 := ib rfl
    clear ib
    have hpos : 0 < l.length := by omega
    obtain ⟨go, cap, eo, gb, gl, cells, hgo⟩ := Kd.R_form HR.out hpos
    obtain ⟨rfl, -, rfl⟩ := Value.slice.inj eo
    clear eo
    go_enter Try.func74, Try.ntmps74
    go_wp2_with (go_at_call 76; (with_reducible refine (impl_Device_find.calls s _ _ l y i true _ ?side1 ?side2 F.out).mono ?_); (case side1 => exact (Kd.R_reads' HR.out).2.2); (case side2 => exact (Kd.R_reads' HR.out).2.1); rintro e w2 ⟨rfl, hb⟩; have n0_ := mK (HB.out.trans (hb.mono hbw)); have n1_ := mK (bB BK.out hb); have n2_ := mK (Kd.R_below HR.out hb); clear HB BK HR hcz0 hcz1; have HB := n0_; have BK := n1_; have HR := n2_; have HBB := mK hb; clear n0_ n1_ n2_ hb)
    obtain ⟨n, rfl⟩ := Int.eq_ofNat_of_zero_le i0
    have n1 : n < l.length := by omega
    have DR := mK (Kd.R_drew HR.out)
    obtain ⟨ce, hcl, hM, hcc, hfr⟩ := Kd.R_elem DR.out z67 (n : Int) (by omega) (by omega)
    obtain rfl := k67_openM hM
    have HP := mK (Kd.R_seg DR.out (n : Int) (by omega) (by omega) (seg := [.string (rd_T67 l (n : Int)).f1]) (j := 2) hcl hcc (show 3 ≤ 3 from by decide) (x' := (⟨(rd_T67 l (n : Int)).f0, (rd_T67 l (n : Int)).f1, (rd_T67 l (n : Int)).f1⟩ : S67)) (k67_mkM _ _ _ (⟨(rd_T67 l (n : Int)).f0, (rd_T67 l (n : Int)).f1, (rd_T67 l (n : Int)).f1⟩ : S67)) (fun _ hk => hk))
    have hx1 : w2.drew.cell? ⟨go, n * 3 + 1, none⟩ = some (.string (rd_T67 l (n : Int)).f1) := hcc 1 _ rfl
    have hx2 : w2.drew.cell? ⟨go, n * 3 + 2, none⟩ = some (.string (rd_T67 l (n : Int)).f2) := hcc 2 _ rfl
    have hf2 : w2.drew.frozen? ⟨go, n * 3 + 2, none⟩ = false := hfr 2
    have hcz0 : w2.drew.cell? ⟨g, 0, none⟩ = some (.string s) := (bC (bD BK.out) 0).trans rfl
    have hcz1 : w2.drew.cell? ⟨g, 1, none⟩ = some (.slice (some ⟨go, 0, none⟩) l.length c) := (bC (bD BK.out) 1).trans rfl
    have nok : go ≠ g := hok go (HR.out.1 go (by simp [Value.ownBlock]))
    have EP := mK (show impl_Flush.put l (n : Int) true = l.set n ⟨(rd_T67 l (n : Int)).f0, (rd_T67 l (n : Int)).f1, (rd_T67 l (n : Int)).f1⟩ by unfold impl_Flush.put; rw [if_pos rfl]; rfl)
    generalize rd_T67 l (n : Int) = x at *
    clear hcl hM hcc hfr F
    go_wp2
    go_region
    all_goals
      go_wp2
      go_end0
      refine ⟨rfl, ?_, ?_, ?_, ?_, ?_⟩
      · exact blk_far (bD BK.out) nok.symm _
      · rw [EP.out]; exact HP.out.1
      · exact (Below.drew HB.out).setCell (p := ⟨go, _, none⟩) gb _
      · have := HBB.out.size; simpa [World.setCell] using this
      · intro k0 hk0 hne
        have hne' : go ≠ k0 := fun e => hne (by rw [← e]; simp [Value.ownBlock])
        exact (Below.heap_setCell _ _ _ k0 hne'.symm).trans (HBB.out.block k0 hk0)
  · replace hb1 := Bool.eq_false_iff.mpr hb1
    subst hb1
    clear ib
    have C0 := mK (Kd.R_reads' HR.out)
    go_enter Try.func74, Try.ntmps74
    go_wp2_with (go_at_call 76; (with_reducible refine (impl_Device_find.calls s _ _ l y i false _ ?side1 ?side2 F.out).mono ?_); (case side1 => exact (Kd.R_reads' HR.out).2.2); (case side2 => exact (Kd.R_reads' HR.out).2.1); rintro e w2 ⟨rfl, hb⟩; have n0_ := mK (HB.out.trans (hb.mono hbw)); have n1_ := mK (bB BK.out hb); have n2_ := mK (Kd.R_below HR.out hb); clear HB BK HR hcz0 hcz1; have HB := n0_; have BK := n1_; have HR := n2_; have HBB := mK hb; clear n0_ n1_ n2_ hb)
    go_end0
    exact ⟨rfl, BK.out, by unfold impl_Flush.put; rw [if_neg (by decide)]; exact HR.out, HB.out, HBB.out.size, fun k0 hk0 _ => HBB.out.block k0 hk0⟩

def impl_Flush.f (k : Nat) (a0_0 : ByteArray) (l0_1 : List S67) (a1 : Int) : Option (ByteArray × (List (S67)) × Bool) := (impl_DeviceOk.f k a0_0 l0_1).bind fun t => if t = true then ((impl_Device_has.f a0_0 l0_1 a1).bind fun u => if u = true then ((impl_Device_own.f a0_0 l0_1).bind fun o => (impl_Device_find.f o.1 o.2 a1).bind fun q => some (o.1, impl_Flush.put o.2 q.1 q.2, true)) else some ((⟨#[]⟩ : ByteArray), [], false)) else some ((⟨#[]⟩ : ByteArray), [], false)
theorem impl_Flush.mono : ∀ a0 a1 a2 k, LeO (impl_Flush.f k a0 a1 a2) (impl_Flush.f (k + 1) a0 a1 a2) := by
  intro a0 a1 a2 k
  unfold impl_Flush.f
  exact LeO.bind (impl_DeviceOk.mono _ _ _) (fun t => LeO.refl _)
set_option maxHeartbeats 8000000 in
set_option maxRecDepth 1000000 in
theorem impl_Flush.calls (k : Nat) (a0_0 : ByteArray) (A0_1 : Option Addr) (c0_1 : Nat) (l0_1 : List (S67)) (a1 : Int) (r1 : ByteArray) (r2 : List (S67)) (r3 : Bool) (w : World) (hr0_1 : Kd.C k67 w A0_1 l0_1.length l0_1) (hc0_1 : l0_1.length ≤ c0_1) (h : impl_Flush.f k a0_0 l0_1 a1 = some (r1, r2, r3)) :
    Calls Try.prog 36 #[.agg #[.string a0_0, .slice A0_1 l0_1.length c0_1], .int .i64 a1] w fun e w' => ∃ v1_ : Value, e = .returned (.tuple #[.agg #[.string r1, v1_], .bool r3]) ∧ Kd.R k67 67 w' w.heap.size (fun _ => True) v1_ r2 ∧ Below w.heap.size w w' := by
 have hu30 := Try.underlying30; have HR := mK hr0_1; have HC := mK hc0_1; clear hr0_1 hc0_1; have HB := mK (Below.refl w.heap.size w); unfold impl_Flush.f at h; obtain ⟨t, ht, h⟩ := Option.bind_eq_some_iff.mp h; have T := mK ht; clear ht; by_cases ct : t = true
 ·subst ct; rw [if_pos rfl] at h; obtain ⟨u, hu, h⟩ := Option.bind_eq_some_iff.mp h; have U := mK hu; clear hu; by_cases cu : u = true
  ·subst cu; rw [if_pos rfl] at h; obtain ⟨⟨s2, l2⟩, ho, h⟩ := Option.bind_eq_some_iff.mp h; obtain ⟨⟨i, b⟩, hf, h⟩ := Option.bind_eq_some_iff.mp h; simp only [Option.some.injEq, Prod.mk.injEq] at h; obtain ⟨rfl, rfl, rfl⟩ := h; have O := mK ho; have F := mK hf; clear ho hf; go_enter Try.func36, Try.ntmps36; go_wp2_with (first | ((with_reducible refine gate_dst (N := 2) rfl ?_); refine box_event ?hg (N := 2) ?hd (cs := #[.string a0_0, .slice A0_1 l0_1.length c0_1]) (t := 30) ?hr ?_; (case hd => rfl); (case hg => rfl); (case hr => first | (go_simp; done) | (go_simp; rfl)); intro gd hg w4 hbox hb; have n0_ := mK (lT HB.out hb); have n1_ := mK hbox; have n3_ := mK (by rw [hg]; exact (below_size HB.out) : w.heap.size ≤ gd); clear HB; have HB := n0_; have BK := n1_; have GE := n3_; clear n0_ n1_ n3_; clear hb hbox hg; have hcz0 : w4.cell? ⟨gd, 0, none⟩ = some (.string a0_0) := (bC BK.out 0).trans rfl; have hcz1 : w4.cell? ⟨gd, 1, none⟩ = some (.slice A0_1 l0_1.length c0_1) := (bC BK.out 1).trans rfl) | ((with_reducible refine gate_dst (N := 4) rfl ?_); refine box_event ?hg (N := 4) ?hd (cs := #[.string (⟨#[]⟩ : ByteArray), .slice none 0 0]) (t := 30) ?hr ?_; (case hd => rfl); (case hg => rfl); (case hr => first | (go_simp; done) | (go_simp; rfl)); intro gr hg w5 hbox hb; have n0_ := mK (lT HB.out hb); have n1_ := mK hbox; have n2_ := mK (bB BK.out hb); have n3_ := mK (by rw [hg]; exact (below_size HB.out) : w.heap.size ≤ gr); have n4_ := mK (by rw [hg]; exact Nat.ne_of_lt (blk_lt BK.out) : gd ≠ gr); clear HB BK hcz0 hcz1; have HB := n0_; have BKr := n1_; have BK := n2_; have GEr := n3_; have NEr := n4_; clear n0_ n1_ n2_ n3_ n4_; clear hb hbox hg; have hcz0 : w5.cell? ⟨gd, 0, none⟩ = some (.string a0_0) := (bC BK.out 0).trans rfl; have hcz1 : w5.cell? ⟨gd, 1, none⟩ = some (.slice A0_1 l0_1.length c0_1) := (bC BK.out 1).trans rfl; have hcr0 : w5.cell? ⟨gr, 0, none⟩ = some (.string (⟨#[]⟩ : ByteArray)) := (bC BKr.out 0).trans rfl; have hcr1 : w5.cell? ⟨gr, 1, none⟩ = some (.slice none 0 0) := (bC BKr.out 1).trans rfl; have hfr0 := bF BKr.out 0; have hfr1 := bF BKr.out 1) | (go_at_call 45; (with_reducible refine (impl_DeviceOk.calls k a0_0 _ _ l0_1 true _ ?side1 ?side2 T.out).mono ?_); (case side1 => exact Kd.C_below HR.out HB.out); (case side2 => exact HC.out); rintro e w6 ⟨rfl, hb⟩; have n0_ := mK (lT HB.out hb); have n1_ := mK (bB BK.out hb); have n2_ := mK (bB BKr.out hb); clear HB BK BKr hcz0 hcz1 hcr0 hcr1 hfr0 hfr1; have HB := n0_; have BK := n1_; have BKr := n2_; clear n0_ n1_ n2_ hb; have hcz0 : w6.cell? ⟨gd, 0, none⟩ = some (.string a0_0) := (bC BK.out 0).trans rfl; have hcz1 : w6.cell? ⟨gd, 1, none⟩ = some (.slice A0_1 l0_1.length c0_1) := (bC BK.out 1).trans rfl; have hcr0 : w6.cell? ⟨gr, 0, none⟩ = some (.string (⟨#[]⟩ : ByteArray)) := (bC BKr.out 0).trans rfl; have hcr1 : w6.cell? ⟨gr, 1, none⟩ = some (.slice none 0 0) := (bC BKr.out 1).trans rfl; have hfr0 := bF BKr.out 0; have hfr1 := bF BKr.out 1) | (go_at_call 73; (with_reducible refine (impl_Device_has.calls a0_0 _ _ l0_1 a1 true _ ?side1 ?side2 U.out).mono ?_); (case side1 => exact Kd.C_below HR.out HB.out); (case side2 => exact HC.out); rintro e w7 ⟨rfl, hb⟩; have n0_ := mK (lT HB.out hb); have n1_ := mK (bB BK.out hb); have n2_ := mK (bB BKr.out hb); clear HB BK BKr hcz0 hcz1 hcr0 hcr1 hfr0 hfr1; have HB := n0_; have BK := n1_; have BKr := n2_; clear n0_ n1_ n2_ hb; have hcz0 : w7.cell? ⟨gd, 0, none⟩ = some (.string a0_0) := (bC BK.out 0).trans rfl; have hcz1 : w7.cell? ⟨gd, 1, none⟩ = some (.slice A0_1 l0_1.length c0_1) := (bC BK.out 1).trans rfl; have hcr0 : w7.cell? ⟨gr, 0, none⟩ = some (.string (⟨#[]⟩ : ByteArray)) := (bC BKr.out 0).trans rfl; have hcr1 : w7.cell? ⟨gr, 1, none⟩ = some (.slice none 0 0) := (bC BKr.out 1).trans rfl; have hfr0 := bF BKr.out 0; have hfr1 := bF BKr.out 1) | (go_at_call 65; (with_reducible refine (impl_Device_own.calls a0_0 _ _ l0_1 s2 l2 _ ?side1 ?side2 O.out).mono ?_); (case side1 => exact Kd.C_below HR.out HB.out); (case side2 => exact HC.out); rintro e w8 ⟨vo, rfl, ho, hb⟩; have n3_ := mK (Kd.R_lower ho (below_size HB.out)); have n0_ := mK (lT HB.out hb); have n1_ := mK (bB BK.out hb); have n2_ := mK (bB BKr.out hb); clear HB BK BKr hcz0 hcz1 hcr0 hcr1 hfr0 hfr1; have HB := n0_; have BK := n1_; have BKr := n2_; clear n0_ n1_ n2_ hb; have hcz0 : w8.cell? ⟨gd, 0, none⟩ = some (.string a0_0) := (bC BK.out 0).trans rfl; have hcz1 : w8.cell? ⟨gd, 1, none⟩ = some (.slice A0_1 l0_1.length c0_1) := (bC BK.out 1).trans rfl; have hcr0 : w8.cell? ⟨gr, 0, none⟩ = some (.string (⟨#[]⟩ : ByteArray)) := (bC BKr.out 0).trans rfl; have hcr1 : w8.cell? ⟨gr, 1, none⟩ = some (.slice none 0 0) := (bC BKr.out 1).trans rfl; have hfr0 := bF BKr.out 0; have hfr1 := bF BKr.out 1; have HO := n3_; clear n3_ ho; obtain ⟨Ao, co, eo⟩ := Kd.R_slice HO.out; subst eo) | ((with_reducible refine gate_dst (N := 6) rfl ?_); refine box_event ?hg (N := 6) ?hd (cs := #[.string (⟨#[]⟩ : ByteArray), .slice none 0 0]) (t := 30) ?hr ?_; (case hd => rfl); (case hg => rfl); (case hr => first | (go_simp; done) | (go_simp; rfl)); intro gO hg w9 hbox hb; have n3_ := mK (Kd.R_below HO.out hb); have n4_ := mK hbox; have GEo := mK (by rw [hg]; exact (below_size HB.out) : w.heap.size ≤ gO); have NErO := (by rw [hg]; exact Nat.ne_of_lt (blk_lt BKr.out) : gr ≠ gO); have NEOr := NErO.symm; clear HO; have HO := n3_; have BKo := n4_; clear n3_ n4_ hbox hg; have n0_ := mK (lT HB.out hb); have n1_ := mK (bB BK.out hb); have n2_ := mK (bB BKr.out hb); clear HB BK BKr hcz0 hcz1 hcr0 hcr1 hfr0 hfr1; have HB := n0_; have BK := n1_; have BKr := n2_; clear n0_ n1_ n2_ hb; have hcz0 : w9.cell? ⟨gd, 0, none⟩ = some (.string a0_0) := (bC BK.out 0).trans rfl; have hcz1 : w9.cell? ⟨gd, 1, none⟩ = some (.slice A0_1 l0_1.length c0_1) := (bC BK.out 1).trans rfl; have hcr0 : w9.cell? ⟨gr, 0, none⟩ = some (.string (⟨#[]⟩ : ByteArray)) := (bC BKr.out 0).trans rfl; have hcr1 : w9.cell? ⟨gr, 1, none⟩ = some (.slice none 0 0) := (bC BKr.out 1).trans rfl; have hfr0 := bF BKr.out 0; have hfr1 := bF BKr.out 1; have hco0 : w9.cell? ⟨gO, 0, none⟩ = some (.string (⟨#[]⟩ : ByteArray)) := (bC BKo.out 0).trans rfl; have hco1 : w9.cell? ⟨gO, 1, none⟩ = some (.slice none 0 0) := (bC BKo.out 1).trans rfl; have hfo0 := bF BKo.out 0; have hfo1 := bF BKo.out 1) | (go_at_call 74; (refine (impl_Flush.flush w.heap.size gO (fun k => True ∧ k ≠ gO) s2 Ao co l2 a1 i b w _ ?side1 ?side2 (fun k hk => hk.2) ?side3 ?side4 F.out).mono ?_); (case side1 => exact blk_put (cs := #[.string s2, .slice none 0 0]) (blk_put BKo.out 0 _ rfl) 1 _ rfl); (case side2 => exact Kd.R_far (p := ⟨gO, 1, none⟩) (Kd.R_far (p := ⟨gO, 0, none⟩) (Kd.R_types HO.out BKo.out (by decide)) (fun _ hk => hk.2) _) (fun _ hk => hk.2) _); (case side3 => exact lS (lS HB.out GEo.out) GEo.out); (case side4 => have := below_size HB.out; simpa [World.setCell] using this); rintro e w10 ⟨rfl, hbo, hro, hb, hsz, hoth⟩; have n0_ := mK hb; have n1_ := mK hbo; have n2_ := mK ((hoth gr (by have := blk_lt BKr.out; simpa [World.setCell] using this) (Kd.R_ne HO.out BKr.out (by decide))).trans (blk_far (blk_far BKr.out NErO _) NErO _)); have n3_ := mK hro; clear HB BK BKr BKo HO hcz0 hcz1 hcr0 hcr1 hfr0 hfr1 hco0 hco1 hfo0 hfo1; have HB := n0_; have BKo := n1_; have BKr := n2_; have HO := n3_; clear n0_ n1_ n2_ n3_ hb hbo hro hsz hoth; have hcr0 : w10.cell? ⟨gr, 0, none⟩ = some (.string (⟨#[]⟩ : ByteArray)) := (bC BKr.out 0).trans rfl; have hcr1 : w10.cell? ⟨gr, 1, none⟩ = some (.slice none 0 0) := (bC BKr.out 1).trans rfl; have hfr0 := bF BKr.out 0; have hfr1 := bF BKr.out 1; have hco0 : w10.cell? ⟨gO, 0, none⟩ = some (.string s2) := (bC BKo.out 0).trans rfl; have hco1 : w10.cell? ⟨gO, 1, none⟩ = some (.slice Ao l2.length co) := (bC BKo.out 1).trans rfl)); refine bodyPost_ret (results_ct rfl _ _ gr 30 #[.string s2, .slice Ao l2.length co] (0, 0) _ rfl (by refine blk_put (cs := #[.string s2, .slice none 0 0]) ?_ 1 _ rfl; refine blk_put (cs := #[.string (⟨#[]⟩ : ByteArray), .slice none 0 0]) ?_ 0 _ rfl; exact BKr.out) Try.underlying30 rfl (by kernel_rfl)) rfl ?_; exact ⟨_, rfl, Kd.R_mono (Kd.R_far (p := ⟨gr, 1, none⟩) (Kd.R_far (p := ⟨gr, 0, none⟩) (Kd.R_types HO.out BKr.out (by decide)) (fun _ hk => hk.2) _) (fun _ hk => hk.2) _) (fun _ _ => trivial), lS (lS HB.out GEr.out) GEr.out⟩
  ·replace cu := Bool.eq_false_iff.mpr cu; subst cu; rw [if_neg (by decide)] at h; simp only [Option.some.injEq, Prod.mk.injEq] at h; obtain ⟨rfl, rfl, rfl⟩ := h; go_enter Try.func36, Try.ntmps36; go_wp2_with (first | ((with_reducible refine gate_dst (N := 2) rfl ?_); refine box_event ?hg (N := 2) ?hd (cs := #[.string a0_0, .slice A0_1 l0_1.length c0_1]) (t := 30) ?hr ?_; (case hd => rfl); (case hg => rfl); (case hr => first | (go_simp; done) | (go_simp; rfl)); intro gd hg w4 hbox hb; have n0_ := mK (lT HB.out hb); have n1_ := mK hbox; have n3_ := mK (by rw [hg]; exact (below_size HB.out) : w.heap.size ≤ gd); clear HB; have HB := n0_; have BK := n1_; have GE := n3_; clear n0_ n1_ n3_; clear hb hbox hg; have hcz0 : w4.cell? ⟨gd, 0, none⟩ = some (.string a0_0) := (bC BK.out 0).trans rfl; have hcz1 : w4.cell? ⟨gd, 1, none⟩ = some (.slice A0_1 l0_1.length c0_1) := (bC BK.out 1).trans rfl) | ((with_reducible refine gate_dst (N := 4) rfl ?_); refine box_event ?hg (N := 4) ?hd (cs := #[.string (⟨#[]⟩ : ByteArray), .slice none 0 0]) (t := 30) ?hr ?_; (case hd => rfl); (case hg => rfl); (case hr => first | (go_simp; done) | (go_simp; rfl)); intro gr hg w5 hbox hb; have n0_ := mK (lT HB.out hb); have n1_ := mK hbox; have n2_ := mK (bB BK.out hb); have n3_ := mK (by rw [hg]; exact (below_size HB.out) : w.heap.size ≤ gr); have n4_ := mK (by rw [hg]; exact Nat.ne_of_lt (blk_lt BK.out) : gd ≠ gr); clear HB BK hcz0 hcz1; have HB := n0_; have BKr := n1_; have BK := n2_; have GEr := n3_; have NEr := n4_; clear n0_ n1_ n2_ n3_ n4_; clear hb hbox hg; have hcz0 : w5.cell? ⟨gd, 0, none⟩ = some (.string a0_0) := (bC BK.out 0).trans rfl; have hcz1 : w5.cell? ⟨gd, 1, none⟩ = some (.slice A0_1 l0_1.length c0_1) := (bC BK.out 1).trans rfl; have hcr0 : w5.cell? ⟨gr, 0, none⟩ = some (.string (⟨#[]⟩ : ByteArray)) := (bC BKr.out 0).trans rfl; have hcr1 : w5.cell? ⟨gr, 1, none⟩ = some (.slice none 0 0) := (bC BKr.out 1).trans rfl; have hfr0 := bF BKr.out 0; have hfr1 := bF BKr.out 1) | (go_at_call 45; (with_reducible refine (impl_DeviceOk.calls k a0_0 _ _ l0_1 true _ ?side1 ?side2 T.out).mono ?_); (case side1 => exact Kd.C_below HR.out HB.out); (case side2 => exact HC.out); rintro e w6 ⟨rfl, hb⟩; have n0_ := mK (lT HB.out hb); have n1_ := mK (bB BK.out hb); have n2_ := mK (bB BKr.out hb); clear HB BK BKr hcz0 hcz1 hcr0 hcr1 hfr0 hfr1; have HB := n0_; have BK := n1_; have BKr := n2_; clear n0_ n1_ n2_ hb; have hcz0 : w6.cell? ⟨gd, 0, none⟩ = some (.string a0_0) := (bC BK.out 0).trans rfl; have hcz1 : w6.cell? ⟨gd, 1, none⟩ = some (.slice A0_1 l0_1.length c0_1) := (bC BK.out 1).trans rfl; have hcr0 : w6.cell? ⟨gr, 0, none⟩ = some (.string (⟨#[]⟩ : ByteArray)) := (bC BKr.out 0).trans rfl; have hcr1 : w6.cell? ⟨gr, 1, none⟩ = some (.slice none 0 0) := (bC BKr.out 1).trans rfl; have hfr0 := bF BKr.out 0; have hfr1 := bF BKr.out 1) | (go_at_call 73; (with_reducible refine (impl_Device_has.calls a0_0 _ _ l0_1 a1 false _ ?side1 ?side2 U.out).mono ?_); (case side1 => exact Kd.C_below HR.out HB.out); (case side2 => exact HC.out); rintro e w7 ⟨rfl, hb⟩; have n0_ := mK (lT HB.out hb); have n1_ := mK (bB BK.out hb); have n2_ := mK (bB BKr.out hb); clear HB BK BKr hcz0 hcz1 hcr0 hcr1 hfr0 hfr1; have HB := n0_; have BK := n1_; have BKr := n2_; clear n0_ n1_ n2_ hb; have hcz0 : w7.cell? ⟨gd, 0, none⟩ = some (.string a0_0) := (bC BK.out 0).trans rfl; have hcz1 : w7.cell? ⟨gd, 1, none⟩ = some (.slice A0_1 l0_1.length c0_1) := (bC BK.out 1).trans rfl; have hcr0 : w7.cell? ⟨gr, 0, none⟩ = some (.string (⟨#[]⟩ : ByteArray)) := (bC BKr.out 0).trans rfl; have hcr1 : w7.cell? ⟨gr, 1, none⟩ = some (.slice none 0 0) := (bC BKr.out 1).trans rfl; have hfr0 := bF BKr.out 0; have hfr1 := bF BKr.out 1)); refine bodyPost_ret (results_ct rfl _ _ gr 30 #[.string (⟨#[]⟩ : ByteArray), .slice none 0 0] (0, 0) _ rfl (by refine blk_put (cs := #[.string (⟨#[]⟩ : ByteArray), .slice none 0 0]) ?_ 1 _ rfl; refine blk_put (cs := #[.string (⟨#[]⟩ : ByteArray), .slice none 0 0]) ?_ 0 _ rfl; exact BKr.out) Try.underlying30 rfl (by kernel_rfl)) rfl ?_; exact ⟨_, rfl, Kd.R_nil _ _ _ _ _, lS (lS HB.out GEr.out) GEr.out⟩
 ·replace ct := Bool.eq_false_iff.mpr ct; subst ct; rw [if_neg (by decide)] at h; simp only [Option.some.injEq, Prod.mk.injEq] at h; obtain ⟨rfl, rfl, rfl⟩ := h; go_enter Try.func36, Try.ntmps36; go_wp2_with (first | ((with_reducible refine gate_dst (N := 2) rfl ?_); refine box_event ?hg (N := 2) ?hd (cs := #[.string a0_0, .slice A0_1 l0_1.length c0_1]) (t := 30) ?hr ?_; (case hd => rfl); (case hg => rfl); (case hr => first | (go_simp; done) | (go_simp; rfl)); intro gd hg w4 hbox hb; have n0_ := mK (lT HB.out hb); have n1_ := mK hbox; have n3_ := mK (by rw [hg]; exact (below_size HB.out) : w.heap.size ≤ gd); clear HB; have HB := n0_; have BK := n1_; have GE := n3_; clear n0_ n1_ n3_; clear hb hbox hg; have hcz0 : w4.cell? ⟨gd, 0, none⟩ = some (.string a0_0) := (bC BK.out 0).trans rfl; have hcz1 : w4.cell? ⟨gd, 1, none⟩ = some (.slice A0_1 l0_1.length c0_1) := (bC BK.out 1).trans rfl) | ((with_reducible refine gate_dst (N := 4) rfl ?_); refine box_event ?hg (N := 4) ?hd (cs := #[.string (⟨#[]⟩ : ByteArray), .slice none 0 0]) (t := 30) ?hr ?_; (case hd => rfl); (case hg => rfl); (case hr => first | (go_simp; done) | (go_simp; rfl)); intro gr hg w5 hbox hb; have n0_ := mK (lT HB.out hb); have n1_ := mK hbox; have n2_ := mK (bB BK.out hb); have n3_ := mK (by rw [hg]; exact (below_size HB.out) : w.heap.size ≤ gr); have n4_ := mK (by rw [hg]; exact Nat.ne_of_lt (blk_lt BK.out) : gd ≠ gr); clear HB BK hcz0 hcz1; have HB := n0_; have BKr := n1_; have BK := n2_; have GEr := n3_; have NEr := n4_; clear n0_ n1_ n2_ n3_ n4_; clear hb hbox hg; have hcz0 : w5.cell? ⟨gd, 0, none⟩ = some (.string a0_0) := (bC BK.out 0).trans rfl; have hcz1 : w5.cell? ⟨gd, 1, none⟩ = some (.slice A0_1 l0_1.length c0_1) := (bC BK.out 1).trans rfl; have hcr0 : w5.cell? ⟨gr, 0, none⟩ = some (.string (⟨#[]⟩ : ByteArray)) := (bC BKr.out 0).trans rfl; have hcr1 : w5.cell? ⟨gr, 1, none⟩ = some (.slice none 0 0) := (bC BKr.out 1).trans rfl; have hfr0 := bF BKr.out 0; have hfr1 := bF BKr.out 1) | (go_at_call 45; (with_reducible refine (impl_DeviceOk.calls k a0_0 _ _ l0_1 false _ ?side1 ?side2 T.out).mono ?_); (case side1 => exact Kd.C_below HR.out HB.out); (case side2 => exact HC.out); rintro e w6 ⟨rfl, hb⟩; have n0_ := mK (lT HB.out hb); have n1_ := mK (bB BK.out hb); have n2_ := mK (bB BKr.out hb); clear HB BK BKr hcz0 hcz1 hcr0 hcr1 hfr0 hfr1; have HB := n0_; have BK := n1_; have BKr := n2_; clear n0_ n1_ n2_ hb; have hcz0 : w6.cell? ⟨gd, 0, none⟩ = some (.string a0_0) := (bC BK.out 0).trans rfl; have hcz1 : w6.cell? ⟨gd, 1, none⟩ = some (.slice A0_1 l0_1.length c0_1) := (bC BK.out 1).trans rfl; have hcr0 : w6.cell? ⟨gr, 0, none⟩ = some (.string (⟨#[]⟩ : ByteArray)) := (bC BKr.out 0).trans rfl; have hcr1 : w6.cell? ⟨gr, 1, none⟩ = some (.slice none 0 0) := (bC BKr.out 1).trans rfl; have hfr0 := bF BKr.out 0; have hfr1 := bF BKr.out 1)); refine bodyPost_ret (results_ct rfl _ _ gr 30 #[.string (⟨#[]⟩ : ByteArray), .slice none 0 0] (0, 0) _ rfl (by refine blk_put (cs := #[.string (⟨#[]⟩ : ByteArray), .slice none 0 0]) ?_ 1 _ rfl; refine blk_put (cs := #[.string (⟨#[]⟩ : ByteArray), .slice none 0 0]) ?_ 0 _ rfl; exact BKr.out) Try.underlying30 rfl (by kernel_rfl)) rfl ?_; exact ⟨_, rfl, Kd.R_nil _ _ _ _ _, lS (lS HB.out GEr.out) GEr.out⟩


/-! ### laws_big: function 41 -/
def laws_big.f (l0 : List Int) : Option (Bool) := some (decide ((l0.length : Int) > 1048576))
set_option maxHeartbeats 8000000 in
set_option maxRecDepth 100000 in
theorem laws_big.calls (A0 : Option Addr) (c0 : Nat) (l0 : List Int) (r : Bool) (w : World) (hr0 : Kd.C (Kd.int .u8) w A0 l0.length l0) (hc0 : l0.length ≤ c0) (h : laws_big.f l0 = some r) :
    Calls Try.prog 41 #[.slice A0 l0.length c0] w fun e w' => e = .returned (.bool r) ∧ Drawn0 w w' := by
 have HR0 := mK hr0; have HC0 := mK hc0; clear hr0 hc0; have H : (some (decide ((l0.length : Int) > 1048576))) = some r := h; clear h; obtain rfl := Option.some.inj H; go_enter Try.func41, Try.ntmps41; go_wp2; go_ret; exact ⟨by first | rfl | (simp; done) | (simp [*]; done), by repeat (first | exact Drawn0.refl _ | apply Drawn0.step)⟩

/-- A state of type 109 at block g of W; what its slices lead to came in by w0. -/
def IsS109 (w0 W : World) (g : Nat) (f0 : List Int) (f1 : Int) : Prop := ∃ A0 c0, W.heap[g]? = some (.cells #[.slice A0 f0.length c0, .int .i64 f1] 109 (0, 0)) ∧ w0.heap.size ≤ g ∧ Kd.C (Kd.int .u8) w0 A0 f0.length f0
theorem IsS109.grown {w0 W : World} {g : Nat} {f0 : List Int} {f1 : Int} {W1 : World} {row : Option Nat} (h : IsS109 w0 W g f0 f1) (hw : W.grownBy W1 row) (hne : some g ≠ row) : IsS109 w0 W1 g f0 f1 := by
  obtain ⟨A0, c0, hb, hg, hr0⟩ := h
  exact ⟨A0, c0, blk_grown hb hw hne, hg, hr0⟩
theorem IsS109.own_neN {w0 W : World} {g : Nat} {f0 : List Int} {f1 : Int} {α : Type} {d : Kd α} {e : Nat} {base : Nat} {ok : Nat → Prop} {v : Value} {xs : List α} (h : IsS109 w0 W g f0 f1) (ho : Kd.N d e W base ok v xs) (ht : e ≠ 109) : some g ≠ v.ownBlock := by
  obtain ⟨A0, c0, hb, hg, hr0⟩ := h
  exact Kd.N_ne ho hb ht
theorem IsS109.fresh {w0 W : World} {g : Nat} {f0 : List Int} {f1 : Int} (h : IsS109 w0 W g f0 f1) : ∀ k, W.heap.size ≤ k → k ≠ g := by
  obtain ⟨A0, c0, hb, hg, hr0⟩ := h
  exact Kd.freshB hb
theorem IsS109.kept {w0 W : World} {g : Nat} {f0 : List Int} {f1 : Int} {W1 : World} {S : Nat → Prop} (h : IsS109 w0 W g f0 f1) (hk : Kept W W1 S) (hne : ¬ S g) : IsS109 w0 W1 g f0 f1 := by
  obtain ⟨A0, c0, hb, hg, hr0⟩ := h
  exact ⟨A0, c0, blk_kept hb hk hne, hg, hr0⟩
theorem IsS109.below {w0 W : World} {g : Nat} {f0 : List Int} {f1 : Int} {W1 : World} (h : IsS109 w0 W g f0 f1) (hw : Below W.heap.size W W1) : IsS109 w0 W1 g f0 f1 := h.grown (grown_of_below hw none) (by simp)
theorem IsS109.alloc {w0 W : World} {g : Nat} {f0 : List Int} {f1 : Int} (h : IsS109 w0 W g f0 f1) (o : Obj) : IsS109 w0 (W.alloc o) g f0 f1 := h.below (lA (Below.refl _ _) o)
theorem IsS109.drewN {w0 W : World} {g : Nat} {f0 : List Int} {f1 : Int} (h : IsS109 w0 W g f0 f1) (m : Nat) : IsS109 w0 (W.drewN m) g f0 f1 := h
theorem IsS109.drew {w0 W : World} {g : Nat} {f0 : List Int} {f1 : Int} (h : IsS109 w0 W g f0 f1) : IsS109 w0 W.drew g f0 f1 := h
theorem IsS109.at_ {w0 W : World} {g : Nat} {f0 : List Int} {f1 : Int} {w' : World} {m : Nat} (hq : W.drewN m = w') (h : IsS109 w0 W g f0 f1) : IsS109 w0 w' g f0 f1 := by subst hq; exact IsS109.drewN h m
theorem IsS109.apart {w0 W : World} {g : Nat} {f0 : List Int} {f1 : Int} {α : Type} {d : Kd α} {e : Nat} {base : Nat} {ok : Nat → Prop} {v : Value} {xs : List α} (h : IsS109 w0 W g f0 f1) (ho : d.R e W base ok v xs) (ht : ∀ q, q ∈ e :: d.E → q ≠ 109) : d.R e W base (fun k => ok k ∧ k ≠ g) v xs := by
  obtain ⟨A0, c0, hb, hg, hr0⟩ := h
  exact Kd.R_types ho hb ht
theorem IsS109.own_ne {w0 W : World} {g : Nat} {f0 : List Int} {f1 : Int} {α : Type} {d : Kd α} {e : Nat} {base : Nat} {ok : Nat → Prop} {v : Value} {xs : List α} (h : IsS109 w0 W g f0 f1) (ho : d.R e W base ok v xs) (ht : e ≠ 109) : some g ≠ v.ownBlock := by
  obtain ⟨A0, c0, hb, hg, hr0⟩ := h
  exact Kd.R_ne ho hb ht
theorem IsS109.apartQ {w0 W : World} {g : Nat} {f0 : List Int} {f1 : Int} {α : Type} {d : Kd α} {e : Nat} {base : Nat} {ok : Nat → Prop} {v : Value} {xs : List α} (h : IsS109 w0 W g f0 f1) (ho : d.Q e W base ok v xs) (ht : ∀ q, q ∈ e :: d.E → q ≠ 109) : d.Q e W base (fun k => ok k ∧ k ≠ g) v xs := by
  obtain ⟨A0, c0, hb, hg, hr0⟩ := h
  exact Kd.Q_types ho hb ht
theorem IsS109.own_neQ {w0 W : World} {g : Nat} {f0 : List Int} {f1 : Int} {α : Type} {d : Kd α} {e : Nat} {base : Nat} {ok : Nat → Prop} {v : Value} {xs : List α} (h : IsS109 w0 W g f0 f1) (ho : d.Q e W base ok v xs) (ht : e ≠ 109) : some g ≠ v.ownBlock := by
  obtain ⟨A0, c0, hb, hg, hr0⟩ := h
  exact Kd.Q_ne ho hb ht
theorem IsS109.apartS {w0 W : World} {g : Nat} {f0 : List Int} {f1 : Int} {α : Type} {d : Kd α} {e : Nat} {base : Nat} {ok : Nat → Prop} {v : Value} {xs : List α} (h : IsS109 w0 W g f0 f1) (ho : d.S e W base ok v xs) (ht : ∀ q, q ∈ e :: d.E → q ≠ 109) : d.S e W base (fun k => ok k ∧ k ≠ g) v xs := by
  obtain ⟨A0, c0, hb, hg, hr0⟩ := h
  exact Kd.S_types ho hb ht
theorem IsS109.own_neS {w0 W : World} {g : Nat} {f0 : List Int} {f1 : Int} {α : Type} {d : Kd α} {e : Nat} {base : Nat} {ok : Nat → Prop} {v : Value} {xs : List α} (h : IsS109 w0 W g f0 f1) (ho : d.S e W base ok v xs) (ht : e ≠ 109) : some g ≠ v.ownBlock := by
  obtain ⟨A0, c0, hb, hg, hr0⟩ := h
  exact Kd.S_ne ho hb ht
theorem IsS109.lt {w0 W : World} {g : Nat} {f0 : List Int} {f1 : Int} (h : IsS109 w0 W g f0 f1) : g < W.heap.size := by
  obtain ⟨A0, c0, hb, hg, hr0⟩ := h
  exact blk_lt hb
theorem IsS109.ge {w0 W : World} {g : Nat} {f0 : List Int} {f1 : Int} (h : IsS109 w0 W g f0 f1) : w0.heap.size ≤ g := by
  obtain ⟨A0, c0, hb, hg, hr0⟩ := h
  exact hg
theorem IsS109.ne_blk {w0 W : World} {g : Nat} {f0 : List Int} {f1 : Int} {a : Nat} {cs : Array Value} {t : TypeId} {fr : Nat × Nat} (h : IsS109 w0 W g f0 f1) (hb2 : W.heap[a]? = some (.cells cs t fr)) (ht : t ≠ 109) : g ≠ a := by
  obtain ⟨A0, c0, hb, hg, hr0⟩ := h
  rintro rfl
  rw [hb] at hb2
  injection hb2 with hb2
  injection hb2 with _ ht2
  exact ht ht2.symm
theorem IsS109.far {w0 W : World} {g : Nat} {f0 : List Int} {f1 : Int} {p : Addr} (h : IsS109 w0 W g f0 f1) (hne : g ≠ p.block) (u : Value) : IsS109 w0 (W.setCell p u) g f0 f1 := by
  obtain ⟨A0, c0, hb, hg, hr0⟩ := h
  exact ⟨A0, c0, blk_far hb hne u, hg, hr0⟩
theorem cellS109_0 {W : World} {g : Nat} {A0 : Option Addr} {c0 : Nat} {f0 : List Int} {f1 : Int} (h : W.heap[g]? = some (.cells #[.slice A0 f0.length c0, .int .i64 f1] 109 (0, 0))) : W.cell? ⟨g, 0, none⟩ = some (.slice A0 f0.length c0) := (bC h 0).trans rfl
theorem cellS109_1 {W : World} {g : Nat} {A0 : Option Addr} {c0 : Nat} {f0 : List Int} {f1 : Int} (h : W.heap[g]? = some (.cells #[.slice A0 f0.length c0, .int .i64 f1] 109 (0, 0))) : W.cell? ⟨g, 1, none⟩ = some (.int .i64 f1) := (bC h 1).trans rfl
theorem IsS109.set_1 {w0 W : World} {g : Nat} {f0 : List Int} {f1 : Int} (h : IsS109 w0 W g f0 f1) (x : Int) : IsS109 w0 (W.setCell ⟨g, 1, none⟩ (.int .i64 x)) g f0 x := by
  obtain ⟨A0, c0, hb, hg, hr0⟩ := h
  exact ⟨A0, c0, by simpa using blk_set hb 1 (.int .i64 x), hg, hr0⟩
theorem IsS109.new (w0 W : World) (A0 : Option Addr) (c0 : Nat) (f0 : List Int) (f1 : Int) (hB : Below w0.heap.size w0 W) (hr0 : Kd.C (Kd.int .u8) w0 A0 f0.length f0) : IsS109 w0 (W.alloc (.cells #[.slice A0 f0.length c0, .int .i64 f1] 109)) W.heap.size f0 f1 := ⟨A0, c0, by simpa using heap_alloc_new W _, hB.size, hr0⟩

/-! ### spec_l1Open: function 80 -/
def spec_l1Open.f (l0 : List Int) : Option (List Int × Int) := some (l0, 0)
set_option maxHeartbeats 8000000 in
set_option maxRecDepth 100000 in
theorem spec_l1Open.calls (A0 : Option Addr) (c0 : Nat) (l0 : List Int) (r1 : List Int) (r2 : Int) (w0 w : World) (hB : Below w0.heap.size w0 w) (hr0 : Kd.C (Kd.int .u8) w0 A0 l0.length l0) (hc0 : l0.length ≤ c0) (h : spec_l1Open.f l0 = some (r1, r2)) :
    Calls Try.prog 80 #[.slice A0 l0.length c0] w fun e w' => ∃ g_ : Nat, e = .returned (.pointer (some ⟨g_, 0, none⟩)) ∧ IsS109 w0 w' g_ r1 r2 ∧ Below w0.heap.size w0 w' ∧ Below w.heap.size w w' := by
 have hu109 := Try.underlying109; have HR0 := mK hr0; have HC0 := mK hc0; clear hr0 hc0; have HBW := mK (Below.refl w.heap.size w); have HW0 := mK hB.size; have HB := mK hB; clear hB; have H : (some (l0, 0)) = some (r1, r2) := h; clear h; simp only [Option.some.injEq, Prod.mk.injEq] at H; obtain ⟨rfl, rfl⟩ := H; go_enter Try.func80, Try.ntmps80; go_wp2_with (first | ((with_reducible refine gate_dst (N := 5) rfl ?_); refine box_event ?hg (N := 5) ?hd (cs := #[.slice A0 l0.length c0, .int .i64 0]) (t := 109) ?hr ?_; (case hd => rfl); (case hg => rfl); (case hr => first | (go_simp; done) | (go_simp; rfl)); intro gb142 hg w2 hbox hb; have n0_ := mK (lT HBW.out hb); have n1_ := mK (lT (by repeat (first | (with_reducible first | exact HB.out | apply lA | apply lN | apply lD) | exact HB.out)) hb); have n2_ := mK (hbox); have n3_ := mK ((by rw [hg]; exact (below_size (by repeat (first | (with_reducible first | exact HBW.out | apply lA | apply lN | apply lD) | exact HBW.out))) : w.heap.size ≤ gb142)); have n4_ := mK ((Nat.le_trans HW0.out (by rw [hg]; exact (below_size (by repeat (first | (with_reducible first | exact HBW.out | apply lA | apply lN | apply lD) | exact HBW.out))) : w.heap.size ≤ gb142) : w0.heap.size ≤ gb142)); clear HBW; clear HB; have HBW := n0_; have HB := n1_; have BK142 := n2_; have GW142 := n3_; have GE142 := n4_; clear n0_ n1_ n2_ n3_ n4_; clear hb hbox hg)); go_ret; exact ⟨_, rfl, (show IsS109 w0 _ gb142 l0 0 from ⟨_, _, by (with_reducible repeat (first | apply bN | apply bD | apply bA)); exact BK142.out, GE142.out, HR0.out⟩), by repeat (first | (with_reducible first | exact HB.out | apply lA | apply lN | apply lD | refine lS ?_ GE142.out) | exact HB.out), by repeat (first | (with_reducible first | exact HBW.out | apply lA | apply lN | apply lD | refine lS ?_ GW142.out) | exact HBW.out)⟩

end Go.Proofs.Ytbbbajnnoficbaa.PFnFenced
