-- by a patched copy of the print (wip/tools/patch_print.py)
import Derived.Test.YtknllhfhcgahiaaDoorPFnExactReadObjectx0
import Derived.Test.YtknllhfhcgahiaaDoorPFnExactReadObjectx2
import Derived.Test.YtknllhfhcgahiaaDoorPFnExactReadObjectx3
namespace Go.Proofs.YtknllhfhcgahiaaDoor.PFnExactReadObject
open Go.RowKit Go.Proofs.YtknllhfhcgahiaaDoorW.PrintWords Go.Proofs.YtknllhfhcgahiaaDoorW.PrintLast Go.Proofs.YtknllhfhcgahiaaDoorW.PrintMore
attribute [local go_sem] max2_int min2_int max_two min_two max_three min_three max_four min_four   -- for this text's walks alone
open Go.Proofs.YtknllhfhcgahiaaDoorW.PrintWords renaming blk_drewN → bN, blk_drew → bD, blk_alloc → bA, below_alloc → lA, pw_below_drewN → lN, below_drew1 → lD, below_set → lS, below_step → lT, blk_below → bB, blk_cell → bC, blk_frozen → bF
open Go.Proofs.YtknllhfhcgahiaaDoorW.PrintWords.Aside0 renaming mk → mK
set_option linter.unusedVariables false
set_option linter.unusedSimpArgs false

/-! ### spec_ReadObject: function 55 -/
theorem spec_ReadObject.info2 : (Tryd.prog.info? 2).map (fun i => (i.zero, i.size, i.bytes)) = some (some (.int .i64 0), 1, 8) := by kernel_rfl
mutual
def spec_ReadObject.j0 : Nat → List ByteArray → ByteArray → Bool → Option (Int × List Int × Bool)
  | 0, _, _, _ => none
  | k + 1, x0, x1, x19 => if x19 = true then (some (0, ([] : List Int), false)) else (if 0 ≤ 8 then (if 8 ≤ (x1.size : Int) then ((spec_ReadWord.f k (x1.extract 0 8)).bind fun bt150 => ((spec_l1In.f bt150.1 1 (x0.length : Int)).bind fun t152 => (if t152 = true then (if 0 ≤ (wrap64 (bt150.1 - 1)) then (if (wrap64 (bt150.1 - 1)) < (x0.length : Int) then ((spec_RunOf.f k (rdOf ByteArray.empty x0 (wrap64 (bt150.1 - 1)))).bind fun t154 => (spec_ReadObject.j1 k x0 x1 bt150.1 ((x1.size : Int) != (wrap64 (64 * t154))))) else (none)) else (none)) else (spec_ReadObject.j1 k x0 x1 bt150.1 true)))) else (none)) else (none))
def spec_ReadObject.j1 : Nat → List ByteArray → ByteArray → Int → Bool → Option (Int × List Int × Bool)
  | 0, _, _, _, _ => none
  | k + 1, x0, x1, x6, x43 => if x43 = true then (some (0, ([] : List Int), false)) else (spec_ReadObject.l0 k x0 x1 x6 0 (wrap64 (x6 - 1)) ([] : List Int))
def spec_ReadObject.l0 : Nat → List ByteArray → ByteArray → Int → Int → Int → List Int → Option (Int × List Int × Bool)
  | 0, _, _, _, _, _, _ => none
  | k + 1, x0, x1, x6, x9, x156000, x156001 => if 0 ≤ (wrap64 (x6 - 1)) then (if (wrap64 (x6 - 1)) < (x0.length : Int) then (if x9 < ((rdOf ByteArray.empty x0 (wrap64 (x6 - 1))).size : Int) then (if 0 ≤ (wrap64 (8 + (wrap64 (8 * x9)))) then (if (wrap64 (8 + (wrap64 (8 * x9)))) ≤ (wrap64 (16 + (wrap64 (8 * x9)))) then (if (wrap64 (16 + (wrap64 (8 * x9)))) ≤ (x1.size : Int) then ((spec_ReadWord.f k (x1.extract ((wrap64 (8 + (wrap64 (8 * x9)))) : Int).toNat ((wrap64 (16 + (wrap64 (8 * x9)))) : Int).toNat)).bind fun bt157 => (if x156001.length < 17592186044416 then (spec_ReadObject.l0 k x0 x1 x6 (wrap64 (x9 + 1)) x156000 (x156001 ++ [bt157.1])) else (none))) else (none)) else (none)) else (none)) else ((spec_ObjectBytes.f k x0 x156000 x156001).bind fun t162 => (if t162.toList = x1.toList then (some (x156000, x156001, true)) else (some (0, ([] : List Int), false))))) else (none)) else (none)
end
def spec_ReadObject.f (k : Nat) (l0 : List ByteArray) (a1 : ByteArray) : Option (Int × List Int × Bool) := (spec_TypesOk.f k l0).bind fun t149 => (if t149 = true then (spec_ReadObject.j0 k l0 a1 (decide ((a1.size : Int) < 64))) else (spec_ReadObject.j0 k l0 a1 true))
theorem spec_ReadObject.mono_l : ∀ k, (∀ y0 y1 y2, LeO (spec_ReadObject.j0 k y0 y1 y2) (spec_ReadObject.j0 (k + 1) y0 y1 y2)) ∧ (∀ y0 y1 y2 y3, LeO (spec_ReadObject.j1 k y0 y1 y2 y3) (spec_ReadObject.j1 (k + 1) y0 y1 y2 y3)) ∧ (∀ y0 y1 y2 y3 y4 y5, LeO (spec_ReadObject.l0 k y0 y1 y2 y3 y4 y5) (spec_ReadObject.l0 (k + 1) y0 y1 y2 y3 y4 y5))
  | 0 => ⟨fun _ _ _ r h => by simp [spec_ReadObject.j0] at h, fun _ _ _ _ r h => by simp [spec_ReadObject.j1] at h, fun _ _ _ _ _ _ r h => by simp [spec_ReadObject.l0] at h⟩
  | k + 1 => by
    obtain ⟨ih0, ih1, ih2⟩ := spec_ReadObject.mono_l k
    refine ⟨?_, ?_, ?_⟩
    · intro y0 y1 y2
      unfold spec_ReadObject.j0
      repeat' first
      | (with_reducible exact ih0 _ _ _)
      | (with_reducible exact ih1 _ _ _ _)
      | (with_reducible exact ih2 _ _ _ _ _ _)
      | (with_reducible exact spec_ObjectBytes.mono _ _ _ _)
      | (with_reducible exact spec_ReadWord.mono _ _)
      | (with_reducible exact spec_RunOf.mono _ _)
      | (with_reducible exact spec_TypesOk.mono _ _)
      | (with_reducible exact LeO.refl _)
      | (with_reducible exact LeO.none _)
      | (with_reducible refine LeO.ite ?_ ?_)
      | (with_reducible refine LeO.bind ?_ (fun _ => ?_))
      | exact ih0 _ _ _
      | exact ih1 _ _ _ _
      | exact ih2 _ _ _ _ _ _
      | exact spec_ObjectBytes.mono _ _ _ _
      | exact spec_ReadWord.mono _ _
      | exact spec_RunOf.mono _ _
      | exact spec_TypesOk.mono _ _
      | exact LeO.none _
      | refine LeO.ite ?_ ?_
      | refine LeO.bind ?_ (fun _ => ?_)
    · intro y0 y1 y2 y3
      unfold spec_ReadObject.j1
      repeat' first
      | (with_reducible exact ih0 _ _ _)
      | (with_reducible exact ih1 _ _ _ _)
      | (with_reducible exact ih2 _ _ _ _ _ _)
      | (with_reducible exact spec_ObjectBytes.mono _ _ _ _)
      | (with_reducible exact spec_ReadWord.mono _ _)
      | (with_reducible exact spec_RunOf.mono _ _)
      | (with_reducible exact spec_TypesOk.mono _ _)
      | (with_reducible exact LeO.refl _)
      | (with_reducible exact LeO.none _)
      | (with_reducible refine LeO.ite ?_ ?_)
      | (with_reducible refine LeO.bind ?_ (fun _ => ?_))
      | exact ih0 _ _ _
      | exact ih1 _ _ _ _
      | exact ih2 _ _ _ _ _ _
      | exact spec_ObjectBytes.mono _ _ _ _
      | exact spec_ReadWord.mono _ _
      | exact spec_RunOf.mono _ _
      | exact spec_TypesOk.mono _ _
      | exact LeO.none _
      | refine LeO.ite ?_ ?_
      | refine LeO.bind ?_ (fun _ => ?_)
    · intro y0 y1 y2 y3 y4 y5
      unfold spec_ReadObject.l0
      repeat' first
      | (with_reducible exact ih0 _ _ _)
      | (with_reducible exact ih1 _ _ _ _)
      | (with_reducible exact ih2 _ _ _ _ _ _)
      | (with_reducible exact spec_ObjectBytes.mono _ _ _ _)
      | (with_reducible exact spec_ReadWord.mono _ _)
      | (with_reducible exact spec_RunOf.mono _ _)
      | (with_reducible exact spec_TypesOk.mono _ _)
      | (with_reducible exact LeO.refl _)
      | (with_reducible exact LeO.none _)
      | (with_reducible refine LeO.ite ?_ ?_)
      | (with_reducible refine LeO.bind ?_ (fun _ => ?_))
      | exact ih0 _ _ _
      | exact ih1 _ _ _ _
      | exact ih2 _ _ _ _ _ _
      | exact spec_ObjectBytes.mono _ _ _ _
      | exact spec_ReadWord.mono _ _
      | exact spec_RunOf.mono _ _
      | exact spec_TypesOk.mono _ _
      | exact LeO.none _
      | refine LeO.ite ?_ ?_
      | refine LeO.bind ?_ (fun _ => ?_)
theorem spec_ReadObject.mono : ∀ a0 a1 k, LeO (spec_ReadObject.f k a0 a1) (spec_ReadObject.f (k + 1) a0 a1) := by
  intro a0 a1 k
  obtain ⟨ih0, ih1, ih2⟩ := spec_ReadObject.mono_l k
  unfold spec_ReadObject.f
  repeat' first
      | (with_reducible exact ih0 _ _ _)
      | (with_reducible exact ih1 _ _ _ _)
      | (with_reducible exact ih2 _ _ _ _ _ _)
      | (with_reducible exact spec_ObjectBytes.mono _ _ _ _)
      | (with_reducible exact spec_ReadWord.mono _ _)
      | (with_reducible exact spec_RunOf.mono _ _)
      | (with_reducible exact spec_TypesOk.mono _ _)
      | (with_reducible exact LeO.refl _)
      | (with_reducible exact LeO.none _)
      | (with_reducible refine LeO.ite ?_ ?_)
      | (with_reducible refine LeO.bind ?_ (fun _ => ?_))
      | exact ih0 _ _ _
      | exact ih1 _ _ _ _
      | exact ih2 _ _ _ _ _ _
      | exact spec_ObjectBytes.mono _ _ _ _
      | exact spec_ReadWord.mono _ _
      | exact spec_RunOf.mono _ _
      | exact spec_TypesOk.mono _ _
      | exact LeO.none _
      | refine LeO.ite ?_ ?_
      | refine LeO.bind ?_ (fun _ => ?_)
set_option maxHeartbeats 8000000 in
set_option maxRecDepth 100000 in
theorem spec_ReadObject.calls (k : Nat) (A0 : Option Addr) (c0 : Nat) (l0 : List ByteArray) (a1 : ByteArray) (r1 : Int) (r2 : List Int) (r3 : Bool) (w : World) (hr0 : Kd.C Kd.string w A0 l0.length l0) (hc0 : l0.length ≤ c0) (h : spec_ReadObject.f k l0 a1 = some (r1, r2, r3)) :
    Calls Tryd.prog 55 #[.slice A0 l0.length c0, .string a1] w fun e w' => ∃ v1_ : Value, e = .returned (.tuple #[.agg #[.int .i64 r1, v1_], .bool r3]) ∧ Kd.R (Kd.int .i64) 2 w' w.heap.size (fun _ => True) v1_ r2 ∧ Below w.heap.size w w' := by
 have hu46 := Tryd.underlying46; have HR0 := mK hr0; have HC0 := mK hc0; clear hr0 hc0; have HB := mK (Below.refl w.heap.size w); have H : ((spec_TypesOk.f k l0).bind fun t149 => (if t149 = true then (spec_ReadObject.j0 k l0 a1 (decide ((a1.size : Int) < 64))) else (spec_ReadObject.j0 k l0 a1 true))) = some (r1, r2, r3) := h; clear h; have HC3 := mK H; clear H; go_enter Tryd.func55, Tryd.ntmps55; go_upto_region 1 with (first | ((with_reducible refine gate_dst (N := 4) rfl ?_); (try (refine gate_guard (by rfl) ?_; dsimp only)); refine box_event ?hg (N := 4) ?hd (cs := #[.int .i64 0, .slice none 0 0]) (t := 46) ?hr ?_; (case hd => rfl); (case hg => rfl); (case hr => first | (go_simp; done) | (go_simp; rfl)); intro gb148 hg w4 hbox hb; have n0_ := mK (lT (by repeat (first | (with_reducible first | exact HB.out | apply lA | apply lN | apply lD) | exact HB.out)) hb); have n1_ := mK (hbox); have n2_ := mK ((by rw [hg]; exact (below_size (by repeat (first | (with_reducible first | exact HB.out | apply lA | apply lN | apply lD) | exact HB.out))) : w.heap.size ≤ gb148)); have n3_ := mK ((by rw [hg]; exact (below_size (by repeat (first | (with_reducible first | exact HB.out | apply lA | apply lN | apply lD) | exact HB.out))) : w.heap.size ≤ gb148)); clear HB; have HB := n0_; have BK148 := n1_; have GW148 := n2_; have GE148 := n3_; clear n0_ n1_ n2_ n3_; clear hb hbox hg)); (try simp only [Act.put, sI_, s0_, sS_]); go_cut [19] (fun v19 wc => ∃ (kq : Nat) (x19_2 : Bool), v19 = .bool x19_2 ∧ Aside0 (spec_ReadObject.j0 kq l0 a1 x19_2 = some (r1, r2, r3)) ∧ Aside0 (kq ≤ k) ∧ Aside0 (wc.heap[gb148]? = some (.cells #[.int .i64 0, (.slice none 0 0)] 46 (0, 0))) ∧ Aside0 (Below w.heap.size w wc))
 case first =>
  have H := HC3.out; clear HC3; replace H := Option.bind_eq_some_iff.mp H; obtain ⟨t149, A50, H⟩ := H; replace H : (if t149 = true then (spec_ReadObject.j0 k l0 a1 (decide ((a1.size : Int) < 64))) else (spec_ReadObject.j0 k l0 a1 true)) = some (r1, r2, r3) := H; have A5 := mK A50; clear A50; by_cases c6 : t149 = true
  ·subst c6; (have H1 : (spec_ReadObject.j0 k l0 a1 (decide ((a1.size : Int) < 64))) = some (r1, r2, r3) := by rw [if_pos rfl] at H; exact H); clear H; have H := H1; clear H1; have H' := mK H; clear H; go_wp2_with (first | ((with_reducible refine gate_callee (f := 21) rfl ?_); refine goesL_ (some 13) rfl rfl Tryd.func21 (by kernel_rfl) rfl #[.slice A0 l0.length c0] rfl (by (try simp only [List.map_toArray, List.map_cons, List.map_nil]); first | done | rfl | (simp only [List.length_drop, List.length_take]; rfl)) ?_; (with_reducible refine (spec_TypesOk.calls k _ _ l0 true _ ?side1 ?side2 A5.out).mono ?_); (case side1 => repeat (first | exact (Kd.C_below HR0.out HB.out) | (with_reducible refine Kd.C_alloc ?_ _) | (with_reducible refine Kd.C_drewN ?_ _) | (with_reducible refine Kd.C_drew ?_))); (case side2 => exact HC0.out); rintro e w' ⟨rfl, ⟨nd, rfl⟩⟩; refine ⟨_, rfl, ?_⟩)); go_meet; (case rel => exact ⟨_, (decide ((a1.size : Int) < 64)), (by first | rfl | (simp; done) | (simp [*]; done)), H', ⟨by first | omega | exact Nat.le_refl _⟩, ⟨by (with_reducible repeat (first | apply bN | apply bD | apply bA)); exact BK148.out⟩, ⟨by repeat (first | (with_reducible first | exact HB.out | apply lA | apply lN | apply lD | refine lS ?_ GE148.out) | exact HB.out)⟩⟩)
  ·replace c6 := Bool.eq_false_iff.mpr c6; subst c6; (have H1 : (spec_ReadObject.j0 k l0 a1 true) = some (r1, r2, r3) := by rw [if_neg (show ¬ (false = true) by decide)] at H; exact H); clear H; have H := H1; clear H1; have H' := mK H; clear H; go_wp2_with (first | ((with_reducible refine gate_callee (f := 21) rfl ?_); refine goesL_ (some 13) rfl rfl Tryd.func21 (by kernel_rfl) rfl #[.slice A0 l0.length c0] rfl (by (try simp only [List.map_toArray, List.map_cons, List.map_nil]); first | done | rfl | (simp only [List.length_drop, List.length_take]; rfl)) ?_; (with_reducible refine (spec_TypesOk.calls k _ _ l0 false _ ?side1 ?side2 A5.out).mono ?_); (case side1 => repeat (first | exact (Kd.C_below HR0.out HB.out) | (with_reducible refine Kd.C_alloc ?_ _) | (with_reducible refine Kd.C_drewN ?_ _) | (with_reducible refine Kd.C_drew ?_))); (case side2 => exact HC0.out); rintro e w' ⟨rfl, ⟨nd, rfl⟩⟩; refine ⟨_, rfl, ?_⟩)); go_meet; (case rel => exact ⟨_, (true), (by first | rfl | (simp; done) | (simp [*]; done)), H', ⟨by first | omega | exact Nat.le_refl _⟩, ⟨by (with_reducible repeat (first | apply bN | apply bD | apply bA)); exact BK148.out⟩, ⟨by repeat (first | (with_reducible first | exact HB.out | apply lA | apply lN | apply lD | refine lS ?_ GE148.out) | exact HB.out)⟩⟩)
 case rest =>
  clear HC3; (try clear c2); (try clear p2); (try clear c5); (try clear c6); obtain ⟨kq, x19_2, rfl, HA, HJ2, BK148, HB⟩ := hcut
  cases kq with
  | zero => exact absurd HA.out (by simp [spec_ReadObject.j0])
  | succ kj2 =>
   have H := HA.out; clear HA; simp only [spec_ReadObject.j0] at H; by_cases c7 : x19_2 = true
   ·subst c7; (have H1 : (some (0, ([] : List Int), false)) = some (r1, r2, r3) := by rw [if_pos rfl] at H; exact H); clear H; have H := H1; clear H1; simp only [Option.some.injEq, Prod.mk.injEq] at H; obtain ⟨rfl, rfl, rfl⟩ := H; have hcz8_0 : wc.cell? ⟨gb148, 0, none⟩ = some (.int .i64 0) := (bC BK148.out 0).trans rfl; have hcz8_1 : wc.cell? ⟨gb148, 1, none⟩ = some (.slice none 0 0) := (bC BK148.out 1).trans rfl; have hfz8_0 := bF BK148.out 0; have hfz8_1 := bF BK148.out 1; go_wp2; refine bodyPost_ret (results_ct rfl _ _ gb148 46 #[.int .i64 0, .slice none 0 0] (0, 0) _ rfl (by (with_reducible repeat (first | apply bN | apply bD | apply bA)); refine blk_put (cs := #[.int .i64 0, .slice none 0 0]) ?_ 1 _ rfl; (with_reducible repeat (first | apply bN | apply bD | apply bA)); refine blk_put (cs := #[.int .i64 0, .slice none 0 0]) ?_ 0 _ rfl; (with_reducible repeat (first | apply bN | apply bD | apply bA)); exact BK148.out) Tryd.underlying46 rfl (by kernel_rfl)) rfl ?_; exact ⟨_, by first | rfl | (simp [errW_none, errW_some] <;> rfl) | (simp [*, errW_none, errW_some] <;> rfl), by first | exact Kd.R_nil _ _ _ _ _ | exact Kd.N_nil _ _ _ _ _ | exact Kd.V_nil _ _ _ _ _ | exact Kd.Q_nil _ _ _ _ _ | exact Kd.S_nil _ _ _ _ _, by repeat (first | (with_reducible first | exact HB.out | apply lA | apply lN | apply lD | refine lS ?_ GE148.out) | exact HB.out)⟩
   ·replace c7 := Bool.eq_false_iff.mpr c7; subst c7; (have H1 : (if 0 ≤ 8 then (if 8 ≤ (a1.size : Int) then ((spec_ReadWord.f kj2 (a1.extract 0 8)).bind fun bt150 => ((spec_l1In.f bt150.1 1 (l0.length : Int)).bind fun t152 => (if t152 = true then (if 0 ≤ (wrap64 (bt150.1 - 1)) then (if (wrap64 (bt150.1 - 1)) < (l0.length : Int) then ((spec_RunOf.f kj2 (rdOf ByteArray.empty l0 (wrap64 (bt150.1 - 1)))).bind fun t154 => (spec_ReadObject.j1 kj2 l0 a1 bt150.1 ((a1.size : Int) != (wrap64 (64 * t154))))) else (none)) else (none)) else (spec_ReadObject.j1 kj2 l0 a1 bt150.1 true)))) else (none)) else (none)) = some (r1, r2, r3) := by rw [if_neg (show ¬ (false = true) by decide)] at H; exact H); clear H; have H := H1; clear H1; by_cases c9 : 0 ≤ 8
    ·rw [if_pos c9] at H; have c9b0 := eq_true c9; have c9b1 : decide (0 ≤ 8) = true := decide_eq_true c9; clear c9; by_cases c10 : 8 ≤ (a1.size : Int)
     ·rw [if_pos c10] at H; have c10b0 := eq_true c10; have c10b1 : decide (8 ≤ (a1.size : Int)) = true := decide_eq_true c10; clear c10; replace H := Option.bind_eq_some_iff.mp H; obtain ⟨⟨t150, t151⟩, A110, H⟩ := H; replace H : ((spec_l1In.f t150 1 (l0.length : Int)).bind fun t152 => (if t152 = true then (if 0 ≤ (wrap64 (t150 - 1)) then (if (wrap64 (t150 - 1)) < (l0.length : Int) then ((spec_RunOf.f kj2 (rdOf ByteArray.empty l0 (wrap64 (t150 - 1)))).bind fun t154 => (spec_ReadObject.j1 kj2 l0 a1 t150 ((a1.size : Int) != (wrap64 (64 * t154))))) else (none)) else (none)) else (spec_ReadObject.j1 kj2 l0 a1 t150 true))) = some (r1, r2, r3) := H; have A11 := mK A110; clear A110; have HC12 := mK H; clear H; go_upto_region 4 with (first | ((with_reducible refine gate_callee (f := 104) rfl ?_); refine goesL_ (some 24) rfl rfl Tryd.func104 (by kernel_rfl) rfl #[.string (a1.extract 0 8)] rfl (by (try simp only [List.map_toArray, List.map_cons, List.map_nil]); first | done | rfl | (simp only [List.length_drop, List.length_take]; rfl)) ?_; (with_reducible refine (spec_ReadWord.calls kj2 (a1.extract 0 8) t150 t151 _ A11.out).mono ?_); rintro e w13 ⟨rfl, hb⟩; refine ⟨_, rfl, ?_⟩; have n0_ := mK (bB (g := gb148) (o := .cells #[.int .i64 0, .slice none 0 0] 46 (0, 0)) (by (with_reducible repeat (first | apply bN | apply bD | apply bA)); exact BK148.out) hb); have n1_ := mK (lT (by repeat (first | (with_reducible first | exact HB.out | apply lA | apply lN | apply lD | refine lS ?_ GE148.out) | exact HB.out)) hb); clear BK148; clear HB; have BK148 := n0_; have HB := n1_; clear n0_ n1_; (try clear hb); (try clear hb2); (try clear hk); (try clear hi))); (try simp only [Act.put, sI_, s0_, sS_]); go_cut [43] (fun v43 wc => ∃ (kq : Nat) (x43_11 : Bool), v43 = .bool x43_11 ∧ Aside0 (spec_ReadObject.j1 kq l0 a1 t150 x43_11 = some (r1, r2, r3)) ∧ Aside0 (kq ≤ kj2) ∧ Aside0 (wc.heap[gb148]? = some (.cells #[.int .i64 0, (.slice none 0 0)] 46 (0, 0))) ∧ Aside0 (Below w.heap.size w wc))
      case first =>
       have H := HC12.out; clear HC12; replace H := Option.bind_eq_some_iff.mp H; obtain ⟨t152, A140, H⟩ := H; replace H : (if t152 = true then (if 0 ≤ (wrap64 (t150 - 1)) then (if (wrap64 (t150 - 1)) < (l0.length : Int) then ((spec_RunOf.f kj2 (rdOf ByteArray.empty l0 (wrap64 (t150 - 1)))).bind fun t154 => (spec_ReadObject.j1 kj2 l0 a1 t150 ((a1.size : Int) != (wrap64 (64 * t154))))) else (none)) else (none)) else (spec_ReadObject.j1 kj2 l0 a1 t150 true)) = some (r1, r2, r3) := H; have A14 := mK A140; clear A140; by_cases c15 : t152 = true
       ·subst c15; (have H1 : (if 0 ≤ (wrap64 (t150 - 1)) then (if (wrap64 (t150 - 1)) < (l0.length : Int) then ((spec_RunOf.f kj2 (rdOf ByteArray.empty l0 (wrap64 (t150 - 1)))).bind fun t154 => (spec_ReadObject.j1 kj2 l0 a1 t150 ((a1.size : Int) != (wrap64 (64 * t154))))) else (none)) else (none)) = some (r1, r2, r3) := by rw [if_pos rfl] at H; exact H); clear H; have H := H1; clear H1; obtain ⟨ji16, hji16⟩ : ∃ j_ : Int, (wrap64 (t150 - 1)) = j_ := ⟨_, rfl⟩; (replace H : (if 0 ≤ (ji16) then (if (ji16) < (l0.length : Int) then ((spec_RunOf.f kj2 (rdOf ByteArray.empty l0 (ji16))).bind fun t154 => (spec_ReadObject.j1 kj2 l0 a1 t150 ((a1.size : Int) != (wrap64 (64 * t154))))) else (none)) else (none)) = some (r1, r2, r3) := by first | (rw [hji16] at H; exact H) | (simp only [hji16] at H ⊢; exact H)); (try rw [hji16] at A14); have hji16w : (IntKind.i64.wrap (t150 - 1)) = ji16 := (i64_w _).trans hji16; by_cases c17 : 0 ≤ (ji16)
        ·rw [if_pos c17] at H; have c17b0 : decide (0 ≤ (ji16)) = true := decide_eq_true c17; clear c17; (first | rw [c17b0] | (simp only [i64_w, i32_w]; rw [c17b0]) | skip); by_cases c18 : (ji16) < (l0.length : Int)
         ·rw [if_pos c18] at H; have c18b0 : decide ((ji16) < (l0.length : Int)) = true := decide_eq_true c18; clear c18; replace H := Option.bind_eq_some_iff.mp H; obtain ⟨t154, A190, H⟩ := H; replace H : (spec_ReadObject.j1 kj2 l0 a1 t150 ((a1.size : Int) != (wrap64 (64 * t154)))) = some (r1, r2, r3) := H; have A19 := mK A190; clear A190; have H' := mK H; clear H; go_wp2_with (first | ((with_reducible refine gate_callee (f := 69) rfl ?_); refine goesL_ (some 30) rfl rfl Tryd.func69 (by kernel_rfl) rfl #[.int .i64 t150, .int .i64 1, .int .i64 (l0.length : Int)] rfl (by (try simp only [List.map_toArray, List.map_cons, List.map_nil]); first | done | rfl | (simp only [List.length_drop, List.length_take]; rfl)) ?_; (with_reducible refine (spec_l1In.calls t150 1 (l0.length : Int) true _ A14.out).mono ?_); rintro e w' ⟨rfl, ⟨nd, rfl⟩⟩; refine ⟨_, rfl, ?_⟩; have p153 : 0 ≤ ((ji16) : Int) := of_decide_eq_true (by first | (with_reducible assumption) | assumption); have q153 : (ji16) < (l0.length : Int) := of_decide_eq_true (by first | (with_reducible assumption) | assumption); obtain ⟨ad153, e153, hx153_0⟩ := Kd.at_string HR0.out (ji16) p153 q153; cases e153; replace hx153_0 := (HB.out.cell (World.block_lt_of_cell? w _ hx153_0)).trans hx153_0; replace p153 := eq_true p153; replace q153 := eq_true q153) | (go_at_call 18; (with_reducible refine (spec_RunOf.calls kj2 (rdOf ByteArray.empty l0 (ji16)) t154 _ A19.out).mono ?_); rintro e w' ⟨rfl, ⟨nd, rfl⟩⟩)); go_meet; (case rel => exact ⟨_, (((a1.size : Int) != (wrap64 (64 * t154)))), (by first | rfl | (simp; done) | (simp [*]; done)), H', ⟨by have := HJ2.out; first | omega | exact Nat.le_refl _⟩, ⟨by (with_reducible repeat (first | apply bN | apply bD | apply bA)); exact BK148.out⟩, ⟨by repeat (first | (with_reducible first | exact HB.out | apply lA | apply lN | apply lD | refine lS ?_ GE148.out) | exact HB.out)⟩⟩)
         (·rw [if_neg c18] at H; exact absurd H (by simp))
        (·rw [if_neg c17] at H; exact absurd H (by simp))
       ·replace c15 := Bool.eq_false_iff.mpr c15; subst c15; (have H1 : (spec_ReadObject.j1 kj2 l0 a1 t150 true) = some (r1, r2, r3) := by rw [if_neg (show ¬ (false = true) by decide)] at H; exact H); clear H; have H := H1; clear H1; have H' := mK H; clear H; go_wp2_with (first | ((with_reducible refine gate_callee (f := 69) rfl ?_); refine goesL_ (some 30) rfl rfl Tryd.func69 (by kernel_rfl) rfl #[.int .i64 t150, .int .i64 1, .int .i64 (l0.length : Int)] rfl (by (try simp only [List.map_toArray, List.map_cons, List.map_nil]); first | done | rfl | (simp only [List.length_drop, List.length_take]; rfl)) ?_; (with_reducible refine (spec_l1In.calls t150 1 (l0.length : Int) false _ A14.out).mono ?_); rintro e w' ⟨rfl, ⟨nd, rfl⟩⟩; refine ⟨_, rfl, ?_⟩)); go_meet; (case rel => exact ⟨_, (true), (by first | rfl | (simp; done) | (simp [*]; done)), H', ⟨by have := HJ2.out; first | omega | exact Nat.le_refl _⟩, ⟨by (with_reducible repeat (first | apply bN | apply bD | apply bA)); exact BK148.out⟩, ⟨by repeat (first | (with_reducible first | exact HB.out | apply lA | apply lN | apply lD | refine lS ?_ GE148.out) | exact HB.out)⟩⟩)
      case rest =>
       clear HC12; (try clear c1); (try clear p1); (try clear q1); (try clear hx1); (try clear c2); (try clear p2); (try clear c5); (try clear c6); (try clear p6); (try clear c7); (try clear c9); (try clear c9b0); (try clear c9b1); (try clear c10); (try clear c10b0); (try clear c10b1); (try clear c15); (try clear p15); (try clear q15); (try clear hx15); (try clear c17); (try clear c17b0); (try clear c18); (try clear c18b0); (try clear hcz8_0); (try clear hcz8_1); (try clear hfz8_0); (try clear hfz8_1); (try clear hx153_0); (try clear p153); (try clear p2); (try clear q153); obtain ⟨kq, x43_11, rfl, HA, HJ11, BK148, HB⟩ := hcut
       cases kq with
       | zero => exact absurd HA.out (by simp [spec_ReadObject.j1])
       | succ kj11 =>
        have H := HA.out; clear HA; simp only [spec_ReadObject.j1] at H; by_cases c20 : x43_11 = true
        ·subst c20; (have H1 : (some (0, ([] : List Int), false)) = some (r1, r2, r3) := by rw [if_pos rfl] at H; exact H); clear H; have H := H1; clear H1; simp only [Option.some.injEq, Prod.mk.injEq] at H; obtain ⟨rfl, rfl, rfl⟩ := H; have hcz21_0 : wc.cell? ⟨gb148, 0, none⟩ = some (.int .i64 0) := (bC BK148.out 0).trans rfl; have hcz21_1 : wc.cell? ⟨gb148, 1, none⟩ = some (.slice none 0 0) := (bC BK148.out 1).trans rfl; have hfz21_0 := bF BK148.out 0; have hfz21_1 := bF BK148.out 1; go_wp2; refine bodyPost_ret (results_ct rfl _ _ gb148 46 #[.int .i64 0, .slice none 0 0] (0, 0) _ rfl (by (with_reducible repeat (first | apply bN | apply bD | apply bA)); refine blk_put (cs := #[.int .i64 0, .slice none 0 0]) ?_ 1 _ rfl; (with_reducible repeat (first | apply bN | apply bD | apply bA)); refine blk_put (cs := #[.int .i64 0, .slice none 0 0]) ?_ 0 _ rfl; (with_reducible repeat (first | apply bN | apply bD | apply bA)); exact BK148.out) Tryd.underlying46 rfl (by kernel_rfl)) rfl ?_; exact ⟨_, by first | rfl | (simp [errW_none, errW_some] <;> rfl) | (simp [*, errW_none, errW_some] <;> rfl), by first | exact Kd.R_nil _ _ _ _ _ | exact Kd.N_nil _ _ _ _ _ | exact Kd.V_nil _ _ _ _ _ | exact Kd.Q_nil _ _ _ _ _ | exact Kd.S_nil _ _ _ _ _, by repeat (first | (with_reducible first | exact HB.out | apply lA | apply lN | apply lD | refine lS ?_ GE148.out) | exact HB.out)⟩
        ·replace c20 := Bool.eq_false_iff.mpr c20; subst c20; (have H1 : (spec_ReadObject.l0 kj11 l0 a1 t150 0 (wrap64 (t150 - 1)) ([] : List Int)) = some (r1, r2, r3) := by rw [if_neg (show ¬ (false = true) by decide)] at H; exact H); clear H; have H := H1; clear H1; have H' := mK H; clear H; go_wp2_with (first | ((with_reducible refine gate_dst (N := 8) rfl ?_); (try (refine gate_guard (by rfl) ?_; dsimp only)); refine box_event ?hg (N := 8) ?hd (cs := #[.int .i64 0, .slice none 0 0]) (t := 46) ?hr ?_; (case hd => rfl); (case hg => rfl); (case hr => first | (go_simp; done) | (go_simp; rfl)); intro gb155 hg w22 hbox hb; have n0_ := mK (bB (g := gb148) (o := .cells #[.int .i64 0, .slice none 0 0] 46 (0, 0)) (by (with_reducible repeat (first | apply bN | apply bD | apply bA)); exact BK148.out) hb); have n1_ := mK (lT (by repeat (first | (with_reducible first | exact HB.out | apply lA | apply lN | apply lD | refine lS ?_ GE148.out) | exact HB.out)) hb); have n2_ := mK (hbox); have n3_ := mK ((by rw [hg]; exact (below_size (by repeat (first | (with_reducible first | exact HB.out | apply lA | apply lN | apply lD | refine lS ?_ GE148.out) | exact HB.out))) : w.heap.size ≤ gb155)); have n4_ := mK ((by rw [hg]; exact (below_size (by repeat (first | (with_reducible first | exact HB.out | apply lA | apply lN | apply lD | refine lS ?_ GE148.out) | exact HB.out))) : w.heap.size ≤ gb155)); have n5_ := mK ((by rw [hg]; exact Nat.ne_of_lt (blk_lt (g := gb148) (o := .cells #[.int .i64 0, .slice none 0 0] 46 (0, 0)) (by (with_reducible repeat (first | apply bN | apply bD | apply bA)); exact BK148.out)) : gb148 ≠ gb155)); have n6_ := mK ((by rw [hg]; exact Nat.ne_of_gt (blk_lt (g := gb148) (o := .cells #[.int .i64 0, .slice none 0 0] 46 (0, 0)) (by (with_reducible repeat (first | apply bN | apply bD | apply bA)); exact BK148.out)) : gb155 ≠ gb148)); clear BK148; clear HB; have BK148 := n0_; have HB := n1_; have BK155 := n2_; have GW155 := n3_; have GE155 := n4_; have NB148_155 := n5_; have NB155_148 := n6_; clear n0_ n1_ n2_ n3_ n4_ n5_ n6_; clear hb hbox hg; have hnb23 := NB155_148.out; have hnc23 := NB148_155.out; have hcz24_0 : w22.cell? ⟨gb155, 0, none⟩ = some (.int .i64 0) := (bC BK155.out 0).trans rfl; have hcz24_1 : w22.cell? ⟨gb155, 1, none⟩ = some (.slice none 0 0) := (bC BK155.out 1).trans rfl; have hfz24_0 := bF BK155.out 0; have hfz24_1 := bF BK155.out 1)); go_loopg [9] kj11 (fun kq v9 w' => ∃ (x9_3 : Int) (x156001_3 : List Int) (u156001 : Value), v9 = .int .i64 x9_3 ∧ Aside0 (spec_ReadObject.l0 kq l0 a1 t150 x9_3 (wrap64 (t150 - 1)) x156001_3 = some (r1, r2, r3)) ∧ Aside0 (kq ≤ kj11) ∧ Aside0 (Kd.R (Kd.int .i64) 2 w' w.heap.size (fun _ => True) u156001 x156001_3) ∧ Aside0 (w'.heap[gb148]? = some (.cells #[.int .i64 0, (.slice none 0 0)] 46 (0, 0))) ∧ Aside0 (w'.heap[gb155]? = some (.cells #[.int .i64 (wrap64 (t150 - 1)), u156001] 46 (0, 0))) ∧ Aside0 (Below w.heap.size w w')); (case atStart => exact ⟨(0), (([] : List Int)), (.slice none 0 0), (by first | rfl | (simp; done) | (simp [*]; done)), H', ⟨Nat.le_refl _⟩, ⟨by first | exact Kd.R_nil _ _ _ _ _ | exact Kd.N_nil _ _ _ _ _ | exact Kd.V_nil _ _ _ _ _ | exact Kd.Q_nil _ _ _ _ _ | exact Kd.S_nil _ _ _ _ _⟩, ⟨by (with_reducible repeat (first | apply bN | apply bD | apply bA)); refine blk_far ?_ NB148_155.out _; (with_reducible repeat (first | apply bN | apply bD | apply bA)); refine blk_far ?_ NB148_155.out _; (with_reducible repeat (first | apply bN | apply bD | apply bA)); exact BK148.out⟩, ⟨by (with_reducible repeat (first | apply bN | apply bD | apply bA)); refine blk_put (cs := #[.int .i64 (wrap64 (t150 - 1)), .slice none 0 0]) ?_ 1 _ rfl; (with_reducible repeat (first | apply bN | apply bD | apply bA)); refine blk_put (cs := #[.int .i64 0, .slice none 0 0]) ?_ 0 _ rfl; (with_reducible repeat (first | apply bN | apply bD | apply bA)); exact BK155.out⟩, ⟨by repeat (first | (with_reducible first | exact HB.out | apply lA | apply lN | apply lD | refine lS ?_ GE148.out | refine lS ?_ GE155.out) | exact HB.out)⟩⟩)
         case round =>
          clear H'; (try clear c1); (try clear p1); (try clear q1); (try clear hx1); (try clear c2); (try clear p2); (try clear c5); (try clear c6); (try clear p6); (try clear c7); (try clear c9); (try clear c9b0); (try clear c9b1); (try clear c10); (try clear c10b0); (try clear c10b1); (try clear c15); (try clear p15); (try clear q15); (try clear hx15); (try clear c17); (try clear c17b0); (try clear c18); (try clear c18b0); (try clear c20); (try clear c21); (try clear c23); (try clear hcz21_0); (try clear hcz21_1); (try clear hcz24_0); (try clear hcz24_1); (try clear hcz8_0); (try clear hcz8_1); (try clear hfz21_0); (try clear hfz21_1); (try clear hfz24_0); (try clear hfz24_1); (try clear hfz8_0); (try clear hfz8_1); (try clear hx153_0); (try clear p1); (try clear p15); (try clear p153); (try clear p2); (try clear p6); (try clear q1); (try clear q15); (try clear q153); obtain ⟨x9_3, x156001_3, u156001, rfl, HA, HK3, HO_156001, BK148, BK155, HB⟩ := hrel
          cases gk with
          | zero => exact absurd HA.out (by simp [spec_ReadObject.l0])
          | succ k3 =>
           have H := HA.out; clear HA; simp only [spec_ReadObject.l0] at H; obtain ⟨ji25, hji25⟩ : ∃ j_ : Int, (wrap64 (t150 - 1)) = j_ := ⟨_, rfl⟩; (replace H : (if 0 ≤ (ji25) then (if (ji25) < (l0.length : Int) then (if x9_3 < ((rdOf ByteArray.empty l0 (ji25)).size : Int) then (if 0 ≤ (wrap64 (8 + (wrap64 (8 * x9_3)))) then (if (wrap64 (8 + (wrap64 (8 * x9_3)))) ≤ (wrap64 (16 + (wrap64 (8 * x9_3)))) then (if (wrap64 (16 + (wrap64 (8 * x9_3)))) ≤ (a1.size : Int) then ((spec_ReadWord.f k3 (a1.extract ((wrap64 (8 + (wrap64 (8 * x9_3)))) : Int).toNat ((wrap64 (16 + (wrap64 (8 * x9_3)))) : Int).toNat)).bind fun bt157 => (if x156001_3.length < 17592186044416 then (spec_ReadObject.l0 k3 l0 a1 t150 (wrap64 (x9_3 + 1)) (ji25) (x156001_3 ++ [bt157.1])) else (none))) else (none)) else (none)) else (none)) else ((spec_ObjectBytes.f k3 l0 (ji25) x156001_3).bind fun t162 => (if t162.toList = a1.toList then (some ((ji25), x156001_3, true)) else (some (0, ([] : List Int), false))))) else (none)) else (none)) = some (r1, r2, r3) := by first | (rw [hji25] at H; exact H) | (simp only [hji25] at H ⊢; exact H)); have hji25w : (IntKind.i64.wrap (t150 - 1)) = ji25 := (i64_w _).trans hji25; (try rw [hji25] at BK155); by_cases c26 : 0 ≤ (ji25)
           ·rw [if_pos c26] at H; have c26b0 : decide (0 ≤ (ji25)) = true := decide_eq_true c26; clear c26; by_cases c27 : (ji25) < (l0.length : Int)
            ·rw [if_pos c27] at H; have c27b0 : decide ((ji25) < (l0.length : Int)) = true := decide_eq_true c27; clear c27; by_cases c28 : x9_3 < ((rdOf ByteArray.empty l0 (ji25)).size : Int)
             ·rw [if_pos c28] at H; have c28b0 : decide (x9_3 < ((rdOf ByteArray.empty l0 (ji25)).size : Int)) = true := decide_eq_true c28; clear c28; obtain ⟨ji29, hji29⟩ : ∃ j_ : Int, (wrap64 (8 + (wrap64 (8 * x9_3)))) = j_ := ⟨_, rfl⟩; (replace H : (if 0 ≤ (ji29) then (if (ji29) ≤ (wrap64 (16 + (wrap64 (8 * x9_3)))) then (if (wrap64 (16 + (wrap64 (8 * x9_3)))) ≤ (a1.size : Int) then ((spec_ReadWord.f k3 (a1.extract ((ji29) : Int).toNat ((wrap64 (16 + (wrap64 (8 * x9_3)))) : Int).toNat)).bind fun bt157 => (if x156001_3.length < 17592186044416 then (spec_ReadObject.l0 k3 l0 a1 t150 (wrap64 (x9_3 + 1)) (ji25) (x156001_3 ++ [bt157.1])) else (none))) else (none)) else (none)) else (none)) = some (r1, r2, r3) := by first | (rw [hji29] at H; exact H) | (simp only [hji29] at H ⊢; exact H)); have hji29w : (IntKind.i64.wrap (8 + (wrap64 (8 * x9_3)))) = ji29 := (i64_w _).trans hji29; by_cases c30 : 0 ≤ (ji29)
              ·rw [if_pos c30] at H; have c30b0 := eq_true c30; have c30b1 : decide (0 ≤ (ji29)) = true := decide_eq_true c30; clear c30; by_cases c31 : (ji29) ≤ (wrap64 (16 + (wrap64 (8 * x9_3))))
               ·rw [if_pos c31] at H; have c31b0 := eq_true c31; have c31b1 : decide ((ji29) ≤ (wrap64 (16 + (wrap64 (8 * x9_3))))) = true := decide_eq_true c31; by_cases c32 : (wrap64 (16 + (wrap64 (8 * x9_3)))) ≤ (a1.size : Int)
                ·rw [if_pos c32] at H; have c32b0 := eq_true c32; have c32b1 : decide ((wrap64 (16 + (wrap64 (8 * x9_3)))) ≤ (a1.size : Int)) = true := decide_eq_true c32; replace H := Option.bind_eq_some_iff.mp H; obtain ⟨⟨t157, t158⟩, A330, H⟩ := H; replace H : (if x156001_3.length < 17592186044416 then (spec_ReadObject.l0 k3 l0 a1 t150 (wrap64 (x9_3 + 1)) (ji25) (x156001_3 ++ [t157])) else (none)) = some (r1, r2, r3) := H; have A33 := mK A330; clear A330; by_cases c34 : x156001_3.length < 17592186044416
                 ·rw [if_pos c34] at H; have LMc34 := mK c34; clear c34; obtain ⟨y159, hy159⟩ : ∃ y_ : List Int, y_ = (x156001_3 ++ [t157]) := ⟨_, rfl⟩; (replace H : (spec_ReadObject.l0 k3 l0 a1 t150 (wrap64 (x9_3 + 1)) (ji25) y159) = some (r1, r2, r3) := by first | (rw [hy159]; with_reducible exact H) | (have H2_ := (Option.bind_some _ _).symm.trans H; rw [hy159]; with_reducible exact H2_) | (have H2_ := (Option.bind_some _ _).symm.trans H; with_reducible exact H2_) | with_reducible exact H | (rw [hy159]; exact H) | exact H); have Ny159 := mK hy159; clear hy159; have H' := mK H; clear H; have p156 : 0 ≤ ((ji25) : Int) := of_decide_eq_true (by first | (with_reducible assumption) | assumption); have q156 : (ji25) < (l0.length : Int) := of_decide_eq_true (by first | (with_reducible assumption) | assumption); obtain ⟨ad156, e156, hx156_0⟩ := Kd.at_string HR0.out (ji25) p156 q156; cases e156; replace hx156_0 := (HB.out.cell (World.block_lt_of_cell? w _ hx156_0)).trans hx156_0; replace p156 := eq_true p156; replace q156 := eq_true q156; go_wp2_with (first | ((with_reducible refine gate_callee (f := 104) rfl ?_); refine goesL_ (some 67) rfl rfl Tryd.func104 (by kernel_rfl) rfl #[.string (a1.extract ((ji29) : Int).toNat ((wrap64 (16 + (wrap64 (8 * x9_3)))) : Int).toNat)] rfl (by (try simp only [List.map_toArray, List.map_cons, List.map_nil]); first | done | (simp only [hji29]; rfl) | rfl | (simp only [List.length_drop, List.length_take]; rfl) | ((try simp only [decide_eq_false_iff_not, decide_eq_true_eq, eq_iff_iff, iff_true, iff_false, Int.not_lt, Int.not_le, Nat.not_lt, Nat.not_le, ByteArray.size_append, ByteArray.size_extract] at *); (rw [show wrap64 (8 * x9_3) = 8 * x9_3 from by unfold Go.RowKit.wrap64; omega]); rfl) | ((try simp only [decide_eq_false_iff_not, decide_eq_true_eq, eq_iff_iff, iff_true, iff_false, Int.not_lt, Int.not_le, Nat.not_lt, Nat.not_le, ByteArray.size_append, ByteArray.size_extract] at *); (rw [show wrap64 (8 * x9_3) = 8 * x9_3 from by unfold Go.RowKit.wrap64; omega, show wrap64 (16 + ((8 * x9_3))) = 16 + ((8 * x9_3)) from by unfold Go.RowKit.wrap64; omega]); rfl)) ?_; (with_reducible refine (spec_ReadWord.calls k3 (a1.extract ((ji29) : Int).toNat ((wrap64 (16 + (wrap64 (8 * x9_3)))) : Int).toNat) t157 t158 _ A33.out).mono ?_); rintro e w35 ⟨rfl, hb⟩; refine ⟨_, rfl, ?_⟩; have n0_ := mK (Kd.R_below (by (with_reducible repeat (first | apply Kd.R_alloc | apply Kd.R_drewN | apply Kd.R_drew)); exact HO_156001.out) hb); have n1_ := mK (bB (g := gb148) (o := .cells #[.int .i64 0, .slice none 0 0] 46 (0, 0)) (by (with_reducible repeat (first | apply bN | apply bD | apply bA)); exact BK148.out) hb); have n2_ := mK (bB (g := gb155) (o := .cells #[.int .i64 (ji25), u156001] 46 (0, 0)) (by (with_reducible repeat (first | apply bN | apply bD | apply bA)); exact BK155.out) hb); have n3_ := mK (lT (by repeat (first | (with_reducible first | exact HB.out | apply lA | apply lN | apply lD | refine lS ?_ GE148.out | refine lS ?_ GE155.out) | exact HB.out)) hb); clear HO_156001; clear BK148; clear BK155; clear HB; have HO_156001 := n0_; have BK148 := n1_; have BK155 := n2_; have HB := n3_; clear n0_ n1_ n2_ n3_; (try clear hb); (try clear hb2); (try clear hk); (try clear hi); have hnb36 := NB155_148.out; have hnc36 := NB148_155.out; have hcz37_0 : w35.cell? ⟨gb155, 0, none⟩ = some (.int .i64 (ji25)) := (bC BK155.out 0).trans rfl; have hcz37_1 : w35.cell? ⟨gb155, 1, none⟩ = some (u156001) := (bC BK155.out 1).trans rfl; have hfz37_0 := bF BK155.out 0; have hfz37_1 := bF BK155.out 1) | ((with_reducible refine gate_builtin (b := .append) (xs := #[.tmp 71, .tmp 73]) rfl ?_); (try (refine gate_guard (by rfl) ?_; dsimp only)); at_builtin; refine Kd.R_append (Kd.int .i64) (w0 := w) w.heap.size rfl (.tmp 71) (.tmp 73) 41 2 (.int .i64 0) 8 rfl Tryd.underlying41 spec_ReadObject.info2 rfl (by decide) (by omega) u156001 x156001_3 t157 [.int .i64 t157] (fun _ => True) (fun _ => False) rfl rfl ?aP (fun _ hk => hk.elim) ?aF ?aO ?aB ?aS ?aL ?_; (case aP => exact rfl); (case aB => exact (by repeat (first | (with_reducible first | exact HB.out | apply lA | apply lN | apply lD | refine lS ?_ GE148.out | refine lS ?_ GE155.out) | exact HB.out))); (case aF => exact (fun _ _ => trivial)); (case aO => exact (by (with_reducible repeat (first | apply Kd.R_alloc | apply Kd.R_drewN | apply Kd.R_drew)); exact HO_156001.out)); (case aS => exact (below_size (by repeat (first | (with_reducible first | exact HB.out | apply lA | apply lN | apply lD | refine lS ?_ GE148.out | refine lS ?_ GE155.out) | exact HB.out)))); (case aL => have := LMc34.out; omega); intro v160 w38 ho hb hg hat; rw [← Ny159.out] at ho; have n0_ := mK (blk_grown (g := gb148) (o := .cells #[.int .i64 0, .slice none 0 0] 46 (0, 0)) (by (with_reducible repeat (first | apply bN | apply bD | apply bA)); exact BK148.out) hg (Kd.R_ne HO_156001.out BK148.out (by decide))); have n1_ := mK (blk_grown (g := gb155) (o := .cells #[.int .i64 (ji25), u156001] 46 (0, 0)) (by (with_reducible repeat (first | apply bN | apply bD | apply bA)); exact BK155.out) hg (Kd.R_ne HO_156001.out BK155.out (by decide))); have n2_ := mK (hb); have n3_ := mK (ho); clear BK148; clear BK155; clear HB; clear HO_156001; have BK148 := n0_; have BK155 := n1_; have HB := n2_; have HO161 := n3_; clear n0_ n1_ n2_ n3_; clear ho hb hg hat; obtain ⟨Ao39, co39, eo39⟩ := Kd.R_slice HO161.out; subst eo39; have hcz40_0 : w38.cell? ⟨gb155, 0, none⟩ = some (.int .i64 (ji25)) := (bC BK155.out 0).trans rfl; have hcz40_1 : w38.cell? ⟨gb155, 1, none⟩ = some (u156001) := (bC BK155.out 1).trans rfl; have hfz40_0 := bF BK155.out 0; have hfz40_1 := bF BK155.out 1)); subst hji25; go_roundg k3; (case measure => have := HJ2.out; have := HJ11.out; have := HK3.out; omega); (case rel => exact ⟨(wrap64 (x9_3 + 1)), (y159), (.slice Ao39 y159.length co39), (by first | rfl | (simp; done) | (simp [*]; done)), H', ⟨by have := HJ2.out; have := HJ11.out; have := HK3.out; omega⟩, ⟨by (with_reducible repeat (first | apply Kd.R_alloc | apply Kd.R_drewN | apply Kd.R_drew)); exact Kd.R_mono (Kd.R_far (p := ⟨gb155, 1, none⟩) (Kd.R_types HO161.out BK155.out (by decide)) (fun _ hk => hk.2) (.slice Ao39 y159.length co39)) (fun _ hk => trivial)⟩, ⟨by (with_reducible repeat (first | apply bN | apply bD | apply bA)); refine blk_far ?_ NB148_155.out _; (with_reducible repeat (first | apply bN | apply bD | apply bA)); exact BK148.out⟩, ⟨by (with_reducible repeat (first | apply bN | apply bD | apply bA)); refine blk_put (cs := #[.int .i64 (wrap64 (t150 - 1)), u156001]) ?_ 1 _ rfl; (with_reducible repeat (first | apply bN | apply bD | apply bA)); exact BK155.out⟩, ⟨by repeat (first | (with_reducible first | exact HB.out | apply lA | apply lN | apply lD | refine lS ?_ GE148.out | refine lS ?_ GE155.out) | exact HB.out)⟩⟩)
                 (·rw [if_neg c34] at H; exact absurd H (by simp))
                (·rw [if_neg c32] at H; exact absurd H (by simp))
               (·rw [if_neg c31] at H; exact absurd H (by simp))
              (·rw [if_neg c30] at H; exact absurd H (by simp))
             ·rw [if_neg c28] at H; have c28b0 : decide (x9_3 < ((rdOf ByteArray.empty l0 (ji25)).size : Int)) = false := decide_eq_false c28; clear c28; replace H := Option.bind_eq_some_iff.mp H; obtain ⟨t162, A410, H⟩ := H; replace H : (if t162.toList = a1.toList then (some ((ji25), x156001_3, true)) else (some (0, ([] : List Int), false))) = some (r1, r2, r3) := H; have A41 := mK A410; clear A410; by_cases c42 : t162.toList = a1.toList
              ·rw [if_pos c42] at H; have c42b0 : (t162.toList == a1.toList) = true := beq_iff_eq.mpr c42; have c42b1 : (t162.toList != a1.toList) = false := bne_eq_false_iff_eq.mpr c42; clear c42; simp only [Option.some.injEq, Prod.mk.injEq] at H; obtain ⟨rfl, rfl, rfl⟩ := H; have p156 : 0 ≤ ((ji25) : Int) := of_decide_eq_true (by first | (with_reducible assumption) | assumption); have q156 : (ji25) < (l0.length : Int) := of_decide_eq_true (by first | (with_reducible assumption) | assumption); obtain ⟨ad156, e156, hx156_0⟩ := Kd.at_string HR0.out (ji25) p156 q156; cases e156; replace hx156_0 := (HB.out.cell (World.block_lt_of_cell? w _ hx156_0)).trans hx156_0; replace p156 := eq_true p156; replace q156 := eq_true q156; have hnb43 := NB155_148.out; have hnc43 := NB148_155.out; have hcz44_0 : wr.cell? ⟨gb155, 0, none⟩ = some (.int .i64 (ji25)) := (bC BK155.out 0).trans rfl; have hcz44_1 : wr.cell? ⟨gb155, 1, none⟩ = some (u156001) := (bC BK155.out 1).trans rfl; have hfz44_0 := bF BK155.out 0; have hfz44_1 := bF BK155.out 1; obtain ⟨Ao45, co45, eo45⟩ := Kd.R_slice HO_156001.out; subst eo45; go_wp2_with (first | ((with_reducible refine gate_callee (f := 47) rfl ?_); refine goesL_ (some 78) rfl rfl Tryd.func47 (by kernel_rfl) rfl #[.slice (some ad156) l0.length c0, .agg #[.int .i64 (ji25), .slice Ao45 x156001_3.length co45]] rfl (by (try simp only [List.map_toArray, List.map_cons, List.map_nil]); first | done | (simp only [hji25]; rfl) | rfl | (simp only [List.length_drop, List.length_take]; rfl)) ?_; (with_reducible refine (spec_ObjectBytes.calls k3 _ _ l0 (ji25) _ _ x156001_3 t162 _ ?side1 ?side2 ?side3 ?side4 A41.out).mono ?_); (case side1 => repeat (first | exact (Kd.C_below HR0.out HB.out) | (with_reducible refine Kd.C_alloc ?_ _) | (with_reducible refine Kd.C_drewN ?_ _) | (with_reducible refine Kd.C_drew ?_))); (case side2 => exact HC0.out); (case side3 => repeat (first | exact (Kd.R_reads' HO_156001.out).2.2 | (with_reducible refine Kd.C_alloc ?_ _) | (with_reducible refine Kd.C_drewN ?_ _) | (with_reducible refine Kd.C_drew ?_))); (case side4 => exact (Kd.R_reads' HO_156001.out).2.1); rintro e w46 ⟨rfl, hb⟩; refine ⟨_, rfl, ?_⟩; have n0_ := mK (Kd.R_below (by (with_reducible repeat (first | apply Kd.R_alloc | apply Kd.R_drewN | apply Kd.R_drew)); exact HO_156001.out) hb); have n1_ := mK (bB (g := gb148) (o := .cells #[.int .i64 0, .slice none 0 0] 46 (0, 0)) (by (with_reducible repeat (first | apply bN | apply bD | apply bA)); exact BK148.out) hb); have n2_ := mK (bB (g := gb155) (o := .cells #[.int .i64 (ji25), .slice Ao45 x156001_3.length co45] 46 (0, 0)) (by (with_reducible repeat (first | apply bN | apply bD | apply bA)); exact BK155.out) hb); have n3_ := mK (lT (by repeat (first | (with_reducible first | exact HB.out | apply lA | apply lN | apply lD | refine lS ?_ GE148.out | refine lS ?_ GE155.out) | exact HB.out)) hb); clear HO_156001; clear BK148; clear BK155; clear HB; have HO_156001 := n0_; have BK148 := n1_; have BK155 := n2_; have HB := n3_; clear n0_ n1_ n2_ n3_; (try clear hb); (try clear hb2); (try clear hk); (try clear hi); have hcz47_0 : w46.cell? ⟨gb155, 0, none⟩ = some (.int .i64 (ji25)) := (bC BK155.out 0).trans rfl; have hcz47_1 : w46.cell? ⟨gb155, 1, none⟩ = some (.slice Ao45 x156001_3.length co45) := (bC BK155.out 1).trans rfl; have hfz47_0 := bF BK155.out 0; have hfz47_1 := bF BK155.out 1; have hcz48_0 : w46.cell? ⟨gb148, 0, none⟩ = some (.int .i64 0) := (bC BK148.out 0).trans rfl; have hcz48_1 : w46.cell? ⟨gb148, 1, none⟩ = some (.slice none 0 0) := (bC BK148.out 1).trans rfl; have hfz48_0 := bF BK148.out 0; have hfz48_1 := bF BK148.out 1)); refine bodyPost_ret (results_ct rfl _ _ gb148 46 #[.int .i64 (ji25), .slice Ao45 x156001_3.length co45] (0, 0) _ rfl (by (with_reducible repeat (first | apply bN | apply bD | apply bA)); refine blk_put (cs := #[.int .i64 (ji25), .slice none 0 0]) ?_ 1 _ rfl; (with_reducible repeat (first | apply bN | apply bD | apply bA)); refine blk_put (cs := #[.int .i64 0, .slice none 0 0]) ?_ 0 _ rfl; (with_reducible repeat (first | apply bN | apply bD | apply bA)); exact BK148.out) Tryd.underlying46 rfl (by kernel_rfl)) rfl ?_; exact ⟨_, by first | rfl | (simp [errW_none, errW_some] <;> rfl) | (simp only [← hji25]; first | rfl | (simp [errW_none, errW_some] <;> rfl)) | (simp [*, errW_none, errW_some] <;> rfl), by (with_reducible repeat (first | apply Kd.R_alloc | apply Kd.R_drewN | apply Kd.R_drew)); exact Kd.R_mono (Kd.R_far (p := ⟨gb148, 1, none⟩) (Kd.R_far (p := ⟨gb148, 0, none⟩) (Kd.R_types HO_156001.out BK148.out (by decide)) (fun _ hk => hk.2) (.int .i64 (ji25))) (fun _ hk => hk.2) (.slice Ao45 x156001_3.length co45)) (fun _ hk => trivial), by repeat (first | (with_reducible first | exact HB.out | apply lA | apply lN | apply lD | refine lS ?_ GE148.out | refine lS ?_ GE155.out) | exact HB.out)⟩
              ·rw [if_neg c42] at H; have c42b0 : (t162.toList == a1.toList) = false := beq_eq_false_iff_ne.mpr c42; have c42b1 : (t162.toList != a1.toList) = true := bne_iff_ne.mpr c42; simp only [Option.some.injEq, Prod.mk.injEq] at H; obtain ⟨rfl, rfl, rfl⟩ := H; have p156 : 0 ≤ ((ji25) : Int) := of_decide_eq_true (by first | (with_reducible assumption) | assumption); have q156 : (ji25) < (l0.length : Int) := of_decide_eq_true (by first | (with_reducible assumption) | assumption); obtain ⟨ad156, e156, hx156_0⟩ := Kd.at_string HR0.out (ji25) p156 q156; cases e156; replace hx156_0 := (HB.out.cell (World.block_lt_of_cell? w _ hx156_0)).trans hx156_0; replace p156 := eq_true p156; replace q156 := eq_true q156; have hnb49 := NB155_148.out; have hnc49 := NB148_155.out; have hcz50_0 : wr.cell? ⟨gb155, 0, none⟩ = some (.int .i64 (ji25)) := (bC BK155.out 0).trans rfl; have hcz50_1 : wr.cell? ⟨gb155, 1, none⟩ = some (u156001) := (bC BK155.out 1).trans rfl; have hfz50_0 := bF BK155.out 0; have hfz50_1 := bF BK155.out 1; obtain ⟨Ao51, co51, eo51⟩ := Kd.R_slice HO_156001.out; subst eo51; go_wp2_with (first | ((with_reducible refine gate_callee (f := 47) rfl ?_); refine goesL_ (some 78) rfl rfl Tryd.func47 (by kernel_rfl) rfl #[.slice (some ad156) l0.length c0, .agg #[.int .i64 (ji25), .slice Ao51 x156001_3.length co51]] rfl (by (try simp only [List.map_toArray, List.map_cons, List.map_nil]); first | done | (simp only [hji25]; rfl) | rfl | (simp only [List.length_drop, List.length_take]; rfl)) ?_; (with_reducible refine (spec_ObjectBytes.calls k3 _ _ l0 (ji25) _ _ x156001_3 t162 _ ?side1 ?side2 ?side3 ?side4 A41.out).mono ?_); (case side1 => repeat (first | exact (Kd.C_below HR0.out HB.out) | (with_reducible refine Kd.C_alloc ?_ _) | (with_reducible refine Kd.C_drewN ?_ _) | (with_reducible refine Kd.C_drew ?_))); (case side2 => exact HC0.out); (case side3 => repeat (first | exact (Kd.R_reads' HO_156001.out).2.2 | (with_reducible refine Kd.C_alloc ?_ _) | (with_reducible refine Kd.C_drewN ?_ _) | (with_reducible refine Kd.C_drew ?_))); (case side4 => exact (Kd.R_reads' HO_156001.out).2.1); rintro e w52 ⟨rfl, hb⟩; refine ⟨_, rfl, ?_⟩; have n0_ := mK (Kd.R_below (by (with_reducible repeat (first | apply Kd.R_alloc | apply Kd.R_drewN | apply Kd.R_drew)); exact HO_156001.out) hb); have n1_ := mK (bB (g := gb148) (o := .cells #[.int .i64 0, .slice none 0 0] 46 (0, 0)) (by (with_reducible repeat (first | apply bN | apply bD | apply bA)); exact BK148.out) hb); have n2_ := mK (bB (g := gb155) (o := .cells #[.int .i64 (ji25), .slice Ao51 x156001_3.length co51] 46 (0, 0)) (by (with_reducible repeat (first | apply bN | apply bD | apply bA)); exact BK155.out) hb); have n3_ := mK (lT (by repeat (first | (with_reducible first | exact HB.out | apply lA | apply lN | apply lD | refine lS ?_ GE148.out | refine lS ?_ GE155.out) | exact HB.out)) hb); clear HO_156001; clear BK148; clear BK155; clear HB; have HO_156001 := n0_; have BK148 := n1_; have BK155 := n2_; have HB := n3_; clear n0_ n1_ n2_ n3_; (try clear hb); (try clear hb2); (try clear hk); (try clear hi); have hcz53_0 : w52.cell? ⟨gb148, 0, none⟩ = some (.int .i64 0) := (bC BK148.out 0).trans rfl; have hcz53_1 : w52.cell? ⟨gb148, 1, none⟩ = some (.slice none 0 0) := (bC BK148.out 1).trans rfl; have hfz53_0 := bF BK148.out 0; have hfz53_1 := bF BK148.out 1)); refine bodyPost_ret (results_ct rfl _ _ gb148 46 #[.int .i64 0, .slice none 0 0] (0, 0) _ rfl (by (with_reducible repeat (first | apply bN | apply bD | apply bA)); refine blk_put (cs := #[.int .i64 0, .slice none 0 0]) ?_ 1 _ rfl; (with_reducible repeat (first | apply bN | apply bD | apply bA)); refine blk_put (cs := #[.int .i64 0, .slice none 0 0]) ?_ 0 _ rfl; (with_reducible repeat (first | apply bN | apply bD | apply bA)); exact BK148.out) Tryd.underlying46 rfl (by kernel_rfl)) rfl ?_; exact ⟨_, by first | rfl | (simp [errW_none, errW_some] <;> rfl) | (simp only [← hji25]; first | rfl | (simp [errW_none, errW_some] <;> rfl)) | (simp [*, errW_none, errW_some] <;> rfl), by first | exact Kd.R_nil _ _ _ _ _ | exact Kd.N_nil _ _ _ _ _ | exact Kd.V_nil _ _ _ _ _ | exact Kd.Q_nil _ _ _ _ _ | exact Kd.S_nil _ _ _ _ _, by repeat (first | (with_reducible first | exact HB.out | apply lA | apply lN | apply lD | refine lS ?_ GE148.out | refine lS ?_ GE155.out) | exact HB.out)⟩
            (·rw [if_neg c27] at H; exact absurd H (by simp))
           (·rw [if_neg c26] at H; exact absurd H (by simp))
     (·rw [if_neg c10] at H; exact absurd H (by simp))
    (·rw [if_neg c9] at H; exact absurd H (by simp))


/-! ### impl_within: function 70 -/
def impl_within.f (a0 : Int) (a1 : Int) (a2 : Int) : Option (Bool) := if a0 ≥ a1 then (some (decide (a0 ≤ a2))) else (some false)
set_option maxHeartbeats 8000000 in
set_option maxRecDepth 100000 in
theorem impl_within.calls (a0 : Int) (a1 : Int) (a2 : Int) (r : Bool) (w : World) (h : impl_within.f a0 a1 a2 = some r) :
    Calls Tryd.prog 70 #[.int .i64 a0, .int .i64 a1, .int .i64 a2] w fun e w' => e = .returned (.bool r) ∧ Drawn0 w w' := by
 have H : (if a0 ≥ a1 then (some (decide (a0 ≤ a2))) else (some false)) = some r := h; clear h; by_cases c4 : a0 ≥ a1
 ·rw [if_pos c4] at H; have c4b0 : decide (a1 ≤ a0) = true := decide_eq_true c4; clear c4; obtain rfl := Option.some.inj H; go_enter Tryd.func70, Tryd.ntmps70; go_wp2; go_ret; exact ⟨by first | rfl | (simp; done) | (simp [*]; done), by repeat (first | exact Drawn0.refl _ | apply Drawn0.step)⟩
 ·rw [if_neg c4] at H; have c4b0 : decide (a1 ≤ a0) = false := decide_eq_false c4; clear c4; obtain rfl := Option.some.inj H; go_enter Tryd.func70, Tryd.ntmps70; go_wp2; go_ret; exact ⟨by first | rfl | (simp; done) | (simp [*]; done), by repeat (first | exact Drawn0.refl _ | apply Drawn0.step)⟩

/-! ### impl_isType: function 67 -/
def impl_isType.ok (b : UInt8) : Bool := b == 105 || b == 114
def impl_isType.g (a0 : ByteArray) : Bool := decide (1 ≤ (a0.size : Int) ∧ (a0.size : Int) ≤ 23) && a0.data.toList.all impl_isType.ok
def impl_isType.f (a0 : ByteArray) : Option (Bool) := some (impl_isType.g a0)
theorem impl_isType.has (b : UInt8) : ([105, 114] : List UInt8).contains b = impl_isType.ok b := by
  unfold impl_isType.ok
  by_cases h1 : b = 105
  · subst h1; decide
  · by_cases h2 : b = 114
    · subst h2; decide
    · simp [h1, h2]
theorem impl_isType.drop_nil : ∀ l : List UInt8, (l.dropWhile (fun b => ([105, 114] : List UInt8).contains b) = []) ↔ l.all impl_isType.ok = true
  | [] => by simp
  | b :: l => by
    rw [List.dropWhile_cons, impl_isType.has, List.all_cons]
    by_cases h : impl_isType.ok b = true
    · rw [if_pos h, impl_isType.drop_nil l, h, Bool.true_and]
    · rw [if_neg h]; simp [h]
theorem impl_isType.trim (l : List UInt8) : (Lib.trimS l [105, 114] = []) ↔ l.all impl_isType.ok = true := by
  unfold Lib.trimS Lib.trimLeftS Lib.trimRightS
  rw [impl_isType.drop_nil]
  constructor
  · intro h
    have h1 : (l.reverse.dropWhile (fun b => ([105, 114] : List UInt8).contains b)) = [] := by
      by_cases hn : l.reverse.dropWhile (fun b => ([105, 114] : List UInt8).contains b) = []
      · exact hn
      · exfalso
        have hm := List.head_dropWhile_not (fun b => ([105, 114] : List UInt8).contains b) hn
        have h2 := (List.all_eq_true.1 h) _ (List.mem_reverse.2 (List.head_mem hn))
        rw [← impl_isType.has] at h2
        rw [h2] at hm; cases hm
    have h3 := (impl_isType.drop_nil _).1 h1
    rw [List.all_reverse] at h3; exact h3
  · intro h
    have h1 : l.reverse.all impl_isType.ok = true := by rw [List.all_reverse]; exact h
    rw [(impl_isType.drop_nil _).2 h1]; rfl
set_option maxHeartbeats 1000000 in
theorem impl_isType.calls (a0 : ByteArray) (r : Bool) (w : World) (h : impl_isType.f a0 = some r) :
    Calls Tryd.prog 67 #[.string a0] w fun e w' => e = .returned (.bool r) ∧ Below w.heap.size w w' := by
 unfold impl_isType.f impl_isType.g at h; obtain rfl := Option.some.inj h; clear h; have HB := mK (Below.refl w.heap.size w); have NW := mK (fun r W h => impl_within.calls (a0.size : Int) 1 23 r W h)
 have hw1 : impl_within.f (a0.size : Int) 1 23 = some (decide (1 ≤ (a0.size : Int) ∧ (a0.size : Int) ≤ 23)) := by
   unfold impl_within.f
   by_cases h1 : (a0.size : Int) ≥ 1
   · rw [if_pos h1]; congr 1; simp [show (1 : Int) ≤ a0.size from h1]
   · rw [if_neg h1]; congr 1; symm; simp; omega
 by_cases hs : (1 ≤ (a0.size : Int) ∧ (a0.size : Int) ≤ 23)
 ·have hc := Any.strings_Trim_laid Tryd.lays160 (by kernel_rfl) a0 ⟨#[105, 114]⟩ ; have NT := mK (fun W => hc W (by omega) (by decide) (ascii_of_all (by decide))); clear hc; generalize ht : (⟨(Lib.trimS a0.data.toList ([105, 114] : List UInt8)).toArray⟩ : ByteArray) = t at NT; rw [decide_eq_true hs] at hw1 ⊢; rw [Bool.true_and]
  have et : t.toList.isEmpty = a0.data.toList.all impl_isType.ok := by
    rw [← ht, Bool.eq_iff_iff, ← impl_isType.trim, List.isEmpty_iff]
    constructor
    · intro e
      have := congrArg List.length e
      exact List.length_eq_zero_iff.1 (by simpa [ByteArray.toList_eq] using this)
    · intro e; rw [e]; simp
  rw [← et]; clear et ht; have HW := mK hw1; clear hw1 hs; go_enter Tryd.func67, Tryd.ntmps67; go_wp2_with (first | (go_at_call 70; (refine (NW.out _ _ HW.out).mono ?_); rintro e w2 ⟨rfl, hd⟩; have n0_ := mK (lT HB.out hd.below); clear HB; have HB := n0_; clear n0_ hd) | (go_at_call 117; (refine (NT.out _).mono ?_); rintro e w2 ⟨rfl, hb⟩; have n0_ := mK (lT HB.out hb); clear HB; have HB := n0_; clear n0_ hb)); go_ret; exact ⟨rfl, HB.out⟩
 ·rw [decide_eq_false hs] at hw1 ⊢; rw [Bool.false_and]; have HW := mK hw1; clear hw1 hs; go_enter Tryd.func67, Tryd.ntmps67; go_wp2_with (first | (go_at_call 70; (refine (NW.out _ _ HW.out).mono ?_); rintro e w2 ⟨rfl, hd⟩; have n0_ := mK (lT HB.out hd.below); clear HB; have HB := n0_; clear n0_ hd)); go_ret; exact ⟨rfl, HB.out⟩


/-! ### impl_size_string: function 71 -/
def impl_size_string.f (l0 : List ByteArray) : Option (Int) := some (l0.length : Int)
set_option maxHeartbeats 8000000 in
set_option maxRecDepth 100000 in
theorem impl_size_string.calls (A0 : Option Addr) (c0 : Nat) (l0 : List ByteArray) (r : Int) (w : World) (hr0 : Kd.C Kd.string w A0 l0.length l0) (hc0 : l0.length ≤ c0) (h : impl_size_string.f l0 = some r) :
    Calls Tryd.prog 71 #[.slice A0 l0.length c0] w fun e w' => e = .returned (.int .i64 r) ∧ Drawn0 w w' := by
 have HR0 := mK hr0; have HC0 := mK hc0; clear hr0 hc0; have H : (some (l0.length : Int)) = some r := h; clear h; obtain rfl := Option.some.inj H; go_enter Tryd.func71, Tryd.ntmps71; go_wp2; go_ret; exact ⟨by first | rfl | (simp; done) | (simp [*]; done), by repeat (first | exact Drawn0.refl _ | apply Drawn0.step)⟩

/-! ### impl_TypesOk: function 23 -/
set_option maxHeartbeats 1000000 in
theorem impl_TypesOk.closure (s : ByteArray) (w : World) : Calls Tryd.prog 73 #[.string s] w fun e w' => e = .returned (.bool (!impl_isType.g s)) ∧ Below w.heap.size w w' := by
  have HB := mK (Below.refl w.heap.size w)
  have N1 := mK (fun W => impl_isType.calls s (impl_isType.g s) W rfl)
  go_enter Tryd.func73, Tryd.ntmps73
  go_wp2_with (go_at_call 67; (refine (N1.out _).mono ?_); rintro e w2 ⟨rfl, hb⟩; have n0_ := mK (lT HB.out hb); clear HB; have HB := n0_; clear n0_ hb)
  go_ret
  exact ⟨rfl, HB.out⟩
def impl_TypesOk.idx (l : List ByteArray) : Int := match l.findIdx? (fun s => !impl_isType.g s) with | some i => (i : Int) | none => -1
theorem impl_TypesOk.idx_at (l : List ByteArray) (i : Nat) (hi : i < l.length) (h1 : ∀ t : Nat, t < i → impl_isType.g (rdOf ByteArray.empty l (t : Int)) = true) (h2 : impl_isType.g (rdOf ByteArray.empty l (i : Int)) = false) : impl_TypesOk.idx l = i := by
  have g : ∀ t : Nat, (ht : t < l.length) → rdOf ByteArray.empty l (t : Int) = l[t] := fun t ht => by unfold rdOf; rw [Int.toNat_natCast, List.getD_eq_getElem?_getD, List.getElem?_eq_getElem ht]; rfl
  have e : l.findIdx? (fun s => !impl_isType.g s) = some i := by
    rw [List.findIdx?_eq_some_iff_getElem]
    refine ⟨hi, by rw [← g i hi, h2]; rfl, fun j hj => ?_⟩
    have := h1 j hj
    rw [g j (by omega)] at this
    simp [this]
  unfold impl_TypesOk.idx
  rw [e]
theorem impl_TypesOk.idx_none (l : List ByteArray) (h1 : ∀ t : Nat, t < l.length → impl_isType.g (rdOf ByteArray.empty l (t : Int)) = true) : impl_TypesOk.idx l = -1 := by
  have e : l.findIdx? (fun s => !impl_isType.g s) = none := by
    rw [List.findIdx?_eq_none_iff]
    intro x hx
    obtain ⟨t, ht, rfl⟩ := List.getElem_of_mem hx
    have := h1 t ht
    have g : rdOf ByteArray.empty l (t : Int) = l[t] := by unfold rdOf; rw [Int.toNat_natCast, List.getD_eq_getElem?_getD, List.getElem?_eq_getElem ht]; rfl
    rw [g] at this
    simp [this]
  unfold impl_TypesOk.idx
  rw [e]
theorem impl_TypesOk.idx_all (l : List ByteArray) : (!decide (impl_TypesOk.idx l ≥ 0)) = l.all impl_isType.g := by
  unfold impl_TypesOk.idx
  cases e : l.findIdx? (fun s => !impl_isType.g s) with
  | none =>
    rw [List.findIdx?_eq_none_iff] at e
    have : l.all impl_isType.g = true := by rw [List.all_eq_true]; intro x hx; simpa using e x hx
    rw [this]; rfl
  | some i =>
    rw [List.findIdx?_eq_some_iff_getElem] at e
    obtain ⟨hi, h2, _⟩ := e
    have : l.all impl_isType.g = false := by
      rw [List.all_eq_false]; exact ⟨l[i], List.getElem_mem hi, by simpa using h2⟩
    rw [this]; simp
set_option maxHeartbeats 1000000 in
theorem impl_TypesOk.index (A : Option Addr) (c : Nat) (l : List ByteArray) (w : World) (hr : Kd.C Kd.string w A l.length l) (hc : l.length ≤ c) (hsz : l.length ≤ 12) :
    Calls Tryd.prog 118 #[.slice A l.length c, .func (.func 73) #[] #[]] w fun e w' => e = .returned (.int .i64 (impl_TypesOk.idx l)) ∧ Below w.heap.size w w' := by
  have eg : ∀ args w, (callFunc 73 args).run Tryd.prog w = .ok (.enter 73 args) w := enters_of Tryd.func73 (by kernel_rfl) rfl
  have HB := mK (Below.refl w.heap.size w)
  have HR := mK hr
  clear hr
  generalize hidx : impl_TypesOk.idx l = cnt
  have CN := mK hidx
  clear hidx
  go_enter Tryd.func118, Tryd.ntmps118
  go_wp2
  go_loopg [8] l.length (fun kx s8 wr => ∃ i : Nat, s8 = .int .i64 i ∧ i ≤ l.length ∧ l.length - i ≤ kx ∧ Aside0 (Below w.heap.size w wr) ∧ Aside0 (∀ t : Nat, t < i → impl_isType.g (rdOf ByteArray.empty l (t : Int)) = true))
  case atStart => exact ⟨0, rfl, Nat.zero_le _, by omega, HB, ⟨fun t ht => absurd ht (Nat.not_lt_zero _)⟩⟩
  case round =>
    clear HB
    obtain ⟨i, rfl, hin, hg, HB, I⟩ := hrel
    by_cases hlt : i < l.length
    · obtain ⟨ad, ea, hx0⟩ := Kd.at_string HR.out (i : Int) (by omega) (by omega)
      cases ea
      replace hx0 := (HB.out.cell (World.block_lt_of_cell? w _ hx0)).trans hx0
      simp only [Int.toNat_natCast] at hx0
      generalize hy : rdOf ByteArray.empty l (i : Int) = x at hx0
      have Y := mK hy
      clear hy
      have N1 := mK (fun W => impl_TypesOk.closure x W)
      by_cases hyx : impl_isType.g x = true
      · rw [hyx] at N1
        have hyx' := mK hyx
        clear hyx
        have N1' := mK (show ∀ W, Calls Tryd.prog 73 #[.string x] W fun e w' => e = .returned (.bool false) ∧ Below W.heap.size W w' from N1.out)
        clear N1
        go_wp2_with (go_at_fn 73; (refine (N1'.out _).mono ?_); rintro e w2 ⟨rfl, hb⟩; have n0_ := mK (lT HB.out hb); clear HB; have HB := n0_; clear n0_ hb)
        go_roundg (l.length - (i + 1))
        case measure => omega
        case rel => exact ⟨i + 1, rfl, by omega, Nat.le_refl _, HB, ⟨fun t ht => by
            by_cases e : t = i
            · subst e; rw [Y.out]; exact hyx'.out
            · exact I.out t (by omega)⟩⟩
      · have hyx' := mK (Bool.eq_false_iff.2 hyx)
        have N1' := mK (show ∀ W, Calls Tryd.prog 73 #[.string x] W fun e w' => e = .returned (.bool true) ∧ Below W.heap.size W w' from fun W => by have := N1.out W; rw [hyx'.out] at this; exact this)
        clear N1 hyx
        obtain rfl : cnt = (i : Int) := by rw [← CN.out]; exact impl_TypesOk.idx_at l i hlt I.out (by rw [Y.out]; exact hyx'.out)
        go_wp2_with (go_at_fn 73; (refine (N1'.out _).mono ?_); rintro e w2 ⟨rfl, hb⟩; have n0_ := mK (lT HB.out hb); clear HB; have HB := n0_; clear n0_ hb)
        go_ret
        exact ⟨rfl, HB.out⟩
    · obtain rfl : i = l.length := by omega
      obtain rfl : cnt = -1 := by rw [← CN.out]; exact impl_TypesOk.idx_none l I.out
      go_wp2
      go_ret
      exact ⟨rfl, HB.out⟩
set_option maxHeartbeats 1000000 in
theorem impl_TypesOk.contains (A : Option Addr) (c : Nat) (l : List ByteArray) (w : World) (hr : Kd.C Kd.string w A l.length l) (hc : l.length ≤ c) (hsz : l.length ≤ 12) :
    Calls Tryd.prog 72 #[.slice A l.length c, .func (.func 73) #[] #[]] w fun e w' => e = .returned (.bool (decide (impl_TypesOk.idx l ≥ 0))) ∧ Below w.heap.size w w' := by
  have HB := mK (Below.refl w.heap.size w)
  have N1 := mK (fun W (hW : Kd.C Kd.string W A l.length l) => impl_TypesOk.index A c l W hW hc hsz)
  have HR := mK hr
  clear hr
  generalize impl_TypesOk.idx l = cnt at N1 ⊢
  go_enter Tryd.func72, Tryd.ntmps72
  go_wp2_with (go_at_call 118; (refine (N1.out _ (Kd.C_below HR.out HB.out)).mono ?_); rintro e w2 ⟨rfl, hb⟩; have n0_ := mK (lT HB.out hb); clear HB; have HB := n0_; clear n0_ hb)
  go_ret
  exact ⟨rfl, HB.out⟩
def impl_TypesOk.g (l0 : List ByteArray) : Bool := decide (1 ≤ (l0.length : Int) ∧ (l0.length : Int) ≤ 12) && l0.all impl_isType.g
def impl_TypesOk.f (l0 : List ByteArray) : Option (Bool) := some (impl_TypesOk.g l0)
set_option maxHeartbeats 1000000 in
theorem impl_TypesOk.calls (A0 : Option Addr) (c0 : Nat) (l0 : List ByteArray) (r : Bool) (w : World) (hr0 : Kd.C Kd.string w A0 l0.length l0) (hc0 : l0.length ≤ c0) (h : impl_TypesOk.f l0 = some r) :
    Calls Tryd.prog 23 #[.slice A0 l0.length c0] w fun e w' => e = .returned (.bool r) ∧ Below w.heap.size w w' := by
 unfold impl_TypesOk.f impl_TypesOk.g at h; obtain rfl := Option.some.inj h; clear h; have HB := mK (Below.refl w.heap.size w); have NS := mK (fun W (hW : Kd.C Kd.string W A0 l0.length l0) => impl_size_string.calls A0 c0 l0 (l0.length : Int) W hW hc0 rfl); have NW := mK (fun r W h => impl_within.calls (l0.length : Int) 1 12 r W h)
 have hw1 : impl_within.f (l0.length : Int) 1 12 = some (decide (1 ≤ (l0.length : Int) ∧ (l0.length : Int) ≤ 12)) := by
   unfold impl_within.f
   by_cases h1 : (l0.length : Int) ≥ 1
   · rw [if_pos h1]; congr 1; simp [show (1 : Int) ≤ l0.length from h1]
   · rw [if_neg h1]; congr 1; symm; simp; omega
 by_cases hs : (1 ≤ (l0.length : Int) ∧ (l0.length : Int) ≤ 12)
 ·have NT := mK (fun W (hW : Kd.C Kd.string W A0 l0.length l0) => impl_TypesOk.contains A0 c0 l0 W hW hc0 (by omega)); rw [decide_eq_true hs] at hw1 ⊢; rw [Bool.true_and, ← impl_TypesOk.idx_all]; generalize decide (impl_TypesOk.idx l0 ≥ 0) = t at NT ⊢; have HW := mK hw1; have HR := mK hr0; clear hw1 hs hr0; go_enter Tryd.func23, Tryd.ntmps23; go_wp2_with (first | (go_at_call 71; (refine (NS.out _ (Kd.C_below HR.out HB.out)).mono ?_); rintro e w2 ⟨rfl, hd⟩; have n0_ := mK (lT HB.out hd.below); clear HB; have HB := n0_; clear n0_ hd) | (go_at_call 70; (refine (NW.out _ _ HW.out).mono ?_); rintro e w2 ⟨rfl, hd⟩; have n0_ := mK (lT HB.out hd.below); clear HB; have HB := n0_; clear n0_ hd) | (go_at_call 72; (refine (NT.out _ (Kd.C_below HR.out HB.out)).mono ?_); rintro e w2 ⟨rfl, hb⟩; have n0_ := mK (lT HB.out hb); clear HB; have HB := n0_; clear n0_ hb)); go_ret; exact ⟨rfl, HB.out⟩
 ·rw [decide_eq_false hs] at hw1 ⊢; rw [Bool.false_and]; have HW := mK hw1; have HR := mK hr0; clear hw1 hs hr0; go_enter Tryd.func23, Tryd.ntmps23; go_wp2_with (first | (go_at_call 71; (refine (NS.out _ (Kd.C_below HR.out HB.out)).mono ?_); rintro e w2 ⟨rfl, hd⟩; have n0_ := mK (lT HB.out hd.below); clear HB; have HB := n0_; clear n0_ hd) | (go_at_call 70; (refine (NW.out _ _ HW.out).mono ?_); rintro e w2 ⟨rfl, hd⟩; have n0_ := mK (lT HB.out hd.below); clear HB; have HB := n0_; clear n0_ hd)); go_ret; exact ⟨rfl, HB.out⟩


end Go.Proofs.YtknllhfhcgahiaaDoor.PFnExactReadObject
