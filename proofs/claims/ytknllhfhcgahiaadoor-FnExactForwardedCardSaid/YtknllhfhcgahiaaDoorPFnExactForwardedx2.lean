-- by a patched copy of the print (wip/tools/patch_print.py)
import Derived.Test.YtknllhfhcgahiaaDoorPFnExactForwardedx0
import Derived.Test.YtknllhfhcgahiaaDoorPFnExactForwardedx1
namespace Go.Proofs.YtknllhfhcgahiaaDoor.PFnExactForwarded
open Go.RowKit Go.Proofs.YtknllhfhcgahiaaDoorW.PrintWords Go.Proofs.YtknllhfhcgahiaaDoorW.PrintLast Go.Proofs.YtknllhfhcgahiaaDoorW.PrintMore
attribute [local go_sem] max2_int min2_int max_two min_two max_three min_three max_four min_four   -- for this text's walks alone
open Go.Proofs.YtknllhfhcgahiaaDoorW.PrintWords renaming blk_drewN → bN, blk_drew → bD, blk_alloc → bA, below_alloc → lA, pw_below_drewN → lN, below_drew1 → lD, below_set → lS, below_step → lT, blk_cell → bC, blk_frozen → bF
open Go.Proofs.YtknllhfhcgahiaaDoorW.PrintWords.Aside0 renaming mk → mK
set_option linter.unusedVariables false
set_option linter.unusedSimpArgs false

/-! ### spec_l3Type: function 66 -/
def spec_l3Type.l0 : Nat → ByteArray → Int → Option (Bool)
  | 0, _, _ => none
  | k + 1, x0, x3 => if x3 < (x0.size : Int) then (if 0 ≤ x3 then (if (bt x0 x3) = 105 then (spec_l3Type.l0 k x0 (wrap64 (x3 + 1))) else (if (bt x0 x3) = 114 then (spec_l3Type.l0 k x0 (wrap64 (x3 + 1))) else (some false))) else (none)) else ((spec_l1In.f (x0.size : Int) 1 23).bind fun t125 => (some t125))
def spec_l3Type.f (k : Nat) (a0 : ByteArray) : Option (Bool) := spec_l3Type.l0 k a0 0
theorem spec_l3Type.mono_l : ∀ k, (∀ y0 y1, LeO (spec_l3Type.l0 k y0 y1) (spec_l3Type.l0 (k + 1) y0 y1))
  | 0 => fun _ _ r h => by simp [spec_l3Type.l0] at h
  | k + 1 => by
    have ih0 := spec_l3Type.mono_l k
    · intro y0 y1
      unfold spec_l3Type.l0
      repeat' first
      | (with_reducible exact ih0 _ _)
      | (with_reducible exact LeO.refl _)
      | (with_reducible exact LeO.none _)
      | (with_reducible refine LeO.ite ?_ ?_)
      | (with_reducible refine LeO.bind ?_ (fun _ => ?_))
      | exact ih0 _ _
      | exact LeO.none _
      | refine LeO.ite ?_ ?_
      | refine LeO.bind ?_ (fun _ => ?_)
theorem spec_l3Type.mono : ∀ a0 k, LeO (spec_l3Type.f k a0) (spec_l3Type.f (k + 1) a0) := by
  intro a0 k
  have ih0 := spec_l3Type.mono_l k
  unfold spec_l3Type.f
  repeat' first
      | (with_reducible exact ih0 _ _)
      | (with_reducible exact LeO.refl _)
      | (with_reducible exact LeO.none _)
      | (with_reducible refine LeO.ite ?_ ?_)
      | (with_reducible refine LeO.bind ?_ (fun _ => ?_))
      | exact ih0 _ _
      | exact LeO.none _
      | refine LeO.ite ?_ ?_
      | refine LeO.bind ?_ (fun _ => ?_)
set_option maxHeartbeats 8000000 in
set_option maxRecDepth 100000 in
theorem spec_l3Type.calls (k : Nat) (a0 : ByteArray) (r : Bool) (w : World) (h : spec_l3Type.f k a0 = some r) :
    Calls Tryd.prog 66 #[.string a0] w fun e w' => e = .returned (.bool r) ∧ Drawn0 w w' := by
 have H : (spec_l3Type.l0 k a0 0) = some r := h; clear h; have H' := mK H; clear H; go_enter Tryd.func66, Tryd.ntmps66; go_wp2; go_loopg [3] k (fun kq v3 w' => ∃ (x3_1 : Int), v3 = .int .i64 x3_1 ∧ Aside0 (spec_l3Type.l0 kq a0 x3_1 = some r) ∧ Aside0 (kq ≤ k) ∧ Drawn0 w w'); (case atStart => exact ⟨(0), (by first | rfl | (simp; done) | (simp [*]; done)), H', ⟨Nat.le_refl _⟩, by repeat (first | exact Drawn0.refl _ | apply Drawn0.step)⟩)
 case round =>
  clear H'; obtain ⟨x3_1, rfl, HA, HK1, ⟨m1, rfl⟩⟩ := hrel
  cases gk with
  | zero => exact absurd HA.out (by simp [spec_l3Type.l0])
  | succ k1 =>
   have H := HA.out; clear HA; simp only [spec_l3Type.l0] at H; by_cases c2 : x3_1 < (a0.size : Int)
   ·rw [if_pos c2] at H; have c2b0 : decide (x3_1 < (a0.size : Int)) = true := decide_eq_true c2; clear c2; by_cases c3 : 0 ≤ x3_1
    ·rw [if_pos c3] at H; have c3b0 : decide (0 ≤ x3_1) = true := decide_eq_true c3; clear c3; by_cases c5 : (bt a0 x3_1) = 105
     ·rw [if_pos c5] at H; have c5b0 : ((bt a0 x3_1) == 105) = true := beq_iff_eq.mpr c5; have c5b1 : ((bt a0 x3_1) != 105) = false := bne_eq_false_iff_eq.mpr c5; clear c5; have H' := mK H; clear H; have p4 : 0 ≤ (x3_1 : Int) := of_decide_eq_true (by first | (with_reducible assumption) | assumption); have q4 : x3_1 < (a0.size : Int) := of_decide_eq_true (by first | (with_reducible assumption) | assumption); have hx4 := bt_at a0 x3_1; replace p4 := eq_true p4; replace q4 := eq_true q4; go_wp2; go_roundg k1; (case measure => have := HK1.out; omega); (case rel => exact ⟨(wrap64 (x3_1 + 1)), (by first | rfl | (simp; done) | (simp [*]; done)), H', ⟨by have := HK1.out; omega⟩, by repeat (first | exact Drawn0.refl _ | apply Drawn0.step)⟩)
     ·rw [if_neg c5] at H; have c5b0 : ((bt a0 x3_1) == 105) = false := beq_eq_false_iff_ne.mpr c5; have c5b1 : ((bt a0 x3_1) != 105) = true := bne_iff_ne.mpr c5; by_cases c7 : (bt a0 x3_1) = 114
      ·rw [if_pos c7] at H; have c7b0 : ((bt a0 x3_1) == 114) = true := beq_iff_eq.mpr c7; have c7b1 : ((bt a0 x3_1) != 114) = false := bne_eq_false_iff_eq.mpr c7; clear c7; have H' := mK H; clear H; have p4 : 0 ≤ (x3_1 : Int) := of_decide_eq_true (by first | (with_reducible assumption) | assumption); have q4 : x3_1 < (a0.size : Int) := of_decide_eq_true (by first | (with_reducible assumption) | assumption); have hx4 := bt_at a0 x3_1; replace p4 := eq_true p4; replace q4 := eq_true q4; have p6 : 0 ≤ (x3_1 : Int) := of_decide_eq_true (by first | (with_reducible assumption) | assumption); have q6 : x3_1 < (a0.size : Int) := of_decide_eq_true (by first | (with_reducible assumption) | assumption); have hx6 := bt_at a0 x3_1; replace p6 := eq_true p6; replace q6 := eq_true q6; go_wp2; go_roundg k1; (case measure => have := HK1.out; omega); (case rel => exact ⟨(wrap64 (x3_1 + 1)), (by first | rfl | (simp; done) | (simp [*]; done)), H', ⟨by have := HK1.out; omega⟩, by repeat (first | exact Drawn0.refl _ | apply Drawn0.step)⟩)
      ·rw [if_neg c7] at H; have c7b0 : ((bt a0 x3_1) == 114) = false := beq_eq_false_iff_ne.mpr c7; have c7b1 : ((bt a0 x3_1) != 114) = true := bne_iff_ne.mpr c7; obtain rfl := Option.some.inj H; have p4 : 0 ≤ (x3_1 : Int) := of_decide_eq_true (by first | (with_reducible assumption) | assumption); have q4 : x3_1 < (a0.size : Int) := of_decide_eq_true (by first | (with_reducible assumption) | assumption); have hx4 := bt_at a0 x3_1; replace p4 := eq_true p4; replace q4 := eq_true q4; have p6 : 0 ≤ (x3_1 : Int) := of_decide_eq_true (by first | (with_reducible assumption) | assumption); have q6 : x3_1 < (a0.size : Int) := of_decide_eq_true (by first | (with_reducible assumption) | assumption); have hx6 := bt_at a0 x3_1; replace p6 := eq_true p6; replace q6 := eq_true q6; go_wp2; go_ret; exact ⟨by first | rfl | (simp; done) | (simp [*]; done), by repeat (first | exact Drawn0.refl _ | apply Drawn0.step)⟩
    (·rw [if_neg c3] at H; exact absurd H (by simp))
   ·rw [if_neg c2] at H; have c2b0 : decide (x3_1 < (a0.size : Int)) = false := decide_eq_false c2; clear c2; replace H := Option.bind_eq_some_iff.mp H; obtain ⟨t125, A80, H⟩ := H; replace H : (some t125) = some r := H; have A8 := mK A80; clear A80; obtain rfl := Option.some.inj H; go_wp2_with (first | ((with_reducible refine gate_callee (f := 69) rfl ?_); refine goesL_ (some 22) rfl rfl Tryd.func69 (by kernel_rfl) rfl #[.int .i64 (a0.size : Int), .int .i64 1, .int .i64 23] rfl (by (try simp only [List.map_toArray, List.map_cons, List.map_nil]); first | done | rfl | (simp only [List.length_drop, List.length_take]; rfl)) ?_; (with_reducible refine (spec_l1In.calls (a0.size : Int) 1 23 t125 _ A8.out).mono ?_); rintro e w' ⟨rfl, ⟨nd, rfl⟩⟩; refine ⟨_, rfl, ?_⟩)); go_ret; exact ⟨by first | rfl | (simp; done) | (simp [*]; done), by repeat (first | exact Drawn0.refl _ | apply Drawn0.step)⟩

/-! ### spec_TypesOk: function 21 -/
def spec_TypesOk.l0 : Nat → List ByteArray → Int → Option (Bool)
  | 0, _, _ => none
  | k + 1, x0, x3 => if x3 < (x0.length : Int) then (if 0 ≤ x3 then ((spec_l3Type.f k (rdOf ByteArray.empty x0 x3)).bind fun t128 => (if t128 = true then (spec_TypesOk.l0 k x0 (wrap64 (x3 + 1))) else (some false))) else (none)) else (some true)
def spec_TypesOk.f (k : Nat) (l0 : List ByteArray) : Option (Bool) := (spec_l1In.f (l0.length : Int) 1 12).bind fun t126 => (if t126 = true then (spec_TypesOk.l0 k l0 0) else (some false))
theorem spec_TypesOk.mono_l : ∀ k, (∀ y0 y1, LeO (spec_TypesOk.l0 k y0 y1) (spec_TypesOk.l0 (k + 1) y0 y1))
  | 0 => fun _ _ r h => by simp [spec_TypesOk.l0] at h
  | k + 1 => by
    have ih0 := spec_TypesOk.mono_l k
    · intro y0 y1
      unfold spec_TypesOk.l0
      repeat' first
      | (with_reducible exact ih0 _ _)
      | (with_reducible exact spec_l3Type.mono _ _)
      | (with_reducible exact LeO.refl _)
      | (with_reducible exact LeO.none _)
      | (with_reducible refine LeO.ite ?_ ?_)
      | (with_reducible refine LeO.bind ?_ (fun _ => ?_))
      | exact ih0 _ _
      | exact spec_l3Type.mono _ _
      | exact LeO.none _
      | refine LeO.ite ?_ ?_
      | refine LeO.bind ?_ (fun _ => ?_)
theorem spec_TypesOk.mono : ∀ a0 k, LeO (spec_TypesOk.f k a0) (spec_TypesOk.f (k + 1) a0) := by
  intro a0 k
  have ih0 := spec_TypesOk.mono_l k
  unfold spec_TypesOk.f
  repeat' first
      | (with_reducible exact ih0 _ _)
      | (with_reducible exact spec_l3Type.mono _ _)
      | (with_reducible exact LeO.refl _)
      | (with_reducible exact LeO.none _)
      | (with_reducible refine LeO.ite ?_ ?_)
      | (with_reducible refine LeO.bind ?_ (fun _ => ?_))
      | exact ih0 _ _
      | exact spec_l3Type.mono _ _
      | exact LeO.none _
      | refine LeO.ite ?_ ?_
      | refine LeO.bind ?_ (fun _ => ?_)
set_option maxHeartbeats 8000000 in
set_option maxRecDepth 100000 in
theorem spec_TypesOk.calls (k : Nat) (A0 : Option Addr) (c0 : Nat) (l0 : List ByteArray) (r : Bool) (w : World) (hr0 : Kd.C Kd.string w A0 l0.length l0) (hc0 : l0.length ≤ c0) (h : spec_TypesOk.f k l0 = some r) :
    Calls Tryd.prog 21 #[.slice A0 l0.length c0] w fun e w' => e = .returned (.bool r) ∧ Drawn0 w w' := by
 have HR0 := mK hr0; have HC0 := mK hc0; clear hr0 hc0; have H : ((spec_l1In.f (l0.length : Int) 1 12).bind fun t126 => (if t126 = true then (spec_TypesOk.l0 k l0 0) else (some false))) = some r := h; clear h; replace H := Option.bind_eq_some_iff.mp H; obtain ⟨t126, A20, H⟩ := H; replace H : (if t126 = true then (spec_TypesOk.l0 k l0 0) else (some false)) = some r := H; have A2 := mK A20; clear A20; by_cases c3 : t126 = true
 ·subst c3; (have H1 : (spec_TypesOk.l0 k l0 0) = some r := by rw [if_pos rfl] at H; exact H); clear H; have H := H1; clear H1; have H' := mK H; clear H; go_enter Tryd.func21, Tryd.ntmps21; go_wp2_with (first | ((with_reducible refine gate_callee (f := 69) rfl ?_); refine goesL_ (some 6) rfl rfl Tryd.func69 (by kernel_rfl) rfl #[.int .i64 (l0.length : Int), .int .i64 1, .int .i64 12] rfl (by (try simp only [List.map_toArray, List.map_cons, List.map_nil]); first | done | rfl | (simp only [List.length_drop, List.length_take]; rfl)) ?_; (with_reducible refine (spec_l1In.calls (l0.length : Int) 1 12 true _ A2.out).mono ?_); rintro e w' ⟨rfl, ⟨nd, rfl⟩⟩; refine ⟨_, rfl, ?_⟩)); go_loopg [3] k (fun kq v3 w' => ∃ (x3_1 : Int), v3 = .int .i64 x3_1 ∧ Aside0 (spec_TypesOk.l0 kq l0 x3_1 = some r) ∧ Aside0 (kq ≤ k) ∧ Drawn0 w w'); (case atStart => exact ⟨(0), (by first | rfl | (simp; done) | (simp [*]; done)), H', ⟨Nat.le_refl _⟩, by repeat (first | exact Drawn0.refl _ | apply Drawn0.step)⟩)
  case round =>
   clear H'; (try clear c2); (try clear p2); (try clear c3); obtain ⟨x3_1, rfl, HA, HK1, ⟨m1, rfl⟩⟩ := hrel
   cases gk with
   | zero => exact absurd HA.out (by simp [spec_TypesOk.l0])
   | succ k1 =>
    have H := HA.out; clear HA; simp only [spec_TypesOk.l0] at H; by_cases c4 : x3_1 < (l0.length : Int)
    ·rw [if_pos c4] at H; have c4b0 : decide (x3_1 < (l0.length : Int)) = true := decide_eq_true c4; clear c4; by_cases c5 : 0 ≤ x3_1
     ·rw [if_pos c5] at H; have c5b0 : decide (0 ≤ x3_1) = true := decide_eq_true c5; clear c5; replace H := Option.bind_eq_some_iff.mp H; obtain ⟨t128, A60, H⟩ := H; replace H : (if t128 = true then (spec_TypesOk.l0 k1 l0 (wrap64 (x3_1 + 1))) else (some false)) = some r := H; have A6 := mK A60; clear A60; by_cases c7 : t128 = true
      ·subst c7; (have H1 : (spec_TypesOk.l0 k1 l0 (wrap64 (x3_1 + 1))) = some r := by rw [if_pos rfl] at H; exact H); clear H; have H := H1; clear H1; have H' := mK H; clear H; have p127 : 0 ≤ (x3_1 : Int) := of_decide_eq_true (by first | (with_reducible assumption) | assumption); have q127 : x3_1 < (l0.length : Int) := of_decide_eq_true (by first | (with_reducible assumption) | assumption); obtain ⟨ad127, e127, hx127_0⟩ := Kd.at_string HR0.out x3_1 p127 q127; cases e127; replace p127 := eq_true p127; replace q127 := eq_true q127; go_wp2_with (first | ((with_reducible refine gate_callee (f := 66) rfl ?_); refine goesL_ (some 18) rfl rfl Tryd.func66 (by kernel_rfl) rfl #[.string (rdOf ByteArray.empty l0 x3_1)] rfl (by (try simp only [List.map_toArray, List.map_cons, List.map_nil]); first | done | rfl | (simp only [List.length_drop, List.length_take]; rfl)) ?_; (with_reducible refine (spec_l3Type.calls k1 (rdOf ByteArray.empty l0 x3_1) true _ A6.out).mono ?_); rintro e w' ⟨rfl, ⟨nd, rfl⟩⟩; refine ⟨_, rfl, ?_⟩)); go_roundg k1; (case measure => have := HK1.out; omega); (case rel => exact ⟨(wrap64 (x3_1 + 1)), (by first | rfl | (simp; done) | (simp [*]; done)), H', ⟨by have := HK1.out; omega⟩, by repeat (first | exact Drawn0.refl _ | apply Drawn0.step)⟩)
      ·replace c7 := Bool.eq_false_iff.mpr c7; subst c7; (have H1 : (some false) = some r := by rw [if_neg (show ¬ (false = true) by decide)] at H; exact H); clear H; have H := H1; clear H1; obtain rfl := Option.some.inj H; have p127 : 0 ≤ (x3_1 : Int) := of_decide_eq_true (by first | (with_reducible assumption) | assumption); have q127 : x3_1 < (l0.length : Int) := of_decide_eq_true (by first | (with_reducible assumption) | assumption); obtain ⟨ad127, e127, hx127_0⟩ := Kd.at_string HR0.out x3_1 p127 q127; cases e127; replace p127 := eq_true p127; replace q127 := eq_true q127; go_wp2_with (first | ((with_reducible refine gate_callee (f := 66) rfl ?_); refine goesL_ (some 18) rfl rfl Tryd.func66 (by kernel_rfl) rfl #[.string (rdOf ByteArray.empty l0 x3_1)] rfl (by (try simp only [List.map_toArray, List.map_cons, List.map_nil]); first | done | rfl | (simp only [List.length_drop, List.length_take]; rfl)) ?_; (with_reducible refine (spec_l3Type.calls k1 (rdOf ByteArray.empty l0 x3_1) false _ A6.out).mono ?_); rintro e w' ⟨rfl, ⟨nd, rfl⟩⟩; refine ⟨_, rfl, ?_⟩)); go_ret; exact ⟨by first | rfl | (simp; done) | (simp [*]; done), by repeat (first | exact Drawn0.refl _ | apply Drawn0.step)⟩
     (·rw [if_neg c5] at H; exact absurd H (by simp))
    ·rw [if_neg c4] at H; have c4b0 : decide (x3_1 < (l0.length : Int)) = false := decide_eq_false c4; clear c4; obtain rfl := Option.some.inj H; go_wp2; go_ret; exact ⟨by first | rfl | (simp; done) | (simp [*]; done), by repeat (first | exact Drawn0.refl _ | apply Drawn0.step)⟩
 ·replace c3 := Bool.eq_false_iff.mpr c3; subst c3; (have H1 : (some false) = some r := by rw [if_neg (show ¬ (false = true) by decide)] at H; exact H); clear H; have H := H1; clear H1; obtain rfl := Option.some.inj H; go_enter Tryd.func21, Tryd.ntmps21; go_wp2_with (first | ((with_reducible refine gate_callee (f := 69) rfl ?_); refine goesL_ (some 6) rfl rfl Tryd.func69 (by kernel_rfl) rfl #[.int .i64 (l0.length : Int), .int .i64 1, .int .i64 12] rfl (by (try simp only [List.map_toArray, List.map_cons, List.map_nil]); first | done | rfl | (simp only [List.length_drop, List.length_take]; rfl)) ?_; (with_reducible refine (spec_l1In.calls (l0.length : Int) 1 12 false _ A2.out).mono ?_); rintro e w' ⟨rfl, ⟨nd, rfl⟩⟩; refine ⟨_, rfl, ?_⟩)); go_ret; exact ⟨by first | rfl | (simp; done) | (simp [*]; done), by repeat (first | exact Drawn0.refl _ | apply Drawn0.step)⟩

/-! ### spec_RefKind: function 79 -/
def spec_RefKind.j0 : Nat → Int → Bool → Option (Int)
  | 0, _, _ => none
  | k + 1, x0, x6 => if x6 = true then (some 1) else ((spec_l1In.f x0 1 799).bind fun t130 => (if t130 = true then (if (Int.tmod x0 2) = 1 then (some 2) else (some (-1))) else (some (-1))))
def spec_RefKind.f (k : Nat) (a0 : Int) : Option (Int) := if a0 = 0 then (some 0) else ((spec_l1In.f a0 2 254).bind fun t129 => (if t129 = true then (spec_RefKind.j0 k a0 ((Int.tmod a0 2) == 0)) else (spec_RefKind.j0 k a0 false)))
theorem spec_RefKind.mono_l : ∀ k, (∀ y0 y1, LeO (spec_RefKind.j0 k y0 y1) (spec_RefKind.j0 (k + 1) y0 y1))
  | 0 => fun _ _ r h => by simp [spec_RefKind.j0] at h
  | k + 1 => by
    have ih0 := spec_RefKind.mono_l k
    · intro y0 y1
      unfold spec_RefKind.j0
      repeat' first
      | (with_reducible exact ih0 _ _)
      | (with_reducible exact LeO.refl _)
      | (with_reducible exact LeO.none _)
      | (with_reducible refine LeO.ite ?_ ?_)
      | (with_reducible refine LeO.bind ?_ (fun _ => ?_))
      | exact ih0 _ _
      | exact LeO.none _
      | refine LeO.ite ?_ ?_
      | refine LeO.bind ?_ (fun _ => ?_)
theorem spec_RefKind.mono : ∀ a0 k, LeO (spec_RefKind.f k a0) (spec_RefKind.f (k + 1) a0) := by
  intro a0 k
  have ih0 := spec_RefKind.mono_l k
  unfold spec_RefKind.f
  repeat' first
      | (with_reducible exact ih0 _ _)
      | (with_reducible exact LeO.refl _)
      | (with_reducible exact LeO.none _)
      | (with_reducible refine LeO.ite ?_ ?_)
      | (with_reducible refine LeO.bind ?_ (fun _ => ?_))
      | exact ih0 _ _
      | exact LeO.none _
      | refine LeO.ite ?_ ?_
      | refine LeO.bind ?_ (fun _ => ?_)
set_option maxHeartbeats 8000000 in
set_option maxRecDepth 100000 in
theorem spec_RefKind.calls (k : Nat) (a0 : Int) (r : Int) (w : World) (h : spec_RefKind.f k a0 = some r) :
    Calls Tryd.prog 79 #[.int .i64 a0] w fun e w' => e = .returned (.int .i64 r) ∧ Drawn0 w w' := by
 have H : (if a0 = 0 then (some 0) else ((spec_l1In.f a0 2 254).bind fun t129 => (if t129 = true then (spec_RefKind.j0 k a0 ((Int.tmod a0 2) == 0)) else (spec_RefKind.j0 k a0 false)))) = some r := h; clear h; by_cases c2 : a0 = 0
 ·rw [if_pos c2] at H; have c2b0 : (a0 == 0) = true := beq_iff_eq.mpr c2; have c2b1 : (a0 != 0) = false := bne_eq_false_iff_eq.mpr c2; clear c2; obtain rfl := Option.some.inj H; go_enter Tryd.func79, Tryd.ntmps79; go_wp2; go_ret; exact ⟨by first | rfl | (simp; done) | (simp [*]; done), by repeat (first | exact Drawn0.refl _ | apply Drawn0.step)⟩
 ·rw [if_neg c2] at H; have c2b0 : (a0 == 0) = false := beq_eq_false_iff_ne.mpr c2; have c2b1 : (a0 != 0) = true := bne_iff_ne.mpr c2; have HC3 := mK H; clear H; go_enter Tryd.func79, Tryd.ntmps79; go_upto_region 3 with (fail); go_cut [6] (fun v6 wc => ∃ (kq : Nat) (x6_2 : Bool), v6 = .bool x6_2 ∧ Aside0 (spec_RefKind.j0 kq a0 x6_2 = some r) ∧ Aside0 (kq ≤ k) ∧ Drawn0 w wc)
  case first =>
   have H := HC3.out; clear HC3; replace H := Option.bind_eq_some_iff.mp H; obtain ⟨t129, A40, H⟩ := H; replace H : (if t129 = true then (spec_RefKind.j0 k a0 ((Int.tmod a0 2) == 0)) else (spec_RefKind.j0 k a0 false)) = some r := H; have A4 := mK A40; clear A40; by_cases c5 : t129 = true
   ·subst c5; (have H1 : (spec_RefKind.j0 k a0 ((Int.tmod a0 2) == 0)) = some r := by rw [if_pos rfl] at H; exact H); clear H; have H := H1; clear H1; have H' := mK H; clear H; go_wp2_with (first | ((with_reducible refine gate_callee (f := 69) rfl ?_); refine goesL_ (some 8) rfl rfl Tryd.func69 (by kernel_rfl) rfl #[.int .i64 a0, .int .i64 2, .int .i64 254] rfl (by (try simp only [List.map_toArray, List.map_cons, List.map_nil]); first | done | rfl | (simp only [List.length_drop, List.length_take]; rfl)) ?_; (with_reducible refine (spec_l1In.calls a0 2 254 true _ A4.out).mono ?_); rintro e w' ⟨rfl, ⟨nd, rfl⟩⟩; refine ⟨_, rfl, ?_⟩)); go_meet; (case rel => exact ⟨_, (((Int.tmod a0 2) == 0)), (by first | rfl | (simp; done) | (simp [*]; done)), H', ⟨by first | omega | exact Nat.le_refl _⟩, by repeat (first | exact Drawn0.refl _ | apply Drawn0.step)⟩)
   ·replace c5 := Bool.eq_false_iff.mpr c5; subst c5; (have H1 : (spec_RefKind.j0 k a0 false) = some r := by rw [if_neg (show ¬ (false = true) by decide)] at H; exact H); clear H; have H := H1; clear H1; have H' := mK H; clear H; go_wp2_with (first | ((with_reducible refine gate_callee (f := 69) rfl ?_); refine goesL_ (some 8) rfl rfl Tryd.func69 (by kernel_rfl) rfl #[.int .i64 a0, .int .i64 2, .int .i64 254] rfl (by (try simp only [List.map_toArray, List.map_cons, List.map_nil]); first | done | rfl | (simp only [List.length_drop, List.length_take]; rfl)) ?_; (with_reducible refine (spec_l1In.calls a0 2 254 false _ A4.out).mono ?_); rintro e w' ⟨rfl, ⟨nd, rfl⟩⟩; refine ⟨_, rfl, ?_⟩)); go_meet; (case rel => exact ⟨_, (false), (by first | rfl | (simp; done) | (simp [*]; done)), H', ⟨by first | omega | exact Nat.le_refl _⟩, by repeat (first | exact Drawn0.refl _ | apply Drawn0.step)⟩)
  case rest =>
   clear HC3; (try clear c2); (try clear c2b0); (try clear c2b1); (try clear p2); (try clear c5); obtain ⟨kq, x6_2, rfl, HA, HJ2, ⟨mc2, rfl⟩⟩ := hcut
   cases kq with
   | zero => exact absurd HA.out (by simp [spec_RefKind.j0])
   | succ kj2 =>
    have H := HA.out; clear HA; simp only [spec_RefKind.j0] at H; by_cases c6 : x6_2 = true
    ·subst c6; (have H1 : (some 1) = some r := by rw [if_pos rfl] at H; exact H); clear H; have H := H1; clear H1; obtain rfl := Option.some.inj H; go_wp2; go_ret; exact ⟨by first | rfl | (simp; done) | (simp [*]; done), by repeat (first | exact Drawn0.refl _ | apply Drawn0.step)⟩
    ·replace c6 := Bool.eq_false_iff.mpr c6; subst c6; (have H1 : ((spec_l1In.f a0 1 799).bind fun t130 => (if t130 = true then (if (Int.tmod a0 2) = 1 then (some 2) else (some (-1))) else (some (-1)))) = some r := by rw [if_neg (show ¬ (false = true) by decide)] at H; exact H); clear H; have H := H1; clear H1; replace H := Option.bind_eq_some_iff.mp H; obtain ⟨t130, A70, H⟩ := H; replace H : (if t130 = true then (if (Int.tmod a0 2) = 1 then (some 2) else (some (-1))) else (some (-1))) = some r := H; have A7 := mK A70; clear A70; by_cases c8 : t130 = true
     ·subst c8; (have H1 : (if (Int.tmod a0 2) = 1 then (some 2) else (some (-1))) = some r := by rw [if_pos rfl] at H; exact H); clear H; have H := H1; clear H1; by_cases c9 : (Int.tmod a0 2) = 1
      ·rw [if_pos c9] at H; have c9b0 : ((Int.tmod a0 2) == 1) = true := beq_iff_eq.mpr c9; have c9b1 : ((Int.tmod a0 2) != 1) = false := bne_eq_false_iff_eq.mpr c9; clear c9; obtain rfl := Option.some.inj H; go_wp2_with (first | ((with_reducible refine gate_callee (f := 69) rfl ?_); refine goesL_ (some 16) rfl rfl Tryd.func69 (by kernel_rfl) rfl #[.int .i64 a0, .int .i64 1, .int .i64 799] rfl (by (try simp only [List.map_toArray, List.map_cons, List.map_nil]); first | done | rfl | (simp only [List.length_drop, List.length_take]; rfl)) ?_; (with_reducible refine (spec_l1In.calls a0 1 799 true _ A7.out).mono ?_); rintro e w' ⟨rfl, ⟨nd, rfl⟩⟩; refine ⟨_, rfl, ?_⟩)); go_ret; exact ⟨by first | rfl | (simp; done) | (simp [*]; done), by repeat (first | exact Drawn0.refl _ | apply Drawn0.step)⟩
      ·rw [if_neg c9] at H; have c9b0 : ((Int.tmod a0 2) == 1) = false := beq_eq_false_iff_ne.mpr c9; have c9b1 : ((Int.tmod a0 2) != 1) = true := bne_iff_ne.mpr c9; obtain rfl := Option.some.inj H; go_wp2_with (first | ((with_reducible refine gate_callee (f := 69) rfl ?_); refine goesL_ (some 16) rfl rfl Tryd.func69 (by kernel_rfl) rfl #[.int .i64 a0, .int .i64 1, .int .i64 799] rfl (by (try simp only [List.map_toArray, List.map_cons, List.map_nil]); first | done | rfl | (simp only [List.length_drop, List.length_take]; rfl)) ?_; (with_reducible refine (spec_l1In.calls a0 1 799 true _ A7.out).mono ?_); rintro e w' ⟨rfl, ⟨nd, rfl⟩⟩; refine ⟨_, rfl, ?_⟩)); go_ret; exact ⟨by first | rfl | (simp; done) | (simp [*]; done), by repeat (first | exact Drawn0.refl _ | apply Drawn0.step)⟩
     ·replace c8 := Bool.eq_false_iff.mpr c8; subst c8; (have H1 : (some (-1)) = some r := by rw [if_neg (show ¬ (false = true) by decide)] at H; exact H); clear H; have H := H1; clear H1; obtain rfl := Option.some.inj H; go_wp2_with (first | ((with_reducible refine gate_callee (f := 69) rfl ?_); refine goesL_ (some 16) rfl rfl Tryd.func69 (by kernel_rfl) rfl #[.int .i64 a0, .int .i64 1, .int .i64 799] rfl (by (try simp only [List.map_toArray, List.map_cons, List.map_nil]); first | done | rfl | (simp only [List.length_drop, List.length_take]; rfl)) ?_; (with_reducible refine (spec_l1In.calls a0 1 799 false _ A7.out).mono ?_); rintro e w' ⟨rfl, ⟨nd, rfl⟩⟩; refine ⟨_, rfl, ?_⟩)); go_ret; exact ⟨by first | rfl | (simp; done) | (simp [*]; done), by repeat (first | exact Drawn0.refl _ | apply Drawn0.step)⟩

/-! ### spec_ObjOk: function 35 -/
mutual
def spec_ObjOk.j0 : Nat → List ByteArray → Bool → Int → List Int → Option (Bool)
  | 0, _, _, _, _ => none
  | k + 1, x0, x29, x118000, x118001 => if x29 = true then (some false) else (spec_ObjOk.l0 k x0 0 x118000 x118001)
def spec_ObjOk.l0 : Nat → List ByteArray → Int → Int → List Int → Option (Bool)
  | 0, _, _, _, _ => none
  | k + 1, x0, x5, x118000, x118001 => if x5 < (x118001.length : Int) then (if 0 ≤ x118000 then (if x118000 < (x0.length : Int) then (if 0 ≤ x5 then (if x5 < ((rdOf ByteArray.empty x0 x118000).size : Int) then (if (bt (rdOf ByteArray.empty x0 x118000) x5) = 114 then ((spec_RefKind.f k (rd x118001 x5)).bind fun t123 => (if t123 < 0 then (some false) else (spec_ObjOk.l0 k x0 (wrap64 (x5 + 1)) x118000 x118001))) else (spec_ObjOk.l0 k x0 (wrap64 (x5 + 1)) x118000 x118001)) else (none)) else (none)) else (none)) else (none)) else (some true)
end
def spec_ObjOk.f (k : Nat) (l0 : List ByteArray) (a1_0 : Int) (l1_1 : List Int) : Option (Bool) := (spec_TypesOk.f k l0).bind fun t118 => (if t118 = true then ((spec_l1In.f a1_0 0 (wrap64 ((l0.length : Int) - 1))).bind fun t119 => (if t119 = true then (if 0 ≤ a1_0 then (if a1_0 < (l0.length : Int) then (spec_ObjOk.j0 k l0 ((l1_1.length : Int) != ((rdOf ByteArray.empty l0 a1_0).size : Int)) a1_0 l1_1) else (none)) else (none)) else (spec_ObjOk.j0 k l0 true a1_0 l1_1))) else (spec_ObjOk.j0 k l0 true a1_0 l1_1))
theorem spec_ObjOk.mono_l : ∀ k, (∀ y0 y1 y2 y3, LeO (spec_ObjOk.j0 k y0 y1 y2 y3) (spec_ObjOk.j0 (k + 1) y0 y1 y2 y3)) ∧ (∀ y0 y1 y2 y3, LeO (spec_ObjOk.l0 k y0 y1 y2 y3) (spec_ObjOk.l0 (k + 1) y0 y1 y2 y3))
  | 0 => ⟨fun _ _ _ _ r h => by simp [spec_ObjOk.j0] at h, fun _ _ _ _ r h => by simp [spec_ObjOk.l0] at h⟩
  | k + 1 => by
    obtain ⟨ih0, ih1⟩ := spec_ObjOk.mono_l k
    refine ⟨?_, ?_⟩
    · intro y0 y1 y2 y3
      unfold spec_ObjOk.j0
      repeat' first
      | (with_reducible exact ih0 _ _ _ _)
      | (with_reducible exact ih1 _ _ _ _)
      | (with_reducible exact spec_RefKind.mono _ _)
      | (with_reducible exact spec_TypesOk.mono _ _)
      | (with_reducible exact LeO.refl _)
      | (with_reducible exact LeO.none _)
      | (with_reducible refine LeO.ite ?_ ?_)
      | (with_reducible refine LeO.bind ?_ (fun _ => ?_))
      | exact ih0 _ _ _ _
      | exact ih1 _ _ _ _
      | exact spec_RefKind.mono _ _
      | exact spec_TypesOk.mono _ _
      | exact LeO.none _
      | refine LeO.ite ?_ ?_
      | refine LeO.bind ?_ (fun _ => ?_)
    · intro y0 y1 y2 y3
      unfold spec_ObjOk.l0
      repeat' first
      | (with_reducible exact ih0 _ _ _ _)
      | (with_reducible exact ih1 _ _ _ _)
      | (with_reducible exact spec_RefKind.mono _ _)
      | (with_reducible exact spec_TypesOk.mono _ _)
      | (with_reducible exact LeO.refl _)
      | (with_reducible exact LeO.none _)
      | (with_reducible refine LeO.ite ?_ ?_)
      | (with_reducible refine LeO.bind ?_ (fun _ => ?_))
      | exact ih0 _ _ _ _
      | exact ih1 _ _ _ _
      | exact spec_RefKind.mono _ _
      | exact spec_TypesOk.mono _ _
      | exact LeO.none _
      | refine LeO.ite ?_ ?_
      | refine LeO.bind ?_ (fun _ => ?_)
theorem spec_ObjOk.mono : ∀ a0 a1 a2 k, LeO (spec_ObjOk.f k a0 a1 a2) (spec_ObjOk.f (k + 1) a0 a1 a2) := by
  intro a0 a1 a2 k
  obtain ⟨ih0, ih1⟩ := spec_ObjOk.mono_l k
  unfold spec_ObjOk.f
  repeat' first
      | (with_reducible exact ih0 _ _ _ _)
      | (with_reducible exact ih1 _ _ _ _)
      | (with_reducible exact spec_RefKind.mono _ _)
      | (with_reducible exact spec_TypesOk.mono _ _)
      | (with_reducible exact LeO.refl _)
      | (with_reducible exact LeO.none _)
      | (with_reducible refine LeO.ite ?_ ?_)
      | (with_reducible refine LeO.bind ?_ (fun _ => ?_))
      | exact ih0 _ _ _ _
      | exact ih1 _ _ _ _
      | exact spec_RefKind.mono _ _
      | exact spec_TypesOk.mono _ _
      | exact LeO.none _
      | refine LeO.ite ?_ ?_
      | refine LeO.bind ?_ (fun _ => ?_)
set_option maxHeartbeats 8000000 in
set_option maxRecDepth 100000 in
theorem spec_ObjOk.calls (k : Nat) (A0 : Option Addr) (c0 : Nat) (l0 : List ByteArray) (a1_0 : Int) (A1_1 : Option Addr) (c1_1 : Nat) (l1_1 : List Int) (r : Bool) (w : World) (hr0 : Kd.C Kd.string w A0 l0.length l0) (hc0 : l0.length ≤ c0) (hr1_1 : Kd.C (Kd.int .i64) w A1_1 l1_1.length l1_1) (hc1_1 : l1_1.length ≤ c1_1) (h : spec_ObjOk.f k l0 a1_0 l1_1 = some r) :
    Calls Tryd.prog 35 #[.slice A0 l0.length c0, .agg #[.int .i64 a1_0, .slice A1_1 l1_1.length c1_1]] w fun e w' => e = .returned (.bool r) ∧ Below w.heap.size w w' := by
 have hu46 := Tryd.underlying46; have HR0 := mK hr0; have HC0 := mK hc0; clear hr0 hc0; have HR1_1 := mK hr1_1; have HC1_1 := mK hc1_1; clear hr1_1 hc1_1; have HB := mK (Below.refl w.heap.size w); have H : ((spec_TypesOk.f k l0).bind fun t118 => (if t118 = true then ((spec_l1In.f a1_0 0 (wrap64 ((l0.length : Int) - 1))).bind fun t119 => (if t119 = true then (if 0 ≤ a1_0 then (if a1_0 < (l0.length : Int) then (spec_ObjOk.j0 k l0 ((l1_1.length : Int) != ((rdOf ByteArray.empty l0 a1_0).size : Int)) a1_0 l1_1) else (none)) else (none)) else (spec_ObjOk.j0 k l0 true a1_0 l1_1))) else (spec_ObjOk.j0 k l0 true a1_0 l1_1))) = some r := h; clear h; have HC3 := mK H; clear H; go_enter Tryd.func35, Tryd.ntmps35; go_upto_region 1 with (first | ((with_reducible refine gate_dst (N := 3) rfl ?_); (try (refine gate_guard (by rfl) ?_; dsimp only)); refine box_event ?hg (N := 3) ?hd (cs := #[.int .i64 a1_0, .slice A1_1 l1_1.length c1_1]) (t := 46) ?hr ?_; (case hd => rfl); (case hg => rfl); (case hr => first | (go_simp; done) | (go_simp; rfl)); intro gb117 hg w4 hbox hb; have n0_ := mK (lT (by repeat (first | (with_reducible first | exact HB.out | apply lA | apply lN | apply lD) | exact HB.out)) hb); have n1_ := mK (hbox); have n2_ := mK ((by rw [hg]; exact (below_size (by repeat (first | (with_reducible first | exact HB.out | apply lA | apply lN | apply lD) | exact HB.out))) : w.heap.size ≤ gb117)); have n3_ := mK ((by rw [hg]; exact (below_size (by repeat (first | (with_reducible first | exact HB.out | apply lA | apply lN | apply lD) | exact HB.out))) : w.heap.size ≤ gb117)); clear HB; have HB := n0_; have BK117 := n1_; have GW117 := n2_; have GE117 := n3_; clear n0_ n1_ n2_ n3_; clear hb hbox hg)); (repeat (go_quiet (first | ((with_reducible refine gate_dst (N := 3) rfl ?_); (try (refine gate_guard (by rfl) ?_; dsimp only)); refine box_event ?hg (N := 3) ?hd (cs := #[.int .i64 a1_0, .slice A1_1 l1_1.length c1_1]) (t := 46) ?hr ?_; (case hd => rfl); (case hg => rfl); (case hr => first | (go_simp; done) | (go_simp; rfl)); intro gb117 hg w4 hbox hb; have n0_ := mK (lT (by repeat (first | (with_reducible first | exact HB.out | apply lA | apply lN | apply lD) | exact HB.out)) hb); have n1_ := mK (hbox); have n2_ := mK ((by rw [hg]; exact (below_size (by repeat (first | (with_reducible first | exact HB.out | apply lA | apply lN | apply lD) | exact HB.out))) : w.heap.size ≤ gb117)); have n3_ := mK ((by rw [hg]; exact (below_size (by repeat (first | (with_reducible first | exact HB.out | apply lA | apply lN | apply lD) | exact HB.out))) : w.heap.size ≤ gb117)); clear HB; have HB := n0_; have BK117 := n1_; have GW117 := n2_; have GE117 := n3_; clear n0_ n1_ n2_ n3_; clear hb hbox hg)); go_upto_region 1 with (first | ((with_reducible refine gate_dst (N := 3) rfl ?_); (try (refine gate_guard (by rfl) ?_; dsimp only)); refine box_event ?hg (N := 3) ?hd (cs := #[.int .i64 a1_0, .slice A1_1 l1_1.length c1_1]) (t := 46) ?hr ?_; (case hd => rfl); (case hg => rfl); (case hr => first | (go_simp; done) | (go_simp; rfl)); intro gb117 hg w4 hbox hb; have n0_ := mK (lT (by repeat (first | (with_reducible first | exact HB.out | apply lA | apply lN | apply lD) | exact HB.out)) hb); have n1_ := mK (hbox); have n2_ := mK ((by rw [hg]; exact (below_size (by repeat (first | (with_reducible first | exact HB.out | apply lA | apply lN | apply lD) | exact HB.out))) : w.heap.size ≤ gb117)); have n3_ := mK ((by rw [hg]; exact (below_size (by repeat (first | (with_reducible first | exact HB.out | apply lA | apply lN | apply lD) | exact HB.out))) : w.heap.size ≤ gb117)); clear HB; have HB := n0_; have BK117 := n1_; have GW117 := n2_; have GE117 := n3_; clear n0_ n1_ n2_ n3_; clear hb hbox hg)))); (try simp only [Act.put, sI_, s0_, sS_]); go_cut [29] (fun v29 wc => ∃ (kq : Nat) (x29_2 : Bool), v29 = .bool x29_2 ∧ Aside0 (spec_ObjOk.j0 kq l0 x29_2 a1_0 l1_1 = some r) ∧ Aside0 (kq ≤ k) ∧ Aside0 (wc.heap[gb117]? = some (.cells #[.int .i64 a1_0, (.slice A1_1 l1_1.length c1_1)] 46 (0, 0))) ∧ Aside0 (Below w.heap.size w wc))
 case first =>
  have H := HC3.out; clear HC3; replace H := Option.bind_eq_some_iff.mp H; obtain ⟨t118, A50, H⟩ := H; replace H : (if t118 = true then ((spec_l1In.f a1_0 0 (wrap64 ((l0.length : Int) - 1))).bind fun t119 => (if t119 = true then (if 0 ≤ a1_0 then (if a1_0 < (l0.length : Int) then (spec_ObjOk.j0 k l0 ((l1_1.length : Int) != ((rdOf ByteArray.empty l0 a1_0).size : Int)) a1_0 l1_1) else (none)) else (none)) else (spec_ObjOk.j0 k l0 true a1_0 l1_1))) else (spec_ObjOk.j0 k l0 true a1_0 l1_1)) = some r := H; have A5 := mK A50; clear A50; by_cases c6 : t118 = true
  ·subst c6; (have H1 : ((spec_l1In.f a1_0 0 (wrap64 ((l0.length : Int) - 1))).bind fun t119 => (if t119 = true then (if 0 ≤ a1_0 then (if a1_0 < (l0.length : Int) then (spec_ObjOk.j0 k l0 ((l1_1.length : Int) != ((rdOf ByteArray.empty l0 a1_0).size : Int)) a1_0 l1_1) else (none)) else (none)) else (spec_ObjOk.j0 k l0 true a1_0 l1_1))) = some r := by rw [if_pos rfl] at H; exact H); clear H; have H := H1; clear H1; replace H := Option.bind_eq_some_iff.mp H; obtain ⟨t119, A70, H⟩ := H; replace H : (if t119 = true then (if 0 ≤ a1_0 then (if a1_0 < (l0.length : Int) then (spec_ObjOk.j0 k l0 ((l1_1.length : Int) != ((rdOf ByteArray.empty l0 a1_0).size : Int)) a1_0 l1_1) else (none)) else (none)) else (spec_ObjOk.j0 k l0 true a1_0 l1_1)) = some r := H; have A7 := mK A70; clear A70; by_cases c8 : t119 = true
   ·subst c8; (have H1 : (if 0 ≤ a1_0 then (if a1_0 < (l0.length : Int) then (spec_ObjOk.j0 k l0 ((l1_1.length : Int) != ((rdOf ByteArray.empty l0 a1_0).size : Int)) a1_0 l1_1) else (none)) else (none)) = some r := by rw [if_pos rfl] at H; exact H); clear H; have H := H1; clear H1; by_cases c9 : 0 ≤ a1_0
    ·rw [if_pos c9] at H; have c9b0 : decide (0 ≤ a1_0) = true := decide_eq_true c9; clear c9; (first | rw [c9b0] | (simp only [i64_w, i32_w]; rw [c9b0]) | skip); by_cases c10 : a1_0 < (l0.length : Int)
     ·rw [if_pos c10] at H; have c10b0 : decide (a1_0 < (l0.length : Int)) = true := decide_eq_true c10; clear c10; have H' := mK H; clear H; have hcz11_0 : w4.cell? ⟨gb117, 0, none⟩ = some (.int .i64 a1_0) := (bC BK117.out 0).trans rfl; have hcz11_1 : w4.cell? ⟨gb117, 1, none⟩ = some (.slice A1_1 l1_1.length c1_1) := (bC BK117.out 1).trans rfl; have hfz11_0 := bF BK117.out 0; have hfz11_1 := bF BK117.out 1; have p120 : 0 ≤ (a1_0 : Int) := of_decide_eq_true (by first | (with_reducible assumption) | assumption); have q120 : a1_0 < (l0.length : Int) := of_decide_eq_true (by first | (with_reducible assumption) | assumption); obtain ⟨ad120, e120, hx120_0⟩ := Kd.at_string HR0.out a1_0 p120 q120; cases e120; replace hx120_0 := (HB.out.cell (World.block_lt_of_cell? w _ hx120_0)).trans hx120_0; replace p120 := eq_true p120; replace q120 := eq_true q120; go_quiet (first | (go_at_call 21; (with_reducible refine (spec_TypesOk.calls k _ _ l0 true _ ?side1 ?side2 A5.out).mono ?_); (case side1 => repeat (first | exact (Kd.C_below HR0.out HB.out) | (with_reducible refine Kd.C_alloc ?_ _) | (with_reducible refine Kd.C_drewN ?_ _) | (with_reducible refine Kd.C_drew ?_))); (case side2 => exact HC0.out); rintro e w' ⟨rfl, ⟨nd, rfl⟩⟩; (try first | exact ⟨rfl, _, World.drewN_drewN _ _ _⟩ | exact ⟨rfl, _, Eq.trans (World.drewN_drewN _ _ _) (congrArg (World.drewN _) (Nat.add_assoc _ _ _))⟩)) | (go_at_call 69; (try simp only [i64_w]); (with_reducible refine (spec_l1In.calls a1_0 0 (wrap64 ((l0.length : Int) - 1)) true _ A7.out).mono ?_); rintro e w' ⟨rfl, ⟨nd, rfl⟩⟩; (try first | exact ⟨rfl, _, World.drewN_drewN _ _ _⟩ | exact ⟨rfl, _, Eq.trans (World.drewN_drewN _ _ _) (congrArg (World.drewN _) (Nat.add_assoc _ _ _))⟩))); (try go_wp2); go_meet; (case rel => exact ⟨_, (((l1_1.length : Int) != ((rdOf ByteArray.empty l0 a1_0).size : Int))), (by first | rfl | (simp; done) | (simp [*]; done)), H', ⟨by first | omega | exact Nat.le_refl _⟩, ⟨by (with_reducible repeat (first | apply bN | apply bD | apply bA)); exact BK117.out⟩, ⟨by repeat (first | (with_reducible first | exact HB.out | apply lA | apply lN | apply lD | refine lS ?_ GE117.out) | exact HB.out)⟩⟩)
     (·rw [if_neg c10] at H; exact absurd H (by simp))
    (·rw [if_neg c9] at H; exact absurd H (by simp))
   ·replace c8 := Bool.eq_false_iff.mpr c8; subst c8; (have H1 : (spec_ObjOk.j0 k l0 true a1_0 l1_1) = some r := by rw [if_neg (show ¬ (false = true) by decide)] at H; exact H); clear H; have H := H1; clear H1; have H' := mK H; clear H; have hcz12_0 : w4.cell? ⟨gb117, 0, none⟩ = some (.int .i64 a1_0) := (bC BK117.out 0).trans rfl; have hcz12_1 : w4.cell? ⟨gb117, 1, none⟩ = some (.slice A1_1 l1_1.length c1_1) := (bC BK117.out 1).trans rfl; have hfz12_0 := bF BK117.out 0; have hfz12_1 := bF BK117.out 1; go_quiet (first | (go_at_call 21; (with_reducible refine (spec_TypesOk.calls k _ _ l0 true _ ?side1 ?side2 A5.out).mono ?_); (case side1 => repeat (first | exact (Kd.C_below HR0.out HB.out) | (with_reducible refine Kd.C_alloc ?_ _) | (with_reducible refine Kd.C_drewN ?_ _) | (with_reducible refine Kd.C_drew ?_))); (case side2 => exact HC0.out); rintro e w' ⟨rfl, ⟨nd, rfl⟩⟩; (try first | exact ⟨rfl, _, World.drewN_drewN _ _ _⟩ | exact ⟨rfl, _, Eq.trans (World.drewN_drewN _ _ _) (congrArg (World.drewN _) (Nat.add_assoc _ _ _))⟩)) | (go_at_call 69; (try simp only [i64_w]); (with_reducible refine (spec_l1In.calls a1_0 0 (wrap64 ((l0.length : Int) - 1)) false _ A7.out).mono ?_); rintro e w' ⟨rfl, ⟨nd, rfl⟩⟩; (try first | exact ⟨rfl, _, World.drewN_drewN _ _ _⟩ | exact ⟨rfl, _, Eq.trans (World.drewN_drewN _ _ _) (congrArg (World.drewN _) (Nat.add_assoc _ _ _))⟩))); (try go_wp2); go_meet; (case rel => exact ⟨_, (true), (by first | rfl | (simp; done) | (simp [*]; done)), H', ⟨by first | omega | exact Nat.le_refl _⟩, ⟨by (with_reducible repeat (first | apply bN | apply bD | apply bA)); exact BK117.out⟩, ⟨by repeat (first | (with_reducible first | exact HB.out | apply lA | apply lN | apply lD | refine lS ?_ GE117.out) | exact HB.out)⟩⟩)
  ·replace c6 := Bool.eq_false_iff.mpr c6; subst c6; (have H1 : (spec_ObjOk.j0 k l0 true a1_0 l1_1) = some r := by rw [if_neg (show ¬ (false = true) by decide)] at H; exact H); clear H; have H := H1; clear H1; have H' := mK H; clear H; go_quiet (first | (go_at_call 21; (with_reducible refine (spec_TypesOk.calls k _ _ l0 false _ ?side1 ?side2 A5.out).mono ?_); (case side1 => repeat (first | exact (Kd.C_below HR0.out HB.out) | (with_reducible refine Kd.C_alloc ?_ _) | (with_reducible refine Kd.C_drewN ?_ _) | (with_reducible refine Kd.C_drew ?_))); (case side2 => exact HC0.out); rintro e w' ⟨rfl, ⟨nd, rfl⟩⟩; (try first | exact ⟨rfl, _, World.drewN_drewN _ _ _⟩ | exact ⟨rfl, _, Eq.trans (World.drewN_drewN _ _ _) (congrArg (World.drewN _) (Nat.add_assoc _ _ _))⟩))); (try go_wp2); go_meet; (case rel => exact ⟨_, (true), (by first | rfl | (simp; done) | (simp [*]; done)), H', ⟨by first | omega | exact Nat.le_refl _⟩, ⟨by (with_reducible repeat (first | apply bN | apply bD | apply bA)); exact BK117.out⟩, ⟨by repeat (first | (with_reducible first | exact HB.out | apply lA | apply lN | apply lD | refine lS ?_ GE117.out) | exact HB.out)⟩⟩)
 case rest =>
  clear HC3; (try clear c1); (try clear p1); (try clear q1); (try clear hx1); (try clear p2); (try clear c3); (try clear c6); (try clear p6); (try clear c8); (try clear c9); (try clear c9b0); (try clear c10); (try clear c10b0); (try clear p12); (try clear q12); (try clear hx12); (try clear hcz11_0); (try clear hcz11_1); (try clear hcz12_0); (try clear hcz12_1); (try clear hfz11_0); (try clear hfz11_1); (try clear hfz12_0); (try clear hfz12_1); (try clear hx120_0); (try clear p120); (try clear q120); obtain ⟨kq, x29_2, rfl, HA, HJ2, BK117, HB⟩ := hcut
  cases kq with
  | zero => exact absurd HA.out (by simp [spec_ObjOk.j0])
  | succ kj2 =>
   have H := HA.out; clear HA; simp only [spec_ObjOk.j0] at H; by_cases c13 : x29_2 = true
   ·subst c13; (have H1 : (some false) = some r := by rw [if_pos rfl] at H; exact H); clear H; have H := H1; clear H1; obtain rfl := Option.some.inj H; go_wp2; (repeat (go_quiet (fail); try go_wp2)); go_ret; exact ⟨by first | rfl | (simp [errW_none, errW_some] <;> rfl) | (simp [*, errW_none, errW_some] <;> rfl), by repeat (first | (with_reducible first | exact HB.out | apply lA | apply lN | apply lD | refine lS ?_ GE117.out) | exact HB.out)⟩
   ·replace c13 := Bool.eq_false_iff.mpr c13; subst c13; (have H1 : (spec_ObjOk.l0 kj2 l0 0 a1_0 l1_1) = some r := by rw [if_neg (show ¬ (false = true) by decide)] at H; exact H); clear H; have H := H1; clear H1; have H' := mK H; clear H; go_wp2; (repeat (go_quiet (fail); try go_wp2)); go_loopg [5] kj2 (fun kq v5 w' => ∃ (x5_2 : Int), v5 = .int .i64 x5_2 ∧ Aside0 (spec_ObjOk.l0 kq l0 x5_2 a1_0 l1_1 = some r) ∧ Aside0 (kq ≤ kj2) ∧ Aside0 (w'.heap[gb117]? = some (.cells #[.int .i64 a1_0, (.slice A1_1 l1_1.length c1_1)] 46 (0, 0))) ∧ Aside0 (Below w.heap.size w w')); (case atStart => exact ⟨(0), (by first | rfl | (simp; done) | (simp [*]; done)), H', ⟨Nat.le_refl _⟩, ⟨by (with_reducible repeat (first | apply bN | apply bD | apply bA)); exact BK117.out⟩, ⟨by repeat (first | (with_reducible first | exact HB.out | apply lA | apply lN | apply lD | refine lS ?_ GE117.out) | exact HB.out)⟩⟩)
    case round =>
     clear H'; (try clear c1); (try clear p1); (try clear q1); (try clear hx1); (try clear p2); (try clear c3); (try clear c6); (try clear p6); (try clear c8); (try clear c9); (try clear c9b0); (try clear c10); (try clear c10b0); (try clear p12); (try clear q12); (try clear hx12); (try clear c13); (try clear hcz11_0); (try clear hcz11_1); (try clear hcz12_0); (try clear hcz12_1); (try clear hfz11_0); (try clear hfz11_1); (try clear hfz12_0); (try clear hfz12_1); (try clear hx120_0); (try clear p1); (try clear p12); (try clear p120); (try clear p2); (try clear p6); (try clear q1); (try clear q12); (try clear q120); obtain ⟨x5_2, rfl, HA, HK2, BK117, HB⟩ := hrel
     cases gk with
     | zero => exact absurd HA.out (by simp [spec_ObjOk.l0])
     | succ k2 =>
      have H := HA.out; clear HA; simp only [spec_ObjOk.l0] at H; by_cases c14 : x5_2 < (l1_1.length : Int)
      ·rw [if_pos c14] at H; have c14b0 : decide (x5_2 < (l1_1.length : Int)) = true := decide_eq_true c14; clear c14; by_cases c15 : 0 ≤ a1_0
       ·rw [if_pos c15] at H; have c15b0 : decide (0 ≤ a1_0) = true := decide_eq_true c15; clear c15; by_cases c16 : a1_0 < (l0.length : Int)
        ·rw [if_pos c16] at H; have c16b0 : decide (a1_0 < (l0.length : Int)) = true := decide_eq_true c16; clear c16; by_cases c17 : 0 ≤ x5_2
         ·rw [if_pos c17] at H; have c17b0 : decide (0 ≤ x5_2) = true := decide_eq_true c17; clear c17; by_cases c18 : x5_2 < ((rdOf ByteArray.empty l0 a1_0).size : Int)
          ·rw [if_pos c18] at H; have c18b0 : decide (x5_2 < ((rdOf ByteArray.empty l0 a1_0).size : Int)) = true := decide_eq_true c18; clear c18; by_cases c20 : (bt (rdOf ByteArray.empty l0 a1_0) x5_2) = 114
           ·rw [if_pos c20] at H; have c20b0 : ((bt (rdOf ByteArray.empty l0 a1_0) x5_2) == 114) = true := beq_iff_eq.mpr c20; have c20b1 : ((bt (rdOf ByteArray.empty l0 a1_0) x5_2) != 114) = false := bne_eq_false_iff_eq.mpr c20; clear c20; replace H := Option.bind_eq_some_iff.mp H; obtain ⟨t123, A210, H⟩ := H; replace H : (if t123 < 0 then (some false) else (spec_ObjOk.l0 k2 l0 (wrap64 (x5_2 + 1)) a1_0 l1_1)) = some r := H; have A21 := mK A210; clear A210; by_cases c22 : t123 < 0
            ·rw [if_pos c22] at H; have c22b0 : decide (t123 < 0) = true := decide_eq_true c22; clear c22; obtain rfl := Option.some.inj H; have hcz23_0 : wr.cell? ⟨gb117, 0, none⟩ = some (.int .i64 a1_0) := (bC BK117.out 0).trans rfl; have hcz23_1 : wr.cell? ⟨gb117, 1, none⟩ = some (.slice A1_1 l1_1.length c1_1) := (bC BK117.out 1).trans rfl; have hfz23_0 := bF BK117.out 0; have hfz23_1 := bF BK117.out 1; have p121 : 0 ≤ (a1_0 : Int) := of_decide_eq_true (by first | (with_reducible assumption) | assumption); have q121 : a1_0 < (l0.length : Int) := of_decide_eq_true (by first | (with_reducible assumption) | assumption); obtain ⟨ad121, e121, hx121_0⟩ := Kd.at_string HR0.out a1_0 p121 q121; cases e121; replace hx121_0 := (HB.out.cell (World.block_lt_of_cell? w _ hx121_0)).trans hx121_0; replace p121 := eq_true p121; replace q121 := eq_true q121; have p19 : 0 ≤ (x5_2 : Int) := of_decide_eq_true (by first | (with_reducible assumption) | assumption); have q19 : x5_2 < ((rdOf ByteArray.empty l0 a1_0).size : Int) := of_decide_eq_true (by first | (with_reducible assumption) | assumption); have hx19 := bt_at (rdOf ByteArray.empty l0 a1_0) x5_2; replace p19 := eq_true p19; replace q19 := eq_true q19; have p122 : 0 ≤ (x5_2 : Int) := of_decide_eq_true (by first | (with_reducible assumption) | assumption); have q122 : x5_2 < (l1_1.length : Int) := of_decide_eq_true (by first | (with_reducible assumption) | assumption); obtain ⟨ad122, e122, hx122_0⟩ := Kd.at_int HR1_1.out x5_2 p122 q122; cases e122; replace hx122_0 := (HB.out.cell (World.block_lt_of_cell? w _ hx122_0)).trans hx122_0; replace p122 := eq_true p122; replace q122 := eq_true q122; go_wp2_with (first | (go_at_call 79; (with_reducible refine (spec_RefKind.calls k2 (rd l1_1 x5_2) t123 _ A21.out).mono ?_); rintro e w' ⟨rfl, ⟨nd, rfl⟩⟩; (try first | exact ⟨rfl, _, World.drewN_drewN _ _ _⟩ | exact ⟨rfl, _, Eq.trans (World.drewN_drewN _ _ _) (congrArg (World.drewN _) (Nat.add_assoc _ _ _))⟩))); (repeat (go_quiet (first | (go_at_call 79; (with_reducible refine (spec_RefKind.calls k2 (rd l1_1 x5_2) t123 _ A21.out).mono ?_); rintro e w' ⟨rfl, ⟨nd, rfl⟩⟩; (try first | exact ⟨rfl, _, World.drewN_drewN _ _ _⟩ | exact ⟨rfl, _, Eq.trans (World.drewN_drewN _ _ _) (congrArg (World.drewN _) (Nat.add_assoc _ _ _))⟩))); try go_wp2_with (first | (go_at_call 79; (with_reducible refine (spec_RefKind.calls k2 (rd l1_1 x5_2) t123 _ A21.out).mono ?_); rintro e w' ⟨rfl, ⟨nd, rfl⟩⟩; (try first | exact ⟨rfl, _, World.drewN_drewN _ _ _⟩ | exact ⟨rfl, _, Eq.trans (World.drewN_drewN _ _ _) (congrArg (World.drewN _) (Nat.add_assoc _ _ _))⟩))))); go_ret; exact ⟨by first | rfl | (simp [errW_none, errW_some] <;> rfl) | (simp [*, errW_none, errW_some] <;> rfl), by repeat (first | (with_reducible first | exact HB.out | apply lA | apply lN | apply lD | refine lS ?_ GE117.out) | exact HB.out)⟩
            ·rw [if_neg c22] at H; have c22b0 : decide (t123 < 0) = false := decide_eq_false c22; clear c22; have H' := mK H; clear H; have hcz24_0 : wr.cell? ⟨gb117, 0, none⟩ = some (.int .i64 a1_0) := (bC BK117.out 0).trans rfl; have hcz24_1 : wr.cell? ⟨gb117, 1, none⟩ = some (.slice A1_1 l1_1.length c1_1) := (bC BK117.out 1).trans rfl; have hfz24_0 := bF BK117.out 0; have hfz24_1 := bF BK117.out 1; have p121 : 0 ≤ (a1_0 : Int) := of_decide_eq_true (by first | (with_reducible assumption) | assumption); have q121 : a1_0 < (l0.length : Int) := of_decide_eq_true (by first | (with_reducible assumption) | assumption); obtain ⟨ad121, e121, hx121_0⟩ := Kd.at_string HR0.out a1_0 p121 q121; cases e121; replace hx121_0 := (HB.out.cell (World.block_lt_of_cell? w _ hx121_0)).trans hx121_0; replace p121 := eq_true p121; replace q121 := eq_true q121; have p19 : 0 ≤ (x5_2 : Int) := of_decide_eq_true (by first | (with_reducible assumption) | assumption); have q19 : x5_2 < ((rdOf ByteArray.empty l0 a1_0).size : Int) := of_decide_eq_true (by first | (with_reducible assumption) | assumption); have hx19 := bt_at (rdOf ByteArray.empty l0 a1_0) x5_2; replace p19 := eq_true p19; replace q19 := eq_true q19; have p122 : 0 ≤ (x5_2 : Int) := of_decide_eq_true (by first | (with_reducible assumption) | assumption); have q122 : x5_2 < (l1_1.length : Int) := of_decide_eq_true (by first | (with_reducible assumption) | assumption); obtain ⟨ad122, e122, hx122_0⟩ := Kd.at_int HR1_1.out x5_2 p122 q122; cases e122; replace hx122_0 := (HB.out.cell (World.block_lt_of_cell? w _ hx122_0)).trans hx122_0; replace p122 := eq_true p122; replace q122 := eq_true q122; go_wp2_with (first | (go_at_call 79; (with_reducible refine (spec_RefKind.calls k2 (rd l1_1 x5_2) t123 _ A21.out).mono ?_); rintro e w' ⟨rfl, ⟨nd, rfl⟩⟩; (try first | exact ⟨rfl, _, World.drewN_drewN _ _ _⟩ | exact ⟨rfl, _, Eq.trans (World.drewN_drewN _ _ _) (congrArg (World.drewN _) (Nat.add_assoc _ _ _))⟩))); (repeat (go_quiet (first | (go_at_call 79; (with_reducible refine (spec_RefKind.calls k2 (rd l1_1 x5_2) t123 _ A21.out).mono ?_); rintro e w' ⟨rfl, ⟨nd, rfl⟩⟩; (try first | exact ⟨rfl, _, World.drewN_drewN _ _ _⟩ | exact ⟨rfl, _, Eq.trans (World.drewN_drewN _ _ _) (congrArg (World.drewN _) (Nat.add_assoc _ _ _))⟩))); try go_wp2_with (first | (go_at_call 79; (with_reducible refine (spec_RefKind.calls k2 (rd l1_1 x5_2) t123 _ A21.out).mono ?_); rintro e w' ⟨rfl, ⟨nd, rfl⟩⟩; (try first | exact ⟨rfl, _, World.drewN_drewN _ _ _⟩ | exact ⟨rfl, _, Eq.trans (World.drewN_drewN _ _ _) (congrArg (World.drewN _) (Nat.add_assoc _ _ _))⟩))))); go_roundg k2; (case measure => have := HJ2.out; have := HK2.out; omega); (case rel => exact ⟨(wrap64 (x5_2 + 1)), (by first | rfl | (simp; done) | (simp [*]; done)), H', ⟨by have := HJ2.out; have := HK2.out; omega⟩, ⟨by (with_reducible repeat (first | apply bN | apply bD | apply bA)); exact BK117.out⟩, ⟨by repeat (first | (with_reducible first | exact HB.out | apply lA | apply lN | apply lD | refine lS ?_ GE117.out) | exact HB.out)⟩⟩)
           ·rw [if_neg c20] at H; have c20b0 : ((bt (rdOf ByteArray.empty l0 a1_0) x5_2) == 114) = false := beq_eq_false_iff_ne.mpr c20; have c20b1 : ((bt (rdOf ByteArray.empty l0 a1_0) x5_2) != 114) = true := bne_iff_ne.mpr c20; have H' := mK H; clear H; have hcz25_0 : wr.cell? ⟨gb117, 0, none⟩ = some (.int .i64 a1_0) := (bC BK117.out 0).trans rfl; have hcz25_1 : wr.cell? ⟨gb117, 1, none⟩ = some (.slice A1_1 l1_1.length c1_1) := (bC BK117.out 1).trans rfl; have hfz25_0 := bF BK117.out 0; have hfz25_1 := bF BK117.out 1; have p121 : 0 ≤ (a1_0 : Int) := of_decide_eq_true (by first | (with_reducible assumption) | assumption); have q121 : a1_0 < (l0.length : Int) := of_decide_eq_true (by first | (with_reducible assumption) | assumption); obtain ⟨ad121, e121, hx121_0⟩ := Kd.at_string HR0.out a1_0 p121 q121; cases e121; replace hx121_0 := (HB.out.cell (World.block_lt_of_cell? w _ hx121_0)).trans hx121_0; replace p121 := eq_true p121; replace q121 := eq_true q121; have p19 : 0 ≤ (x5_2 : Int) := of_decide_eq_true (by first | (with_reducible assumption) | assumption); have q19 : x5_2 < ((rdOf ByteArray.empty l0 a1_0).size : Int) := of_decide_eq_true (by first | (with_reducible assumption) | assumption); have hx19 := bt_at (rdOf ByteArray.empty l0 a1_0) x5_2; replace p19 := eq_true p19; replace q19 := eq_true q19; go_wp2; (repeat (go_quiet (fail); try go_wp2)); go_roundg k2; (case measure => have := HJ2.out; have := HK2.out; omega); (case rel => exact ⟨(wrap64 (x5_2 + 1)), (by first | rfl | (simp; done) | (simp [*]; done)), H', ⟨by have := HJ2.out; have := HK2.out; omega⟩, ⟨by (with_reducible repeat (first | apply bN | apply bD | apply bA)); exact BK117.out⟩, ⟨by repeat (first | (with_reducible first | exact HB.out | apply lA | apply lN | apply lD | refine lS ?_ GE117.out) | exact HB.out)⟩⟩)
          (·rw [if_neg c18] at H; exact absurd H (by simp))
         (·rw [if_neg c17] at H; exact absurd H (by simp))
        (·rw [if_neg c16] at H; exact absurd H (by simp))
       (·rw [if_neg c15] at H; exact absurd H (by simp))
      ·rw [if_neg c14] at H; have c14b0 : decide (x5_2 < (l1_1.length : Int)) = false := decide_eq_false c14; clear c14; obtain rfl := Option.some.inj H; have hcz26_0 : wr.cell? ⟨gb117, 0, none⟩ = some (.int .i64 a1_0) := (bC BK117.out 0).trans rfl; have hcz26_1 : wr.cell? ⟨gb117, 1, none⟩ = some (.slice A1_1 l1_1.length c1_1) := (bC BK117.out 1).trans rfl; have hfz26_0 := bF BK117.out 0; have hfz26_1 := bF BK117.out 1; go_wp2; (repeat (go_quiet (fail); try go_wp2)); go_ret; exact ⟨by first | rfl | (simp [errW_none, errW_some] <;> rfl) | (simp [*, errW_none, errW_some] <;> rfl), by repeat (first | (with_reducible first | exact HB.out | apply lA | apply lN | apply lD | refine lS ?_ GE117.out) | exact HB.out)⟩



end Go.Proofs.YtknllhfhcgahiaaDoor.PFnExactForwarded
