-- by a patched copy of the print (wip/tools/patch_print.py)
import Derived.Test.YtknllhfhcgahiaaDoorPFnSupersx0
namespace Go.Proofs.YtknllhfhcgahiaaDoor.PFnSupers
open List renaming map_toArray → mT_, map_cons → mC_, map_nil → mN_
open Go.RowKit Go.Proofs.YtknllhfhcgahiaaDoorW.PrintWords Go.Proofs.YtknllhfhcgahiaaDoorW.PrintLast Go.Proofs.YtknllhfhcgahiaaDoorW.PrintMore
attribute [local go_sem] max2_int min2_int max_two min_two max_three min_three max_four min_four
open Go.Proofs.YtknllhfhcgahiaaDoorW.PrintWords renaming blk_drewN → bN, blk_drew → bD, blk_alloc → bA, below_alloc → lA, pw_below_drewN → lN, below_drew1 → lD, below_set → lS, below_step → lT, blk_below → bB, blk_cell → bC, blk_frozen → bF
open Go.Proofs.YtknllhfhcgahiaaDoorW.PrintWords.Aside0 renaming mk → mK
open Go.Proofs.YtknllhfhcgahiaaDoorW.PrintWords.Kd renaming C_below → cB
set_option linter.unusedVariables false
set_option maxHeartbeats 8000000
set_option maxRecDepth 1000000
set_option linter.unusedSimpArgs false
def laws_big.f (l0 : List Int) : Option (Bool) := some (decide ((l0.length : Int) > 1048576))
theorem laws_big.calls (A0 : Option Addr) (c0 : Nat) (l0 : List Int) (r : Bool) (w : World) (hr0 : Kd.C (Kd.int .u8) w A0 l0.length l0) (hc0 : l0.length ≤ c0) (h : laws_big.f l0 = some r) :
    Calls Tryd.prog 25 #[.slice A0 l0.length c0] w fun e w' => e = .returned (.bool r) ∧ Drawn0 w w' := by
 have HR0 := mK hr0; have HC0 := mK hc0; clear hr0 hc0; have H : (some (decide ((l0.length : Int) > 1048576))) = some r := h; clear h; obtain rfl := Option.some.inj H; go_enter Tryd.func25, Tryd.ntmps25; go_wp2; go_ret; exact ⟨by first | rfl | (simp; done) | (simp [*]; done), by repeat (first | exact Drawn0.refl _ | apply Drawn0.step)⟩
def spec_l1In.f (a0 : Int) (a1 : Int) (a2 : Int) : Option (Bool) := if a0 ≥ a1 then (some (decide (a0 ≤ a2))) else (some false)
theorem spec_l1In.calls (a0 : Int) (a1 : Int) (a2 : Int) (r : Bool) (w : World) (h : spec_l1In.f a0 a1 a2 = some r) :
    Calls Tryd.prog 69 #[.int .i64 a0, .int .i64 a1, .int .i64 a2] w fun e w' => e = .returned (.bool r) ∧ Drawn0 w w' := by
 have H : (if a0 ≥ a1 then (some (decide (a0 ≤ a2))) else (some false)) = some r := h; clear h; by_cases c4 : a0 ≥ a1
 ·rw [if_pos c4] at H; have c4b0 : decide (a1 ≤ a0) = true := decide_eq_true c4; clear c4; obtain rfl := Option.some.inj H; go_enter Tryd.func69, Tryd.ntmps69; go_wp2; go_ret; exact ⟨by first | rfl | (simp; done) | (simp [*]; done), by repeat (first | exact Drawn0.refl _ | apply Drawn0.step)⟩
 ·rw [if_neg c4] at H; have c4b0 : decide (a1 ≤ a0) = false := decide_eq_false c4; clear c4; obtain rfl := Option.some.inj H; go_enter Tryd.func69, Tryd.ntmps69; go_wp2; go_ret; exact ⟨by first | rfl | (simp; done) | (simp [*]; done), by repeat (first | exact Drawn0.refl _ | apply Drawn0.step)⟩
def spec_l3Type.l0 : Nat → ByteArray → Int → Option (Bool)
  | 0, _, _ => none
  | k + 1, x0, x3 => if x3 < (x0.size : Int) then (if 0 ≤ x3 then (if (bt x0 x3) = 105 then (spec_l3Type.l0 k x0 (wrap64 (x3 + 1))) else (if (bt x0 x3) = 114 then (spec_l3Type.l0 k x0 (wrap64 (x3 + 1))) else (some false))) else (none)) else ((spec_l1In.f (x0.size : Int) 1 23).bind fun t101 => (some t101))
def spec_l3Type.f (k : Nat) (a0 : ByteArray) : Option (Bool) := spec_l3Type.l0 k a0 0
theorem spec_l3Type.mono_l : ∀ k, (∀ y0 y1, LeO (spec_l3Type.l0 k y0 y1) (spec_l3Type.l0 (k + 1) y0 y1))
  | 0 => fun _ _ r h => by simp [spec_l3Type.l0] at h
  | k + 1 => by
    have ih0 := spec_l3Type.mono_l k
    · intro y0 y1
      unfold spec_l3Type.l0
      repeat' first
      | (with_reducible first | exact ih0 _ _ | exact LeO.refl _ | exact LeO.none _ | refine LeO.ite ?_ ?_ | refine LeO.bind ?_ (fun _ => ?_))
      | exact ih0 _ _
      | exact LeO.none _
      | refine LeO.ite ?_ ?_
      | refine LeO.bind ?_ (fun _ => ?_)
theorem spec_l3Type.mono : ∀ a0 k, LeO (spec_l3Type.f k a0) (spec_l3Type.f (k + 1) a0) := by
  intro a0 k
  have ih0 := spec_l3Type.mono_l k
  unfold spec_l3Type.f
  repeat' first
      | (with_reducible first | exact ih0 _ _ | exact LeO.refl _ | exact LeO.none _ | refine LeO.ite ?_ ?_ | refine LeO.bind ?_ (fun _ => ?_))
      | exact ih0 _ _
      | exact LeO.none _
      | refine LeO.ite ?_ ?_
      | refine LeO.bind ?_ (fun _ => ?_)
theorem spec_l3Type.calls (k : Nat) (a0 : ByteArray) (r : Bool) (w : World) (h : spec_l3Type.f k a0 = some r) :
    Calls Tryd.prog 66 #[.string a0] w fun e w' => e = .returned (.bool r) ∧ Drawn0 w w' := by
 have H : (spec_l3Type.l0 k a0 0) = some r := h; clear h; have H' := mK H; clear H; go_enter Tryd.func66, Tryd.ntmps66; go_wp2; go_loopg [3] k (fun kq v3 w' => ∃ (x3_1 : Int), v3 = .int .i64 x3_1 ∧ Aside0 (spec_l3Type.l0 kq a0 x3_1 = some r) ∧ Aside0 (kq ≤ k) ∧ Drawn0 w w'); (case atStart => exact ⟨(0), (by first | rfl | (simp; done) | (simp [*]; done)), H', ⟨Nat.le_refl _⟩, by repeat (first | exact Drawn0.refl _ | apply Drawn0.step)⟩)
 case round =>
  clear H'; obtain ⟨x3_1, rfl, HA, HK1, ⟨m1, rfl⟩⟩ := hrel
  cases gk with
  | zero => exact absurd HA.out (by simp [spec_l3Type.l0])
  | succ k1 =>
   have H := HA.out; clear HA; simp only [spec_l3Type.l0] at H; by_cases c2 : x3_1 < (a0.size : Int)
   ·rw [if_pos c2] at H; have c2b0 : decide (x3_1 < (a0.size : Int)) = true := decide_eq_true c2; clear c2; by_cases c3 : 0 ≤ x3_1
    ·rw [if_pos c3] at H; have c3b0 : decide (0 ≤ x3_1) = true := decide_eq_true c3; clear c3; by_cases c5 : (bt a0 x3_1) = 105
     ·rw [if_pos c5] at H; have c5b0 : ((bt a0 x3_1) == 105) = true := beq_iff_eq.mpr c5; have c5b1 : ((bt a0 x3_1) != 105) = false := bne_eq_false_iff_eq.mpr c5; clear c5; have H' := mK H; clear H; have p4 : 0 ≤ (x3_1 : Int) := of_decide_eq_true (by first | (with_reducible assumption) | assumption); have q4 : x3_1 < (a0.size : Int) := of_decide_eq_true (by first | (with_reducible assumption) | assumption); have hx4 := bt_at a0 x3_1; replace p4 := eq_true p4; replace q4 := eq_true q4; go_wp2; go_roundg k1; (case measure => have := HK1.out; omega); (case rel => exact ⟨(wrap64 (x3_1 + 1)), (by first | rfl | (simp; done) | (simp [*]; done)), H', ⟨by have := HK1.out; omega⟩, by repeat (first | exact Drawn0.refl _ | apply Drawn0.step)⟩)
     ·rw [if_neg c5] at H; have c5b0 : ((bt a0 x3_1) == 105) = false := beq_eq_false_iff_ne.mpr c5; have c5b1 : ((bt a0 x3_1) != 105) = true := bne_iff_ne.mpr c5; by_cases c7 : (bt a0 x3_1) = 114
      ·rw [if_pos c7] at H; have c7b0 : ((bt a0 x3_1) == 114) = true := beq_iff_eq.mpr c7; have c7b1 : ((bt a0 x3_1) != 114) = false := bne_eq_false_iff_eq.mpr c7; clear c7; have H' := mK H; clear H; have p4 : 0 ≤ (x3_1 : Int) := of_decide_eq_true (by first | (with_reducible assumption) | assumption); have q4 : x3_1 < (a0.size : Int) := of_decide_eq_true (by first | (with_reducible assumption) | assumption); have hx4 := bt_at a0 x3_1; replace p4 := eq_true p4; replace q4 := eq_true q4; have p6 : 0 ≤ (x3_1 : Int) := of_decide_eq_true (by first | (with_reducible assumption) | assumption); have q6 : x3_1 < (a0.size : Int) := of_decide_eq_true (by first | (with_reducible assumption) | assumption); have hx6 := bt_at a0 x3_1; replace p6 := eq_true p6; replace q6 := eq_true q6; go_wp2; go_roundg k1; (case measure => have := HK1.out; omega); (case rel => exact ⟨(wrap64 (x3_1 + 1)), (by first | rfl | (simp; done) | (simp [*]; done)), H', ⟨by have := HK1.out; omega⟩, by repeat (first | exact Drawn0.refl _ | apply Drawn0.step)⟩)
      ·rw [if_neg c7] at H; have c7b0 : ((bt a0 x3_1) == 114) = false := beq_eq_false_iff_ne.mpr c7; have c7b1 : ((bt a0 x3_1) != 114) = true := bne_iff_ne.mpr c7; obtain rfl := Option.some.inj H; have p4 : 0 ≤ (x3_1 : Int) := of_decide_eq_true (by first | (with_reducible assumption) | assumption); have q4 : x3_1 < (a0.size : Int) := of_decide_eq_true (by first | (with_reducible assumption) | assumption); have hx4 := bt_at a0 x3_1; replace p4 := eq_true p4; replace q4 := eq_true q4; have p6 : 0 ≤ (x3_1 : Int) := of_decide_eq_true (by first | (with_reducible assumption) | assumption); have q6 : x3_1 < (a0.size : Int) := of_decide_eq_true (by first | (with_reducible assumption) | assumption); have hx6 := bt_at a0 x3_1; replace p6 := eq_true p6; replace q6 := eq_true q6; go_wp2; go_ret; exact ⟨by first | rfl | (simp; done) | (simp [*]; done), by repeat (first | exact Drawn0.refl _ | apply Drawn0.step)⟩
    (·rw [if_neg c3] at H; exact absurd H (by simp))
   ·rw [if_neg c2] at H; have c2b0 : decide (x3_1 < (a0.size : Int)) = false := decide_eq_false c2; clear c2; replace H := Option.bind_eq_some_iff.mp H; obtain ⟨t101, A80, H⟩ := H; (try dsimp only at H); have A8 := mK A80; clear A80; obtain rfl := Option.some.inj H; go_wp2_with (first | ((with_reducible refine gate_callee (f := 69) rfl ?_); refine goesL_ (some 22) rfl rfl Tryd.func69 (by kernel_rfl) rfl #[.int .i64 (a0.size : Int), .int .i64 1, .int .i64 23] rfl (by (try simp only [mT_, mC_, mN_]) <;> rfl) ?_; (with_reducible refine (spec_l1In.calls (a0.size : Int) 1 23 t101 _ A8.out).mono ?_); rintro e w' ⟨rfl, ⟨nd, rfl⟩⟩; refine ⟨_, rfl, ?_⟩)); go_ret; exact ⟨by first | rfl | (simp; done) | (simp [*]; done), by repeat (first | exact Drawn0.refl _ | apply Drawn0.step)⟩
def spec_TypesOk.l0 : Nat → List ByteArray → Int → Option (Bool)
  | 0, _, _ => none
  | k + 1, x0, x3 => if x3 < (x0.length : Int) then (if 0 ≤ x3 then ((spec_l3Type.f k (rdOf ByteArray.empty x0 x3)).bind fun t104 => (if t104 = true then (spec_TypesOk.l0 k x0 (wrap64 (x3 + 1))) else (some false))) else (none)) else (some true)
def spec_TypesOk.f (k : Nat) (l0 : List ByteArray) : Option (Bool) := (spec_l1In.f (l0.length : Int) 1 12).bind fun t102 => (if t102 = true then (spec_TypesOk.l0 k l0 0) else (some false))
theorem spec_TypesOk.mono_l : ∀ k, (∀ y0 y1, LeO (spec_TypesOk.l0 k y0 y1) (spec_TypesOk.l0 (k + 1) y0 y1))
  | 0 => fun _ _ r h => by simp [spec_TypesOk.l0] at h
  | k + 1 => by
    have ih0 := spec_TypesOk.mono_l k
    · intro y0 y1
      unfold spec_TypesOk.l0
      repeat' first
      | (with_reducible first | exact ih0 _ _ | exact spec_l3Type.mono _ _ | exact LeO.refl _ | exact LeO.none _ | refine LeO.ite ?_ ?_ | refine LeO.bind ?_ (fun _ => ?_))
      | exact ih0 _ _
      | exact spec_l3Type.mono _ _
      | exact LeO.none _
      | refine LeO.ite ?_ ?_
      | refine LeO.bind ?_ (fun _ => ?_)
theorem spec_TypesOk.mono : ∀ a0 k, LeO (spec_TypesOk.f k a0) (spec_TypesOk.f (k + 1) a0) := by
  intro a0 k
  have ih0 := spec_TypesOk.mono_l k
  unfold spec_TypesOk.f
  repeat' first
      | (with_reducible first | exact ih0 _ _ | exact spec_l3Type.mono _ _ | exact LeO.refl _ | exact LeO.none _ | refine LeO.ite ?_ ?_ | refine LeO.bind ?_ (fun _ => ?_))
      | exact ih0 _ _
      | exact spec_l3Type.mono _ _
      | exact LeO.none _
      | refine LeO.ite ?_ ?_
      | refine LeO.bind ?_ (fun _ => ?_)
theorem spec_TypesOk.calls (k : Nat) (A0 : Option Addr) (c0 : Nat) (l0 : List ByteArray) (r : Bool) (w : World) (hr0 : Kd.C Kd.string w A0 l0.length l0) (hc0 : l0.length ≤ c0) (h : spec_TypesOk.f k l0 = some r) :
    Calls Tryd.prog 21 #[.slice A0 l0.length c0] w fun e w' => e = .returned (.bool r) ∧ Drawn0 w w' := by
 have HR0 := mK hr0; have HC0 := mK hc0; clear hr0 hc0; have H : ((spec_l1In.f (l0.length : Int) 1 12).bind fun t102 => (if t102 = true then (spec_TypesOk.l0 k l0 0) else (some false))) = some r := h; clear h; replace H := Option.bind_eq_some_iff.mp H; obtain ⟨t102, A20, H⟩ := H; (try dsimp only at H); have A2 := mK A20; clear A20; by_cases c3 : t102 = true
 ·subst c3; (have H1 : (spec_TypesOk.l0 k l0 0) = some r := by rw [if_pos rfl] at H; exact H); clear H; have H := H1; clear H1; have H' := mK H; clear H; go_enter Tryd.func21, Tryd.ntmps21; go_wp2_with (first | ((with_reducible refine gate_callee (f := 69) rfl ?_); refine goesL_ (some 6) rfl rfl Tryd.func69 (by kernel_rfl) rfl #[.int .i64 (l0.length : Int), .int .i64 1, .int .i64 12] rfl (by (try simp only [mT_, mC_, mN_]) <;> rfl) ?_; (with_reducible refine (spec_l1In.calls (l0.length : Int) 1 12 true _ A2.out).mono ?_); rintro e w' ⟨rfl, ⟨nd, rfl⟩⟩; refine ⟨_, rfl, ?_⟩)); go_loopg [3] k (fun kq v3 w' => ∃ (x3_1 : Int), v3 = .int .i64 x3_1 ∧ Aside0 (spec_TypesOk.l0 kq l0 x3_1 = some r) ∧ Aside0 (kq ≤ k) ∧ Drawn0 w w'); (case atStart => exact ⟨(0), (by first | rfl | (simp; done) | (simp [*]; done)), H', ⟨Nat.le_refl _⟩, by repeat (first | exact Drawn0.refl _ | apply Drawn0.step)⟩)
  case round =>
   clear H'; (try clear c2); (try clear p2); (try clear c3); obtain ⟨x3_1, rfl, HA, HK1, ⟨m1, rfl⟩⟩ := hrel
   cases gk with
   | zero => exact absurd HA.out (by simp [spec_TypesOk.l0])
   | succ k1 =>
    have H := HA.out; clear HA; simp only [spec_TypesOk.l0] at H; by_cases c4 : x3_1 < (l0.length : Int)
    ·rw [if_pos c4] at H; have c4b0 : decide (x3_1 < (l0.length : Int)) = true := decide_eq_true c4; clear c4; by_cases c5 : 0 ≤ x3_1
     ·rw [if_pos c5] at H; have c5b0 : decide (0 ≤ x3_1) = true := decide_eq_true c5; clear c5; replace H := Option.bind_eq_some_iff.mp H; obtain ⟨t104, A60, H⟩ := H; (try dsimp only at H); have A6 := mK A60; clear A60; by_cases c7 : t104 = true
      ·subst c7; (have H1 : (spec_TypesOk.l0 k1 l0 (wrap64 (x3_1 + 1))) = some r := by rw [if_pos rfl] at H; exact H); clear H; have H := H1; clear H1; have H' := mK H; clear H; have p103 : 0 ≤ (x3_1 : Int) := of_decide_eq_true (by first | (with_reducible assumption) | assumption); have q103 : x3_1 < (l0.length : Int) := of_decide_eq_true (by first | (with_reducible assumption) | assumption); obtain ⟨ad103, e103, hx103_0⟩ := Kd.at_string HR0.out x3_1 p103 q103; cases e103; replace p103 := eq_true p103; replace q103 := eq_true q103; go_wp2_with (first | ((with_reducible refine gate_callee (f := 66) rfl ?_); refine goesL_ (some 18) rfl rfl Tryd.func66 (by kernel_rfl) rfl #[.string (rdOf ByteArray.empty l0 x3_1)] rfl (by (try simp only [mT_, mC_, mN_]) <;> rfl) ?_; (with_reducible refine (spec_l3Type.calls k1 (rdOf ByteArray.empty l0 x3_1) true _ A6.out).mono ?_); rintro e w' ⟨rfl, ⟨nd, rfl⟩⟩; refine ⟨_, rfl, ?_⟩)); go_roundg k1; (case measure => have := HK1.out; omega); (case rel => exact ⟨(wrap64 (x3_1 + 1)), (by first | rfl | (simp; done) | (simp [*]; done)), H', ⟨by have := HK1.out; omega⟩, by repeat (first | exact Drawn0.refl _ | apply Drawn0.step)⟩)
      ·replace c7 := Bool.eq_false_iff.mpr c7; subst c7; (have H1 : (some false) = some r := by rw [if_neg (show ¬ (false = true) by decide)] at H; exact H); clear H; have H := H1; clear H1; obtain rfl := Option.some.inj H; have p103 : 0 ≤ (x3_1 : Int) := of_decide_eq_true (by first | (with_reducible assumption) | assumption); have q103 : x3_1 < (l0.length : Int) := of_decide_eq_true (by first | (with_reducible assumption) | assumption); obtain ⟨ad103, e103, hx103_0⟩ := Kd.at_string HR0.out x3_1 p103 q103; cases e103; replace p103 := eq_true p103; replace q103 := eq_true q103; go_wp2_with (first | ((with_reducible refine gate_callee (f := 66) rfl ?_); refine goesL_ (some 18) rfl rfl Tryd.func66 (by kernel_rfl) rfl #[.string (rdOf ByteArray.empty l0 x3_1)] rfl (by (try simp only [mT_, mC_, mN_]) <;> rfl) ?_; (with_reducible refine (spec_l3Type.calls k1 (rdOf ByteArray.empty l0 x3_1) false _ A6.out).mono ?_); rintro e w' ⟨rfl, ⟨nd, rfl⟩⟩; refine ⟨_, rfl, ?_⟩)); go_ret; exact ⟨by first | rfl | (simp; done) | (simp [*]; done), by repeat (first | exact Drawn0.refl _ | apply Drawn0.step)⟩
     (·rw [if_neg c5] at H; exact absurd H (by simp))
    ·rw [if_neg c4] at H; have c4b0 : decide (x3_1 < (l0.length : Int)) = false := decide_eq_false c4; clear c4; obtain rfl := Option.some.inj H; go_wp2; go_ret; exact ⟨by first | rfl | (simp; done) | (simp [*]; done), by repeat (first | exact Drawn0.refl _ | apply Drawn0.step)⟩
 ·replace c3 := Bool.eq_false_iff.mpr c3; subst c3; (have H1 : (some false) = some r := by rw [if_neg (show ¬ (false = true) by decide)] at H; exact H); clear H; have H := H1; clear H1; obtain rfl := Option.some.inj H; go_enter Tryd.func21, Tryd.ntmps21; go_wp2_with (first | ((with_reducible refine gate_callee (f := 69) rfl ?_); refine goesL_ (some 6) rfl rfl Tryd.func69 (by kernel_rfl) rfl #[.int .i64 (l0.length : Int), .int .i64 1, .int .i64 12] rfl (by (try simp only [mT_, mC_, mN_]) <;> rfl) ?_; (with_reducible refine (spec_l1In.calls (l0.length : Int) 1 12 false _ A2.out).mono ?_); rintro e w' ⟨rfl, ⟨nd, rfl⟩⟩; refine ⟨_, rfl, ?_⟩)); go_ret; exact ⟨by first | rfl | (simp; done) | (simp [*]; done), by repeat (first | exact Drawn0.refl _ | apply Drawn0.step)⟩
def spec_ConfigOk.f (k : Nat) (a0_0 : Int) (a0_1 : Int) (a0_2 : Int) (l0_3 : List ByteArray) : Option (Bool) := (spec_l1In.f a0_0 8 128).bind fun t106 => (if t106 = true then ((spec_l1In.f a0_1 1 32).bind fun t107 => (if t107 = true then (if a0_1 ≤ (wrap64 (a0_0 - 5)) then ((spec_l1In.f a0_2 2 400).bind fun t108 => (if t108 = true then ((spec_TypesOk.f k l0_3).bind fun t109 => (some t109)) else (some false))) else (some false)) else (some false))) else (some false))
theorem spec_ConfigOk.mono : ∀ a0 a1 a2 a3 k, LeO (spec_ConfigOk.f k a0 a1 a2 a3) (spec_ConfigOk.f (k + 1) a0 a1 a2 a3) := by
  intro a0 a1 a2 a3 k
  unfold spec_ConfigOk.f
  repeat' first
      | (with_reducible first | exact spec_TypesOk.mono _ _ | exact LeO.refl _ | exact LeO.none _ | refine LeO.ite ?_ ?_ | refine LeO.bind ?_ (fun _ => ?_))
      | exact spec_TypesOk.mono _ _
      | exact LeO.none _
      | refine LeO.ite ?_ ?_
      | refine LeO.bind ?_ (fun _ => ?_)
theorem spec_ConfigOk.calls (k : Nat) (a0_0 : Int) (a0_1 : Int) (a0_2 : Int) (A0_3 : Option Addr) (c0_3 : Nat) (l0_3 : List ByteArray) (r : Bool) (w : World) (hr0_3 : Kd.C Kd.string w A0_3 l0_3.length l0_3) (hc0_3 : l0_3.length ≤ c0_3) (h : spec_ConfigOk.f k a0_0 a0_1 a0_2 l0_3 = some r) :
    Calls Tryd.prog 28 #[.agg #[.int .i64 a0_0, .int .i64 a0_1, .int .i64 a0_2, .slice A0_3 l0_3.length c0_3]] w fun e w' => e = .returned (.bool r) ∧ Below w.heap.size w w' := by
 have hu36 := Tryd.underlying36; have HR0_3 := mK hr0_3; have HC0_3 := mK hc0_3; clear hr0_3 hc0_3; have HB := mK (Below.refl w.heap.size w); have H : ((spec_l1In.f a0_0 8 128).bind fun t106 => (if t106 = true then ((spec_l1In.f a0_1 1 32).bind fun t107 => (if t107 = true then (if a0_1 ≤ (wrap64 (a0_0 - 5)) then ((spec_l1In.f a0_2 2 400).bind fun t108 => (if t108 = true then ((spec_TypesOk.f k l0_3).bind fun t109 => (some t109)) else (some false))) else (some false)) else (some false))) else (some false))) = some r := h; clear h; replace H := Option.bind_eq_some_iff.mp H; obtain ⟨t106, A20, H⟩ := H; (try dsimp only at H); have A2 := mK A20; clear A20; by_cases c3 : t106 = true
 ·subst c3; (have H1 : ((spec_l1In.f a0_1 1 32).bind fun t107 => (if t107 = true then (if a0_1 ≤ (wrap64 (a0_0 - 5)) then ((spec_l1In.f a0_2 2 400).bind fun t108 => (if t108 = true then ((spec_TypesOk.f k l0_3).bind fun t109 => (some t109)) else (some false))) else (some false)) else (some false))) = some r := by rw [if_pos rfl] at H; exact H); clear H; have H := H1; clear H1; replace H := Option.bind_eq_some_iff.mp H; obtain ⟨t107, A40, H⟩ := H; (try dsimp only at H); have A4 := mK A40; clear A40; by_cases c5 : t107 = true
  ·subst c5; (have H1 : (if a0_1 ≤ (wrap64 (a0_0 - 5)) then ((spec_l1In.f a0_2 2 400).bind fun t108 => (if t108 = true then ((spec_TypesOk.f k l0_3).bind fun t109 => (some t109)) else (some false))) else (some false)) = some r := by rw [if_pos rfl] at H; exact H); clear H; have H := H1; clear H1; by_cases c6 : a0_1 ≤ (wrap64 (a0_0 - 5))
   ·rw [if_pos c6] at H; have c6b0 : decide (a0_1 ≤ (wrap64 (a0_0 - 5))) = true := decide_eq_true c6; clear c6; replace H := Option.bind_eq_some_iff.mp H; obtain ⟨t108, A70, H⟩ := H; (try dsimp only at H); have A7 := mK A70; clear A70; by_cases c8 : t108 = true
    ·subst c8; (have H1 : ((spec_TypesOk.f k l0_3).bind fun t109 => (some t109)) = some r := by rw [if_pos rfl] at H; exact H); clear H; have H := H1; clear H1; replace H := Option.bind_eq_some_iff.mp H; obtain ⟨t109, A90, H⟩ := H; (try dsimp only at H); have A9 := mK A90; clear A90; obtain rfl := Option.some.inj H; go_enter Tryd.func28, Tryd.ntmps28; go_wp2_with (first | ((with_reducible refine gate_dst (N := 1) rfl ?_); refine box_event ?hg (N := 1) ?hd (cs := #[.int .i64 a0_0, .int .i64 a0_1, .int .i64 a0_2, .slice A0_3 l0_3.length c0_3]) (t := 36) ?hr ?_; (case hd => rfl); (case hg => rfl); (case hr => first | (go_simp; done) | (go_simp; rfl)); intro gb105 hg w10 hbox hb; have n0_ := mK (lT (by apply_rules only [HB.out, lA, lN, lD]) hb); have n1_ := mK (hbox); have n2_ := mK ((by rw [hg]; exact (below_size (by apply_rules only [HB.out, lA, lN, lD])) : w.heap.size ≤ gb105)); have n3_ := mK ((by rw [hg]; exact (below_size (by apply_rules only [HB.out, lA, lN, lD])) : w.heap.size ≤ gb105)); clear HB; have HB := n0_; have BK105 := n1_; have GW105 := n2_; have GE105 := n3_; clear n0_ n1_ n2_ n3_; clear hb hbox hg; have hcz11_0 : w10.cell? ⟨gb105, 0, none⟩ = some (.int .i64 a0_0) := (bC BK105.out 0).trans rfl; have hcz11_1 : w10.cell? ⟨gb105, 1, none⟩ = some (.int .i64 a0_1) := (bC BK105.out 1).trans rfl; have hcz11_2 : w10.cell? ⟨gb105, 2, none⟩ = some (.int .i64 a0_2) := (bC BK105.out 2).trans rfl; have hcz11_3 : w10.cell? ⟨gb105, 3, none⟩ = some (.slice A0_3 l0_3.length c0_3) := (bC BK105.out 3).trans rfl; have hfz11_0 := bF BK105.out 0; have hfz11_1 := bF BK105.out 1; have hfz11_2 := bF BK105.out 2; have hfz11_3 := bF BK105.out 3) | ((with_reducible refine gate_callee (f := 69) rfl ?_); refine goesL_ (some 5) rfl rfl Tryd.func69 (by kernel_rfl) rfl #[.int .i64 a0_0, .int .i64 8, .int .i64 128] rfl (by (try simp only [mT_, mC_, mN_]) <;> rfl) ?_; (with_reducible refine (spec_l1In.calls a0_0 8 128 true _ A2.out).mono ?_); rintro e w' ⟨rfl, ⟨nd, rfl⟩⟩; refine ⟨_, rfl, ?_⟩) | (go_at_call 69; (with_reducible refine (spec_l1In.calls a0_1 1 32 true _ A4.out).mono ?_); rintro e w' ⟨rfl, ⟨nd, rfl⟩⟩) | (go_at_call 69; (with_reducible refine (spec_l1In.calls a0_2 2 400 true _ A7.out).mono ?_); rintro e w' ⟨rfl, ⟨nd, rfl⟩⟩) | (go_at_call 21; (with_reducible refine (spec_TypesOk.calls k _ _ l0_3 t109 _ ?side1 ?side2 A9.out).mono ?_); (case side1 => repeat (first | exact (cB HR0_3.out (by apply_rules only [HB.out, lA, lN, lD, (fun h_ => lS h_ GE105.out)])) | (with_reducible refine Kd.C_alloc ?_ _) | (with_reducible refine Kd.C_drewN ?_ _) | (with_reducible refine Kd.C_drew ?_))); (case side2 => exact HC0_3.out); rintro e w' ⟨rfl, ⟨nd, rfl⟩⟩)); go_ret; exact ⟨by first | rfl | (simp [errW_none, errW_some] <;> rfl) | (simp [*, errW_none, errW_some] <;> rfl), by apply_rules only [HB.out, lA, lN, lD, (fun h_ => lS h_ GE105.out)]⟩
    ·replace c8 := Bool.eq_false_iff.mpr c8; subst c8; (have H1 : (some false) = some r := by rw [if_neg (show ¬ (false = true) by decide)] at H; exact H); clear H; have H := H1; clear H1; obtain rfl := Option.some.inj H; go_enter Tryd.func28, Tryd.ntmps28; go_wp2_with (first | ((with_reducible refine gate_dst (N := 1) rfl ?_); refine box_event ?hg (N := 1) ?hd (cs := #[.int .i64 a0_0, .int .i64 a0_1, .int .i64 a0_2, .slice A0_3 l0_3.length c0_3]) (t := 36) ?hr ?_; (case hd => rfl); (case hg => rfl); (case hr => first | (go_simp; done) | (go_simp; rfl)); intro gb105 hg w12 hbox hb; have n0_ := mK (lT (by apply_rules only [HB.out, lA, lN, lD]) hb); have n1_ := mK (hbox); have n2_ := mK ((by rw [hg]; exact (below_size (by apply_rules only [HB.out, lA, lN, lD])) : w.heap.size ≤ gb105)); have n3_ := mK ((by rw [hg]; exact (below_size (by apply_rules only [HB.out, lA, lN, lD])) : w.heap.size ≤ gb105)); clear HB; have HB := n0_; have BK105 := n1_; have GW105 := n2_; have GE105 := n3_; clear n0_ n1_ n2_ n3_; clear hb hbox hg; have hcz13_0 : w12.cell? ⟨gb105, 0, none⟩ = some (.int .i64 a0_0) := (bC BK105.out 0).trans rfl; have hcz13_1 : w12.cell? ⟨gb105, 1, none⟩ = some (.int .i64 a0_1) := (bC BK105.out 1).trans rfl; have hcz13_2 : w12.cell? ⟨gb105, 2, none⟩ = some (.int .i64 a0_2) := (bC BK105.out 2).trans rfl; have hcz13_3 : w12.cell? ⟨gb105, 3, none⟩ = some (.slice A0_3 l0_3.length c0_3) := (bC BK105.out 3).trans rfl; have hfz13_0 := bF BK105.out 0; have hfz13_1 := bF BK105.out 1; have hfz13_2 := bF BK105.out 2; have hfz13_3 := bF BK105.out 3) | ((with_reducible refine gate_callee (f := 69) rfl ?_); refine goesL_ (some 5) rfl rfl Tryd.func69 (by kernel_rfl) rfl #[.int .i64 a0_0, .int .i64 8, .int .i64 128] rfl (by (try simp only [mT_, mC_, mN_]) <;> rfl) ?_; (with_reducible refine (spec_l1In.calls a0_0 8 128 true _ A2.out).mono ?_); rintro e w' ⟨rfl, ⟨nd, rfl⟩⟩; refine ⟨_, rfl, ?_⟩) | (go_at_call 69; (with_reducible refine (spec_l1In.calls a0_1 1 32 true _ A4.out).mono ?_); rintro e w' ⟨rfl, ⟨nd, rfl⟩⟩) | (go_at_call 69; (with_reducible refine (spec_l1In.calls a0_2 2 400 false _ A7.out).mono ?_); rintro e w' ⟨rfl, ⟨nd, rfl⟩⟩)); go_ret; exact ⟨by first | rfl | (simp [errW_none, errW_some] <;> rfl) | (simp [*, errW_none, errW_some] <;> rfl), by apply_rules only [HB.out, lA, lN, lD, (fun h_ => lS h_ GE105.out)]⟩
   ·rw [if_neg c6] at H; have c6b0 : decide (a0_1 ≤ (wrap64 (a0_0 - 5))) = false := decide_eq_false c6; clear c6; obtain rfl := Option.some.inj H; go_enter Tryd.func28, Tryd.ntmps28; go_wp2_with (first | ((with_reducible refine gate_dst (N := 1) rfl ?_); refine box_event ?hg (N := 1) ?hd (cs := #[.int .i64 a0_0, .int .i64 a0_1, .int .i64 a0_2, .slice A0_3 l0_3.length c0_3]) (t := 36) ?hr ?_; (case hd => rfl); (case hg => rfl); (case hr => first | (go_simp; done) | (go_simp; rfl)); intro gb105 hg w14 hbox hb; have n0_ := mK (lT (by apply_rules only [HB.out, lA, lN, lD]) hb); have n1_ := mK (hbox); have n2_ := mK ((by rw [hg]; exact (below_size (by apply_rules only [HB.out, lA, lN, lD])) : w.heap.size ≤ gb105)); have n3_ := mK ((by rw [hg]; exact (below_size (by apply_rules only [HB.out, lA, lN, lD])) : w.heap.size ≤ gb105)); clear HB; have HB := n0_; have BK105 := n1_; have GW105 := n2_; have GE105 := n3_; clear n0_ n1_ n2_ n3_; clear hb hbox hg; have hcz15_0 : w14.cell? ⟨gb105, 0, none⟩ = some (.int .i64 a0_0) := (bC BK105.out 0).trans rfl; have hcz15_1 : w14.cell? ⟨gb105, 1, none⟩ = some (.int .i64 a0_1) := (bC BK105.out 1).trans rfl; have hcz15_2 : w14.cell? ⟨gb105, 2, none⟩ = some (.int .i64 a0_2) := (bC BK105.out 2).trans rfl; have hcz15_3 : w14.cell? ⟨gb105, 3, none⟩ = some (.slice A0_3 l0_3.length c0_3) := (bC BK105.out 3).trans rfl; have hfz15_0 := bF BK105.out 0; have hfz15_1 := bF BK105.out 1; have hfz15_2 := bF BK105.out 2; have hfz15_3 := bF BK105.out 3) | ((with_reducible refine gate_callee (f := 69) rfl ?_); refine goesL_ (some 5) rfl rfl Tryd.func69 (by kernel_rfl) rfl #[.int .i64 a0_0, .int .i64 8, .int .i64 128] rfl (by (try simp only [mT_, mC_, mN_]) <;> rfl) ?_; (with_reducible refine (spec_l1In.calls a0_0 8 128 true _ A2.out).mono ?_); rintro e w' ⟨rfl, ⟨nd, rfl⟩⟩; refine ⟨_, rfl, ?_⟩) | (go_at_call 69; (with_reducible refine (spec_l1In.calls a0_1 1 32 true _ A4.out).mono ?_); rintro e w' ⟨rfl, ⟨nd, rfl⟩⟩)); go_ret; exact ⟨by first | rfl | (simp [errW_none, errW_some] <;> rfl) | (simp [*, errW_none, errW_some] <;> rfl), by apply_rules only [HB.out, lA, lN, lD, (fun h_ => lS h_ GE105.out)]⟩
  ·replace c5 := Bool.eq_false_iff.mpr c5; subst c5; (have H1 : (some false) = some r := by rw [if_neg (show ¬ (false = true) by decide)] at H; exact H); clear H; have H := H1; clear H1; obtain rfl := Option.some.inj H; go_enter Tryd.func28, Tryd.ntmps28; go_wp2_with (first | ((with_reducible refine gate_dst (N := 1) rfl ?_); refine box_event ?hg (N := 1) ?hd (cs := #[.int .i64 a0_0, .int .i64 a0_1, .int .i64 a0_2, .slice A0_3 l0_3.length c0_3]) (t := 36) ?hr ?_; (case hd => rfl); (case hg => rfl); (case hr => first | (go_simp; done) | (go_simp; rfl)); intro gb105 hg w16 hbox hb; have n0_ := mK (lT (by apply_rules only [HB.out, lA, lN, lD]) hb); have n1_ := mK (hbox); have n2_ := mK ((by rw [hg]; exact (below_size (by apply_rules only [HB.out, lA, lN, lD])) : w.heap.size ≤ gb105)); have n3_ := mK ((by rw [hg]; exact (below_size (by apply_rules only [HB.out, lA, lN, lD])) : w.heap.size ≤ gb105)); clear HB; have HB := n0_; have BK105 := n1_; have GW105 := n2_; have GE105 := n3_; clear n0_ n1_ n2_ n3_; clear hb hbox hg; have hcz17_0 : w16.cell? ⟨gb105, 0, none⟩ = some (.int .i64 a0_0) := (bC BK105.out 0).trans rfl; have hcz17_1 : w16.cell? ⟨gb105, 1, none⟩ = some (.int .i64 a0_1) := (bC BK105.out 1).trans rfl; have hcz17_2 : w16.cell? ⟨gb105, 2, none⟩ = some (.int .i64 a0_2) := (bC BK105.out 2).trans rfl; have hcz17_3 : w16.cell? ⟨gb105, 3, none⟩ = some (.slice A0_3 l0_3.length c0_3) := (bC BK105.out 3).trans rfl; have hfz17_0 := bF BK105.out 0; have hfz17_1 := bF BK105.out 1; have hfz17_2 := bF BK105.out 2; have hfz17_3 := bF BK105.out 3) | ((with_reducible refine gate_callee (f := 69) rfl ?_); refine goesL_ (some 5) rfl rfl Tryd.func69 (by kernel_rfl) rfl #[.int .i64 a0_0, .int .i64 8, .int .i64 128] rfl (by (try simp only [mT_, mC_, mN_]) <;> rfl) ?_; (with_reducible refine (spec_l1In.calls a0_0 8 128 true _ A2.out).mono ?_); rintro e w' ⟨rfl, ⟨nd, rfl⟩⟩; refine ⟨_, rfl, ?_⟩) | (go_at_call 69; (with_reducible refine (spec_l1In.calls a0_1 1 32 false _ A4.out).mono ?_); rintro e w' ⟨rfl, ⟨nd, rfl⟩⟩)); go_ret; exact ⟨by first | rfl | (simp [errW_none, errW_some] <;> rfl) | (simp [*, errW_none, errW_some] <;> rfl), by apply_rules only [HB.out, lA, lN, lD, (fun h_ => lS h_ GE105.out)]⟩
 ·replace c3 := Bool.eq_false_iff.mpr c3; subst c3; (have H1 : (some false) = some r := by rw [if_neg (show ¬ (false = true) by decide)] at H; exact H); clear H; have H := H1; clear H1; obtain rfl := Option.some.inj H; go_enter Tryd.func28, Tryd.ntmps28; go_wp2_with (first | ((with_reducible refine gate_dst (N := 1) rfl ?_); refine box_event ?hg (N := 1) ?hd (cs := #[.int .i64 a0_0, .int .i64 a0_1, .int .i64 a0_2, .slice A0_3 l0_3.length c0_3]) (t := 36) ?hr ?_; (case hd => rfl); (case hg => rfl); (case hr => first | (go_simp; done) | (go_simp; rfl)); intro gb105 hg w18 hbox hb; have n0_ := mK (lT (by apply_rules only [HB.out, lA, lN, lD]) hb); have n1_ := mK (hbox); have n2_ := mK ((by rw [hg]; exact (below_size (by apply_rules only [HB.out, lA, lN, lD])) : w.heap.size ≤ gb105)); have n3_ := mK ((by rw [hg]; exact (below_size (by apply_rules only [HB.out, lA, lN, lD])) : w.heap.size ≤ gb105)); clear HB; have HB := n0_; have BK105 := n1_; have GW105 := n2_; have GE105 := n3_; clear n0_ n1_ n2_ n3_; clear hb hbox hg; have hcz19_0 : w18.cell? ⟨gb105, 0, none⟩ = some (.int .i64 a0_0) := (bC BK105.out 0).trans rfl; have hcz19_1 : w18.cell? ⟨gb105, 1, none⟩ = some (.int .i64 a0_1) := (bC BK105.out 1).trans rfl; have hcz19_2 : w18.cell? ⟨gb105, 2, none⟩ = some (.int .i64 a0_2) := (bC BK105.out 2).trans rfl; have hcz19_3 : w18.cell? ⟨gb105, 3, none⟩ = some (.slice A0_3 l0_3.length c0_3) := (bC BK105.out 3).trans rfl; have hfz19_0 := bF BK105.out 0; have hfz19_1 := bF BK105.out 1; have hfz19_2 := bF BK105.out 2; have hfz19_3 := bF BK105.out 3) | ((with_reducible refine gate_callee (f := 69) rfl ?_); refine goesL_ (some 5) rfl rfl Tryd.func69 (by kernel_rfl) rfl #[.int .i64 a0_0, .int .i64 8, .int .i64 128] rfl (by (try simp only [mT_, mC_, mN_]) <;> rfl) ?_; (with_reducible refine (spec_l1In.calls a0_0 8 128 false _ A2.out).mono ?_); rintro e w' ⟨rfl, ⟨nd, rfl⟩⟩; refine ⟨_, rfl, ?_⟩)); go_ret; exact ⟨by first | rfl | (simp [errW_none, errW_some] <;> rfl) | (simp [*, errW_none, errW_some] <;> rfl), by apply_rules only [HB.out, lA, lN, lD, (fun h_ => lS h_ GE105.out)]⟩
def impl_within.f (a0 : Int) (a1 : Int) (a2 : Int) : Option (Bool) := if a0 ≥ a1 then (some (decide (a0 ≤ a2))) else (some false)
theorem impl_within.calls (a0 : Int) (a1 : Int) (a2 : Int) (r : Bool) (w : World) (h : impl_within.f a0 a1 a2 = some r) :
    Calls Tryd.prog 70 #[.int .i64 a0, .int .i64 a1, .int .i64 a2] w fun e w' => e = .returned (.bool r) ∧ Drawn0 w w' := by
 have H : (if a0 ≥ a1 then (some (decide (a0 ≤ a2))) else (some false)) = some r := h; clear h; by_cases c4 : a0 ≥ a1
 ·rw [if_pos c4] at H; have c4b0 : decide (a1 ≤ a0) = true := decide_eq_true c4; clear c4; obtain rfl := Option.some.inj H; go_enter Tryd.func70, Tryd.ntmps70; go_wp2; go_ret; exact ⟨by first | rfl | (simp; done) | (simp [*]; done), by repeat (first | exact Drawn0.refl _ | apply Drawn0.step)⟩
 ·rw [if_neg c4] at H; have c4b0 : decide (a1 ≤ a0) = false := decide_eq_false c4; clear c4; obtain rfl := Option.some.inj H; go_enter Tryd.func70, Tryd.ntmps70; go_wp2; go_ret; exact ⟨by first | rfl | (simp; done) | (simp [*]; done), by repeat (first | exact Drawn0.refl _ | apply Drawn0.step)⟩
def impl_isType.ok (b : UInt8) : Bool := b == 105 || b == 114
def impl_isType.g (a0 : ByteArray) : Bool := decide (1 ≤ (a0.size : Int) ∧ (a0.size : Int) ≤ 23) && a0.data.toList.all impl_isType.ok
def impl_isType.f (a0 : ByteArray) : Option (Bool) := some (impl_isType.g a0)
theorem impl_isType.has (b : UInt8) : ([105, 114] : List UInt8).contains b = impl_isType.ok b := by
  unfold impl_isType.ok
  by_cases h1 : b = 105
  · subst h1; decide
  · by_cases h2 : b = 114
    · subst h2; decide
    · simp [h1, h2]
theorem impl_isType.drop_nil : ∀ l : List UInt8, (l.dropWhile (fun b => ([105, 114] : List UInt8).contains b) = []) ↔ l.all impl_isType.ok = true
  | [] => by simp
  | b :: l => by
    rw [List.dropWhile_cons, impl_isType.has, List.all_cons]
    by_cases h : impl_isType.ok b = true
    · rw [if_pos h, impl_isType.drop_nil l, h, Bool.true_and]
    · rw [if_neg h]; simp [h]
theorem impl_isType.trim (l : List UInt8) : (Lib.trimS l [105, 114] = []) ↔ l.all impl_isType.ok = true := by
  unfold Lib.trimS Lib.trimLeftS Lib.trimRightS
  rw [impl_isType.drop_nil]
  constructor
  · intro h
    have h1 : (l.reverse.dropWhile (fun b => ([105, 114] : List UInt8).contains b)) = [] := by
      by_cases hn : l.reverse.dropWhile (fun b => ([105, 114] : List UInt8).contains b) = []
      · exact hn
      · exfalso
        have hm := List.head_dropWhile_not (fun b => ([105, 114] : List UInt8).contains b) hn
        have h2 := (List.all_eq_true.1 h) _ (List.mem_reverse.2 (List.head_mem hn))
        rw [← impl_isType.has] at h2
        rw [h2] at hm; cases hm
    have h3 := (impl_isType.drop_nil _).1 h1
    rw [List.all_reverse] at h3; exact h3
  · intro h
    have h1 : l.reverse.all impl_isType.ok = true := by rw [List.all_reverse]; exact h
    rw [(impl_isType.drop_nil _).2 h1]; rfl
theorem impl_isType.calls (a0 : ByteArray) (r : Bool) (w : World) (h : impl_isType.f a0 = some r) :
    Calls Tryd.prog 67 #[.string a0] w fun e w' => e = .returned (.bool r) ∧ Below w.heap.size w w' := by
 unfold impl_isType.f impl_isType.g at h; obtain rfl := Option.some.inj h; clear h; have HB := mK (Below.refl w.heap.size w); have NW := mK (fun r W h => impl_within.calls (a0.size : Int) 1 23 r W h)
 have hw1 : impl_within.f (a0.size : Int) 1 23 = some (decide (1 ≤ (a0.size : Int) ∧ (a0.size : Int) ≤ 23)) := by
   unfold impl_within.f
   by_cases h1 : (a0.size : Int) ≥ 1
   · rw [if_pos h1]; congr 1; simp [show (1 : Int) ≤ a0.size from h1]
   · rw [if_neg h1]; congr 1; symm; simp; omega
 by_cases hs : (1 ≤ (a0.size : Int) ∧ (a0.size : Int) ≤ 23)
 ·have hc := Any.strings_Trim_laid Tryd.lays160 (by kernel_rfl) a0 ⟨#[105, 114]⟩ ; have NT := mK (fun W => hc W (by omega) (by decide) (ascii_of_all (by decide))); clear hc; generalize ht : (⟨(Lib.trimS a0.data.toList ([105, 114] : List UInt8)).toArray⟩ : ByteArray) = t at NT; rw [decide_eq_true hs] at hw1 ⊢; rw [Bool.true_and]
  have et : t.toList.isEmpty = a0.data.toList.all impl_isType.ok := by
    rw [← ht, Bool.eq_iff_iff, ← impl_isType.trim, List.isEmpty_iff]
    constructor
    · intro e
      have := congrArg List.length e
      exact List.length_eq_zero_iff.1 (by simpa [ByteArray.toList_eq] using this)
    · intro e; rw [e]; simp
  rw [← et]; clear et ht; have HW := mK hw1; clear hw1 hs; go_enter Tryd.func67, Tryd.ntmps67; go_wp2_with (first | (go_at_call 70; (refine (NW.out _ _ HW.out).mono ?_); rintro e w2 ⟨rfl, hd⟩; have n0_ := mK (lT HB.out hd.below); clear HB; have HB := n0_; clear n0_ hd) | (go_at_call 117; (refine (NT.out _).mono ?_); rintro e w2 ⟨rfl, hb⟩; have n0_ := mK (lT HB.out hb); clear HB; have HB := n0_; clear n0_ hb)); go_ret; exact ⟨rfl, HB.out⟩
 ·rw [decide_eq_false hs] at hw1 ⊢; rw [Bool.false_and]; have HW := mK hw1; clear hw1 hs; go_enter Tryd.func67, Tryd.ntmps67; go_wp2_with (first | (go_at_call 70; (refine (NW.out _ _ HW.out).mono ?_); rintro e w2 ⟨rfl, hd⟩; have n0_ := mK (lT HB.out hd.below); clear HB; have HB := n0_; clear n0_ hd)); go_ret; exact ⟨rfl, HB.out⟩
def impl_size_string.f (l0 : List ByteArray) : Option (Int) := some (l0.length : Int)
theorem impl_size_string.calls (A0 : Option Addr) (c0 : Nat) (l0 : List ByteArray) (r : Int) (w : World) (hr0 : Kd.C Kd.string w A0 l0.length l0) (hc0 : l0.length ≤ c0) (h : impl_size_string.f l0 = some r) :
    Calls Tryd.prog 71 #[.slice A0 l0.length c0] w fun e w' => e = .returned (.int .i64 r) ∧ Drawn0 w w' := by
 have HR0 := mK hr0; have HC0 := mK hc0; clear hr0 hc0; have H : (some (l0.length : Int)) = some r := h; clear h; obtain rfl := Option.some.inj H; go_enter Tryd.func71, Tryd.ntmps71; go_wp2; go_ret; exact ⟨by first | rfl | (simp; done) | (simp [*]; done), by repeat (first | exact Drawn0.refl _ | apply Drawn0.step)⟩
theorem impl_TypesOk.closure (s : ByteArray) (w : World) : Calls Tryd.prog 73 #[.string s] w fun e w' => e = .returned (.bool (!impl_isType.g s)) ∧ Below w.heap.size w w' := by
  have HB := mK (Below.refl w.heap.size w)
  have N1 := mK (fun W => impl_isType.calls s (impl_isType.g s) W rfl)
  go_enter Tryd.func73, Tryd.ntmps73
  go_wp2_with (go_at_call 67; (refine (N1.out _).mono ?_); rintro e w2 ⟨rfl, hb⟩; have n0_ := mK (lT HB.out hb); clear HB; have HB := n0_; clear n0_ hb)
  go_ret
  exact ⟨rfl, HB.out⟩
def impl_TypesOk.idx (l : List ByteArray) : Int := match l.findIdx? (fun s => !impl_isType.g s) with | some i => (i : Int) | none => -1
theorem impl_TypesOk.idx_at (l : List ByteArray) (i : Nat) (hi : i < l.length) (h1 : ∀ t : Nat, t < i → impl_isType.g (rdOf ByteArray.empty l (t : Int)) = true) (h2 : impl_isType.g (rdOf ByteArray.empty l (i : Int)) = false) : impl_TypesOk.idx l = i := by
  have g : ∀ t : Nat, (ht : t < l.length) → rdOf ByteArray.empty l (t : Int) = l[t] := fun t ht => by unfold rdOf; rw [Int.toNat_natCast, List.getD_eq_getElem?_getD, List.getElem?_eq_getElem ht]; rfl
  have e : l.findIdx? (fun s => !impl_isType.g s) = some i := by
    rw [List.findIdx?_eq_some_iff_getElem]
    refine ⟨hi, by rw [← g i hi, h2]; rfl, fun j hj => ?_⟩
    have := h1 j hj
    rw [g j (by omega)] at this
    simp [this]
  unfold impl_TypesOk.idx
  rw [e]
theorem impl_TypesOk.idx_none (l : List ByteArray) (h1 : ∀ t : Nat, t < l.length → impl_isType.g (rdOf ByteArray.empty l (t : Int)) = true) : impl_TypesOk.idx l = -1 := by
  have e : l.findIdx? (fun s => !impl_isType.g s) = none := by
    rw [List.findIdx?_eq_none_iff]
    intro x hx
    obtain ⟨t, ht, rfl⟩ := List.getElem_of_mem hx
    have := h1 t ht
    have g : rdOf ByteArray.empty l (t : Int) = l[t] := by unfold rdOf; rw [Int.toNat_natCast, List.getD_eq_getElem?_getD, List.getElem?_eq_getElem ht]; rfl
    rw [g] at this
    simp [this]
  unfold impl_TypesOk.idx
  rw [e]
theorem impl_TypesOk.idx_all (l : List ByteArray) : (!decide (impl_TypesOk.idx l ≥ 0)) = l.all impl_isType.g := by
  unfold impl_TypesOk.idx
  cases e : l.findIdx? (fun s => !impl_isType.g s) with
  | none =>
    rw [List.findIdx?_eq_none_iff] at e
    have : l.all impl_isType.g = true := by rw [List.all_eq_true]; intro x hx; simpa using e x hx
    rw [this]; rfl
  | some i =>
    rw [List.findIdx?_eq_some_iff_getElem] at e
    obtain ⟨hi, h2, _⟩ := e
    have : l.all impl_isType.g = false := by
      rw [List.all_eq_false]; exact ⟨l[i], List.getElem_mem hi, by simpa using h2⟩
    rw [this]; simp
theorem impl_TypesOk.index (A : Option Addr) (c : Nat) (l : List ByteArray) (w : World) (hr : Kd.C Kd.string w A l.length l) (hc : l.length ≤ c) (hsz : l.length ≤ 12) :
    Calls Tryd.prog 118 #[.slice A l.length c, .func (.func 73) #[] #[]] w fun e w' => e = .returned (.int .i64 (impl_TypesOk.idx l)) ∧ Below w.heap.size w w' := by
  have eg : ∀ args w, (callFunc 73 args).run Tryd.prog w = .ok (.enter 73 args) w := enters_of Tryd.func73 (by kernel_rfl) rfl
  have HB := mK (Below.refl w.heap.size w)
  have HR := mK hr
  clear hr
  generalize hidx : impl_TypesOk.idx l = cnt
  have CN := mK hidx
  clear hidx
  go_enter Tryd.func118, Tryd.ntmps118
  go_wp2
  go_loopg [8] l.length (fun kx s8 wr => ∃ i : Nat, s8 = .int .i64 i ∧ i ≤ l.length ∧ l.length - i ≤ kx ∧ Aside0 (Below w.heap.size w wr) ∧ Aside0 (∀ t : Nat, t < i → impl_isType.g (rdOf ByteArray.empty l (t : Int)) = true))
  case atStart => exact ⟨0, rfl, Nat.zero_le _, by omega, HB, ⟨fun t ht => absurd ht (Nat.not_lt_zero _)⟩⟩
  case round =>
    clear HB
    obtain ⟨i, rfl, hin, hg, HB, I⟩ := hrel
    by_cases hlt : i < l.length
    · obtain ⟨ad, ea, hx0⟩ := Kd.at_string HR.out (i : Int) (by omega) (by omega)
      cases ea
      replace hx0 := (HB.out.cell (World.block_lt_of_cell? w _ hx0)).trans hx0
      simp only [Int.toNat_natCast] at hx0
      generalize hy : rdOf ByteArray.empty l (i : Int) = x at hx0
      have Y := mK hy
      clear hy
      have N1 := mK (fun W => impl_TypesOk.closure x W)
      by_cases hyx : impl_isType.g x = true
      · rw [hyx] at N1
        have hyx' := mK hyx
        clear hyx
        have N1' := mK (show ∀ W, Calls Tryd.prog 73 #[.string x] W fun e w' => e = .returned (.bool false) ∧ Below W.heap.size W w' from N1.out)
        clear N1
        go_wp2_with (go_at_fn 73; (refine (N1'.out _).mono ?_); rintro e w2 ⟨rfl, hb⟩; have n0_ := mK (lT HB.out hb); clear HB; have HB := n0_; clear n0_ hb)
        go_roundg (l.length - (i + 1))
        case measure => omega
        case rel => exact ⟨i + 1, rfl, by omega, Nat.le_refl _, HB, ⟨fun t ht => by
            by_cases e : t = i
            · subst e; rw [Y.out]; exact hyx'.out
            · exact I.out t (by omega)⟩⟩
      · have hyx' := mK (Bool.eq_false_iff.2 hyx)
        have N1' := mK (show ∀ W, Calls Tryd.prog 73 #[.string x] W fun e w' => e = .returned (.bool true) ∧ Below W.heap.size W w' from fun W => by have := N1.out W; rw [hyx'.out] at this; exact this)
        clear N1 hyx
        obtain rfl : cnt = (i : Int) := by rw [← CN.out]; exact impl_TypesOk.idx_at l i hlt I.out (by rw [Y.out]; exact hyx'.out)
        go_wp2_with (go_at_fn 73; (refine (N1'.out _).mono ?_); rintro e w2 ⟨rfl, hb⟩; have n0_ := mK (lT HB.out hb); clear HB; have HB := n0_; clear n0_ hb)
        go_ret
        exact ⟨rfl, HB.out⟩
    · obtain rfl : i = l.length := by omega
      obtain rfl : cnt = -1 := by rw [← CN.out]; exact impl_TypesOk.idx_none l I.out
      go_wp2
      go_ret
      exact ⟨rfl, HB.out⟩
theorem impl_TypesOk.contains (A : Option Addr) (c : Nat) (l : List ByteArray) (w : World) (hr : Kd.C Kd.string w A l.length l) (hc : l.length ≤ c) (hsz : l.length ≤ 12) :
    Calls Tryd.prog 72 #[.slice A l.length c, .func (.func 73) #[] #[]] w fun e w' => e = .returned (.bool (decide (impl_TypesOk.idx l ≥ 0))) ∧ Below w.heap.size w w' := by
  have HB := mK (Below.refl w.heap.size w)
  have N1 := mK (fun W (hW : Kd.C Kd.string W A l.length l) => impl_TypesOk.index A c l W hW hc hsz)
  have HR := mK hr
  clear hr
  generalize impl_TypesOk.idx l = cnt at N1 ⊢
  go_enter Tryd.func72, Tryd.ntmps72
  go_wp2_with (go_at_call 118; (refine (N1.out _ (cB HR.out HB.out)).mono ?_); rintro e w2 ⟨rfl, hb⟩; have n0_ := mK (lT HB.out hb); clear HB; have HB := n0_; clear n0_ hb)
  go_ret
  exact ⟨rfl, HB.out⟩
def impl_TypesOk.g (l0 : List ByteArray) : Bool := decide (1 ≤ (l0.length : Int) ∧ (l0.length : Int) ≤ 12) && l0.all impl_isType.g
def impl_TypesOk.f (l0 : List ByteArray) : Option (Bool) := some (impl_TypesOk.g l0)
theorem impl_TypesOk.calls (A0 : Option Addr) (c0 : Nat) (l0 : List ByteArray) (r : Bool) (w : World) (hr0 : Kd.C Kd.string w A0 l0.length l0) (hc0 : l0.length ≤ c0) (h : impl_TypesOk.f l0 = some r) :
    Calls Tryd.prog 23 #[.slice A0 l0.length c0] w fun e w' => e = .returned (.bool r) ∧ Below w.heap.size w w' := by
 unfold impl_TypesOk.f impl_TypesOk.g at h; obtain rfl := Option.some.inj h; clear h; have HB := mK (Below.refl w.heap.size w); have NS := mK (fun W (hW : Kd.C Kd.string W A0 l0.length l0) => impl_size_string.calls A0 c0 l0 (l0.length : Int) W hW hc0 rfl); have NW := mK (fun r W h => impl_within.calls (l0.length : Int) 1 12 r W h)
 have hw1 : impl_within.f (l0.length : Int) 1 12 = some (decide (1 ≤ (l0.length : Int) ∧ (l0.length : Int) ≤ 12)) := by
   unfold impl_within.f
   by_cases h1 : (l0.length : Int) ≥ 1
   · rw [if_pos h1]; congr 1; simp [show (1 : Int) ≤ l0.length from h1]
   · rw [if_neg h1]; congr 1; symm; simp; omega
 by_cases hs : (1 ≤ (l0.length : Int) ∧ (l0.length : Int) ≤ 12)
 ·have NT := mK (fun W (hW : Kd.C Kd.string W A0 l0.length l0) => impl_TypesOk.contains A0 c0 l0 W hW hc0 (by omega)); rw [decide_eq_true hs] at hw1 ⊢; rw [Bool.true_and, ← impl_TypesOk.idx_all]; generalize decide (impl_TypesOk.idx l0 ≥ 0) = t at NT ⊢; have HW := mK hw1; have HR := mK hr0; clear hw1 hs hr0; go_enter Tryd.func23, Tryd.ntmps23; go_wp2_with (first | (go_at_call 71; (refine (NS.out _ (cB HR.out HB.out)).mono ?_); rintro e w2 ⟨rfl, hd⟩; have n0_ := mK (lT HB.out hd.below); clear HB; have HB := n0_; clear n0_ hd) | (go_at_call 70; (refine (NW.out _ _ HW.out).mono ?_); rintro e w2 ⟨rfl, hd⟩; have n0_ := mK (lT HB.out hd.below); clear HB; have HB := n0_; clear n0_ hd) | (go_at_call 72; (refine (NT.out _ (cB HR.out HB.out)).mono ?_); rintro e w2 ⟨rfl, hb⟩; have n0_ := mK (lT HB.out hb); clear HB; have HB := n0_; clear n0_ hb)); go_ret; exact ⟨rfl, HB.out⟩
 ·rw [decide_eq_false hs] at hw1 ⊢; rw [Bool.false_and]; have HW := mK hw1; have HR := mK hr0; clear hw1 hs hr0; go_enter Tryd.func23, Tryd.ntmps23; go_wp2_with (first | (go_at_call 71; (refine (NS.out _ (cB HR.out HB.out)).mono ?_); rintro e w2 ⟨rfl, hd⟩; have n0_ := mK (lT HB.out hd.below); clear HB; have HB := n0_; clear n0_ hd) | (go_at_call 70; (refine (NW.out _ _ HW.out).mono ?_); rintro e w2 ⟨rfl, hd⟩; have n0_ := mK (lT HB.out hd.below); clear HB; have HB := n0_; clear n0_ hd)); go_ret; exact ⟨rfl, HB.out⟩
def impl_ConfigOk.f (a0_0 : Int) (a0_1 : Int) (a0_2 : Int) (l0_3 : List ByteArray) : Option (Bool) := (impl_within.f a0_0 8 128).bind fun t111 => (if t111 = true then ((impl_within.f a0_1 1 (mn 32 (wrap64 (a0_0 - 5)))).bind fun t112 => (if t112 = true then ((impl_within.f a0_2 2 400).bind fun t113 => (if t113 = true then ((impl_TypesOk.f l0_3).bind fun t114 => (some t114)) else (some false))) else (some false))) else (some false))
theorem impl_ConfigOk.calls (a0_0 : Int) (a0_1 : Int) (a0_2 : Int) (A0_3 : Option Addr) (c0_3 : Nat) (l0_3 : List ByteArray) (r : Bool) (w : World) (hr0_3 : Kd.C Kd.string w A0_3 l0_3.length l0_3) (hc0_3 : l0_3.length ≤ c0_3) (h : impl_ConfigOk.f a0_0 a0_1 a0_2 l0_3 = some r) :
    Calls Tryd.prog 30 #[.agg #[.int .i64 a0_0, .int .i64 a0_1, .int .i64 a0_2, .slice A0_3 l0_3.length c0_3]] w fun e w' => e = .returned (.bool r) ∧ Below w.heap.size w w' := by
 have hu36 := Tryd.underlying36; have HR0_3 := mK hr0_3; have HC0_3 := mK hc0_3; clear hr0_3 hc0_3; have HB := mK (Below.refl w.heap.size w); have H : ((impl_within.f a0_0 8 128).bind fun t111 => (if t111 = true then ((impl_within.f a0_1 1 (mn 32 (wrap64 (a0_0 - 5)))).bind fun t112 => (if t112 = true then ((impl_within.f a0_2 2 400).bind fun t113 => (if t113 = true then ((impl_TypesOk.f l0_3).bind fun t114 => (some t114)) else (some false))) else (some false))) else (some false))) = some r := h; clear h; replace H := Option.bind_eq_some_iff.mp H; obtain ⟨t111, A20, H⟩ := H; (try dsimp only at H); have A2 := mK A20; clear A20; by_cases c3 : t111 = true
 ·subst c3; (have H1 : ((impl_within.f a0_1 1 (mn 32 (wrap64 (a0_0 - 5)))).bind fun t112 => (if t112 = true then ((impl_within.f a0_2 2 400).bind fun t113 => (if t113 = true then ((impl_TypesOk.f l0_3).bind fun t114 => (some t114)) else (some false))) else (some false))) = some r := by rw [if_pos rfl] at H; exact H); clear H; have H := H1; clear H1; obtain ⟨ji4, hji4⟩ : ∃ j_ : Int, (mn 32 (wrap64 (a0_0 - 5))) = j_ := ⟨_, rfl⟩; (replace H : ((impl_within.f a0_1 1 (ji4)).bind fun t112 => (if t112 = true then ((impl_within.f a0_2 2 400).bind fun t113 => (if t113 = true then ((impl_TypesOk.f l0_3).bind fun t114 => (some t114)) else (some false))) else (some false))) = some r := by first | (rw [hji4] at H; exact H) | (simp only [hji4] at H ⊢; exact H)); (try rw [hji4] at A2); (try (have hji4h : ji4 ≤ 32 := by (rw [← hji4]; unfold mn; (repeat' split) <;> omega))); (try (have hji4g : ji4 ≤ 64 := by omega)); have hji4_ : (if (wrap64 (a0_0 - 5)) < 32 then (wrap64 (a0_0 - 5)) else 32) = ji4 := hji4; replace H := Option.bind_eq_some_iff.mp H; obtain ⟨t112, A50, H⟩ := H; (try dsimp only at H); have A5 := mK A50; clear A50; by_cases c6 : t112 = true
  ·subst c6; (have H1 : ((impl_within.f a0_2 2 400).bind fun t113 => (if t113 = true then ((impl_TypesOk.f l0_3).bind fun t114 => (some t114)) else (some false))) = some r := by rw [if_pos rfl] at H; exact H); clear H; have H := H1; clear H1; replace H := Option.bind_eq_some_iff.mp H; obtain ⟨t113, A70, H⟩ := H; (try dsimp only at H); have A7 := mK A70; clear A70; by_cases c8 : t113 = true
   ·subst c8; (have H1 : ((impl_TypesOk.f l0_3).bind fun t114 => (some t114)) = some r := by rw [if_pos rfl] at H; exact H); clear H; have H := H1; clear H1; replace H := Option.bind_eq_some_iff.mp H; obtain ⟨t114, A90, H⟩ := H; (try dsimp only at H); have A9 := mK A90; clear A90; obtain rfl := Option.some.inj H; go_enter Tryd.func30, Tryd.ntmps30; go_wp2_with (first | ((with_reducible refine gate_dst (N := 1) rfl ?_); (try (refine gate_guard (by rfl) ?_; dsimp only)); refine box_event ?hg (N := 1) ?hd (cs := #[.int .i64 a0_0, .int .i64 a0_1, .int .i64 a0_2, .slice A0_3 l0_3.length c0_3]) (t := 36) ?hr ?_; (case hd => rfl); (case hg => rfl); (case hr => first | (go_simp; done) | (go_simp; rfl)); intro gb110 hg w10 hbox hb; have n0_ := mK (lT (by apply_rules only [HB.out, lA, lN, lD]) hb); have n1_ := mK (hbox); have n2_ := mK ((by rw [hg]; exact (below_size (by apply_rules only [HB.out, lA, lN, lD])) : w.heap.size ≤ gb110)); have n3_ := mK ((by rw [hg]; exact (below_size (by apply_rules only [HB.out, lA, lN, lD])) : w.heap.size ≤ gb110)); clear HB; have HB := n0_; have BK110 := n1_; have GW110 := n2_; have GE110 := n3_; clear n0_ n1_ n2_ n3_; clear hb hbox hg; have hcz11_0 : w10.cell? ⟨gb110, 0, none⟩ = some (.int .i64 a0_0) := (bC BK110.out 0).trans rfl; have hcz11_1 : w10.cell? ⟨gb110, 1, none⟩ = some (.int .i64 a0_1) := (bC BK110.out 1).trans rfl; have hcz11_2 : w10.cell? ⟨gb110, 2, none⟩ = some (.int .i64 a0_2) := (bC BK110.out 2).trans rfl; have hcz11_3 : w10.cell? ⟨gb110, 3, none⟩ = some (.slice A0_3 l0_3.length c0_3) := (bC BK110.out 3).trans rfl; have hfz11_0 := bF BK110.out 0; have hfz11_1 := bF BK110.out 1; have hfz11_2 := bF BK110.out 2; have hfz11_3 := bF BK110.out 3) | ((with_reducible refine gate_callee (f := 70) rfl ?_); refine goesL_ (some 5) rfl rfl Tryd.func70 (by kernel_rfl) rfl #[.int .i64 a0_0, .int .i64 8, .int .i64 128] rfl (by (try simp only [mT_, mC_, mN_]) <;> rfl) ?_; (with_reducible refine (impl_within.calls a0_0 8 128 true _ A2.out).mono ?_); rintro e w' ⟨rfl, ⟨nd, rfl⟩⟩; refine ⟨_, rfl, ?_⟩) | (go_at_call 70; (with_reducible refine (impl_within.calls a0_1 1 ji4 true _ A5.out).mono ?_); rintro e w' ⟨rfl, ⟨nd, rfl⟩⟩) | (go_at_call 70; (with_reducible refine (impl_within.calls a0_2 2 400 true _ A7.out).mono ?_); rintro e w' ⟨rfl, ⟨nd, rfl⟩⟩) | (go_at_call 23; (with_reducible refine (impl_TypesOk.calls _ _ l0_3 t114 _ ?side1 ?side2 A9.out).mono ?_); (case side1 => repeat (first | exact (cB HR0_3.out (by apply_rules only [HB.out, lA, lN, lD, (fun h_ => lS h_ GE110.out)])) | (with_reducible refine Kd.C_alloc ?_ _) | (with_reducible refine Kd.C_drewN ?_ _) | (with_reducible refine Kd.C_drew ?_))); (case side2 => exact HC0_3.out); rintro e w12 ⟨rfl, hb⟩; have n0_ := mK (bB (g := gb110) (o := .cells #[.int .i64 a0_0, .int .i64 a0_1, .int .i64 a0_2, .slice A0_3 l0_3.length c0_3] 36 (0, 0)) (by (with_reducible repeat (first | apply bN | apply bD | apply bA)); exact BK110.out) hb); have n1_ := mK (lT (by apply_rules only [HB.out, lA, lN, lD, (fun h_ => lS h_ GE110.out)]) hb); clear BK110; clear HB; have BK110 := n0_; have HB := n1_; clear n0_ n1_)); go_ret; exact ⟨by first | rfl | (simp [errW_none, errW_some] <;> rfl) | (simp only [← hji4]; first | rfl | (simp [errW_none, errW_some] <;> rfl)) | (simp [*, errW_none, errW_some] <;> rfl), by apply_rules only [HB.out, lA, lN, lD, (fun h_ => lS h_ GE110.out)]⟩
   ·replace c8 := Bool.eq_false_iff.mpr c8; subst c8; (have H1 : (some false) = some r := by rw [if_neg (show ¬ (false = true) by decide)] at H; exact H); clear H; have H := H1; clear H1; obtain rfl := Option.some.inj H; go_enter Tryd.func30, Tryd.ntmps30; go_wp2_with (first | ((with_reducible refine gate_dst (N := 1) rfl ?_); (try (refine gate_guard (by rfl) ?_; dsimp only)); refine box_event ?hg (N := 1) ?hd (cs := #[.int .i64 a0_0, .int .i64 a0_1, .int .i64 a0_2, .slice A0_3 l0_3.length c0_3]) (t := 36) ?hr ?_; (case hd => rfl); (case hg => rfl); (case hr => first | (go_simp; done) | (go_simp; rfl)); intro gb110 hg w13 hbox hb; have n0_ := mK (lT (by apply_rules only [HB.out, lA, lN, lD]) hb); have n1_ := mK (hbox); have n2_ := mK ((by rw [hg]; exact (below_size (by apply_rules only [HB.out, lA, lN, lD])) : w.heap.size ≤ gb110)); have n3_ := mK ((by rw [hg]; exact (below_size (by apply_rules only [HB.out, lA, lN, lD])) : w.heap.size ≤ gb110)); clear HB; have HB := n0_; have BK110 := n1_; have GW110 := n2_; have GE110 := n3_; clear n0_ n1_ n2_ n3_; clear hb hbox hg; have hcz14_0 : w13.cell? ⟨gb110, 0, none⟩ = some (.int .i64 a0_0) := (bC BK110.out 0).trans rfl; have hcz14_1 : w13.cell? ⟨gb110, 1, none⟩ = some (.int .i64 a0_1) := (bC BK110.out 1).trans rfl; have hcz14_2 : w13.cell? ⟨gb110, 2, none⟩ = some (.int .i64 a0_2) := (bC BK110.out 2).trans rfl; have hcz14_3 : w13.cell? ⟨gb110, 3, none⟩ = some (.slice A0_3 l0_3.length c0_3) := (bC BK110.out 3).trans rfl; have hfz14_0 := bF BK110.out 0; have hfz14_1 := bF BK110.out 1; have hfz14_2 := bF BK110.out 2; have hfz14_3 := bF BK110.out 3) | ((with_reducible refine gate_callee (f := 70) rfl ?_); refine goesL_ (some 5) rfl rfl Tryd.func70 (by kernel_rfl) rfl #[.int .i64 a0_0, .int .i64 8, .int .i64 128] rfl (by (try simp only [mT_, mC_, mN_]) <;> rfl) ?_; (with_reducible refine (impl_within.calls a0_0 8 128 true _ A2.out).mono ?_); rintro e w' ⟨rfl, ⟨nd, rfl⟩⟩; refine ⟨_, rfl, ?_⟩) | (go_at_call 70; (with_reducible refine (impl_within.calls a0_1 1 ji4 true _ A5.out).mono ?_); rintro e w' ⟨rfl, ⟨nd, rfl⟩⟩) | (go_at_call 70; (with_reducible refine (impl_within.calls a0_2 2 400 false _ A7.out).mono ?_); rintro e w' ⟨rfl, ⟨nd, rfl⟩⟩)); go_ret; exact ⟨by first | rfl | (simp [errW_none, errW_some] <;> rfl) | (simp only [← hji4]; first | rfl | (simp [errW_none, errW_some] <;> rfl)) | (simp [*, errW_none, errW_some] <;> rfl), by apply_rules only [HB.out, lA, lN, lD, (fun h_ => lS h_ GE110.out)]⟩
  ·replace c6 := Bool.eq_false_iff.mpr c6; subst c6; (have H1 : (some false) = some r := by rw [if_neg (show ¬ (false = true) by decide)] at H; exact H); clear H; have H := H1; clear H1; obtain rfl := Option.some.inj H; go_enter Tryd.func30, Tryd.ntmps30; go_wp2_with (first | ((with_reducible refine gate_dst (N := 1) rfl ?_); (try (refine gate_guard (by rfl) ?_; dsimp only)); refine box_event ?hg (N := 1) ?hd (cs := #[.int .i64 a0_0, .int .i64 a0_1, .int .i64 a0_2, .slice A0_3 l0_3.length c0_3]) (t := 36) ?hr ?_; (case hd => rfl); (case hg => rfl); (case hr => first | (go_simp; done) | (go_simp; rfl)); intro gb110 hg w15 hbox hb; have n0_ := mK (lT (by apply_rules only [HB.out, lA, lN, lD]) hb); have n1_ := mK (hbox); have n2_ := mK ((by rw [hg]; exact (below_size (by apply_rules only [HB.out, lA, lN, lD])) : w.heap.size ≤ gb110)); have n3_ := mK ((by rw [hg]; exact (below_size (by apply_rules only [HB.out, lA, lN, lD])) : w.heap.size ≤ gb110)); clear HB; have HB := n0_; have BK110 := n1_; have GW110 := n2_; have GE110 := n3_; clear n0_ n1_ n2_ n3_; clear hb hbox hg; have hcz16_0 : w15.cell? ⟨gb110, 0, none⟩ = some (.int .i64 a0_0) := (bC BK110.out 0).trans rfl; have hcz16_1 : w15.cell? ⟨gb110, 1, none⟩ = some (.int .i64 a0_1) := (bC BK110.out 1).trans rfl; have hcz16_2 : w15.cell? ⟨gb110, 2, none⟩ = some (.int .i64 a0_2) := (bC BK110.out 2).trans rfl; have hcz16_3 : w15.cell? ⟨gb110, 3, none⟩ = some (.slice A0_3 l0_3.length c0_3) := (bC BK110.out 3).trans rfl; have hfz16_0 := bF BK110.out 0; have hfz16_1 := bF BK110.out 1; have hfz16_2 := bF BK110.out 2; have hfz16_3 := bF BK110.out 3) | ((with_reducible refine gate_callee (f := 70) rfl ?_); refine goesL_ (some 5) rfl rfl Tryd.func70 (by kernel_rfl) rfl #[.int .i64 a0_0, .int .i64 8, .int .i64 128] rfl (by (try simp only [mT_, mC_, mN_]) <;> rfl) ?_; (with_reducible refine (impl_within.calls a0_0 8 128 true _ A2.out).mono ?_); rintro e w' ⟨rfl, ⟨nd, rfl⟩⟩; refine ⟨_, rfl, ?_⟩) | (go_at_call 70; (with_reducible refine (impl_within.calls a0_1 1 ji4 false _ A5.out).mono ?_); rintro e w' ⟨rfl, ⟨nd, rfl⟩⟩)); go_ret; exact ⟨by first | rfl | (simp [errW_none, errW_some] <;> rfl) | (simp only [← hji4]; first | rfl | (simp [errW_none, errW_some] <;> rfl)) | (simp [*, errW_none, errW_some] <;> rfl), by apply_rules only [HB.out, lA, lN, lD, (fun h_ => lS h_ GE110.out)]⟩
 ·replace c3 := Bool.eq_false_iff.mpr c3; subst c3; (have H1 : (some false) = some r := by rw [if_neg (show ¬ (false = true) by decide)] at H; exact H); clear H; have H := H1; clear H1; obtain rfl := Option.some.inj H; go_enter Tryd.func30, Tryd.ntmps30; go_wp2_with (first | ((with_reducible refine gate_dst (N := 1) rfl ?_); (try (refine gate_guard (by rfl) ?_; dsimp only)); refine box_event ?hg (N := 1) ?hd (cs := #[.int .i64 a0_0, .int .i64 a0_1, .int .i64 a0_2, .slice A0_3 l0_3.length c0_3]) (t := 36) ?hr ?_; (case hd => rfl); (case hg => rfl); (case hr => first | (go_simp; done) | (go_simp; rfl)); intro gb110 hg w17 hbox hb; have n0_ := mK (lT (by apply_rules only [HB.out, lA, lN, lD]) hb); have n1_ := mK (hbox); have n2_ := mK ((by rw [hg]; exact (below_size (by apply_rules only [HB.out, lA, lN, lD])) : w.heap.size ≤ gb110)); have n3_ := mK ((by rw [hg]; exact (below_size (by apply_rules only [HB.out, lA, lN, lD])) : w.heap.size ≤ gb110)); clear HB; have HB := n0_; have BK110 := n1_; have GW110 := n2_; have GE110 := n3_; clear n0_ n1_ n2_ n3_; clear hb hbox hg; have hcz18_0 : w17.cell? ⟨gb110, 0, none⟩ = some (.int .i64 a0_0) := (bC BK110.out 0).trans rfl; have hcz18_1 : w17.cell? ⟨gb110, 1, none⟩ = some (.int .i64 a0_1) := (bC BK110.out 1).trans rfl; have hcz18_2 : w17.cell? ⟨gb110, 2, none⟩ = some (.int .i64 a0_2) := (bC BK110.out 2).trans rfl; have hcz18_3 : w17.cell? ⟨gb110, 3, none⟩ = some (.slice A0_3 l0_3.length c0_3) := (bC BK110.out 3).trans rfl; have hfz18_0 := bF BK110.out 0; have hfz18_1 := bF BK110.out 1; have hfz18_2 := bF BK110.out 2; have hfz18_3 := bF BK110.out 3) | ((with_reducible refine gate_callee (f := 70) rfl ?_); refine goesL_ (some 5) rfl rfl Tryd.func70 (by kernel_rfl) rfl #[.int .i64 a0_0, .int .i64 8, .int .i64 128] rfl (by (try simp only [mT_, mC_, mN_]) <;> rfl) ?_; (with_reducible refine (impl_within.calls a0_0 8 128 false _ A2.out).mono ?_); rintro e w' ⟨rfl, ⟨nd, rfl⟩⟩; refine ⟨_, rfl, ?_⟩)); go_ret; exact ⟨by first | rfl | (simp [errW_none, errW_some] <;> rfl) | (simp [*, errW_none, errW_some] <;> rfl), by apply_rules only [HB.out, lA, lN, lD, (fun h_ => lS h_ GE110.out)]⟩
def spec_l1Zeros.f (a0 : Int) : Option (ByteArray) := if 0 ≤ a0 then (if (a0 : Int).toNat ≤ 281474976710656 then (some (strOfNums (List.replicate (a0 : Int).toNat 0))) else (none)) else (none)
theorem spec_l1Zeros.calls (a0 : Int) (r : ByteArray) (w : World) (h : spec_l1Zeros.f a0 = some r) :
    Calls Tryd.prog 91 #[.int .i64 a0] w fun e w' => e = .returned (.string r) ∧ Below w.heap.size w w' := by
 have HB := mK (Below.refl w.heap.size w); have H : (if 0 ≤ a0 then (if (a0 : Int).toNat ≤ 281474976710656 then (some (strOfNums (List.replicate (a0 : Int).toNat 0))) else (none)) else (none)) = some r := h; clear h; by_cases c2 : 0 ≤ a0
 ·rw [if_pos c2] at H; have c2b0 := eq_true c2; have c2b1 : decide (0 ≤ a0) = true := decide_eq_true c2; clear c2; by_cases c3 : (a0 : Int).toNat ≤ 281474976710656
  ·rw [if_pos c3] at H; have c3b0 := eq_true c3; have c3b1 : decide ((a0 : Int).toNat ≤ 281474976710656) = true := decide_eq_true c3; clear c3; obtain ⟨y115, hy115⟩ : ∃ y_ : List Int, y_ = (List.replicate (a0 : Int).toNat 0) := ⟨_, rfl⟩; (replace H : (some (strOfNums y115)) = some r := by first | (rw [hy115]; with_reducible exact H) | (have H2_ := (Option.bind_some _ _).symm.trans H; rw [hy115]; with_reducible exact H2_) | (have H2_ := (Option.bind_some _ _).symm.trans H; with_reducible exact H2_) | with_reducible exact H | (rw [hy115]; exact H) | exact H); have Ny115 := mK hy115; clear hy115; obtain rfl := Option.some.inj H; go_enter Tryd.func91, Tryd.ntmps91; go_wp2_with (first | ((with_reducible refine gate_dst (N := 4) rfl ?_); refine Kd.R_make (Kd.int .u8) _ 5 rfl (N := 4) rfl 29 _ _ rfl a0 rfl rfl Tryd.underlying29 (.int .u8 0) 1 info5 rfl (by decide) (by omega) 0 (ok := fun _ => True) (okp := fun _ => True) rfl (fun _ hk => hk) trivial (of_decide_eq_true (by first | (with_reducible assumption) | assumption)) (Nat.le_trans (Nat.mul_le_mul_right _ (of_decide_eq_true (by first | (with_reducible assumption) | assumption) : a0.toNat ≤ 281474976710656)) (by omega)) (Below.refl _ _) (Nat.le_refl _) ?_; intro v116 w4 ho5 hb hg_ hnew_; clear hg_ hnew_; (first | rw [← Ny115.out] at ho5 | (simp only [Int.reduceToNat] at ho5; rw [← Ny115.out] at ho5)); have n0_ := mK (Kd.R_lower ho5 (below_size (by apply_rules only [HB.out, lA, lN, lD]))); have n1_ := mK (lT (by apply_rules only [HB.out, lA, lN, lD]) hb); clear HB; have HO117 := n0_; have HB := n1_; clear n0_ n1_; clear hb ho5; have hcv6 := own_string (P := Tryd.prog) Tryd.underlying29 Tryd.underlying5 Tryd.underlying9 (Kd.own_of_R HO117.out))); go_ret; exact ⟨by first | rfl | (simp [errW_none, errW_some] <;> rfl) | (simp [*, errW_none, errW_some] <;> rfl), by apply_rules only [HB.out, lA, lN, lD]⟩
  (·rw [if_neg c3] at H; exact absurd H (by simp))
 (·rw [if_neg c2] at H; exact absurd H (by simp))
end Go.Proofs.YtknllhfhcgahiaaDoor.PFnSupers
