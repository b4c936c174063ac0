-- by a patched copy of the print (wip/tools/patch_print.py)
import Derived.Test.YtknllhfhcgahiaaDoorPFnExactForwardedx0
import Derived.Test.YtknllhfhcgahiaaDoorPFnExactForwardedx3
namespace Go.Proofs.YtknllhfhcgahiaaDoor.PFnExactForwarded
open Go.RowKit Go.Proofs.YtknllhfhcgahiaaDoorW.PrintWords Go.Proofs.YtknllhfhcgahiaaDoorW.PrintLast Go.Proofs.YtknllhfhcgahiaaDoorW.PrintMore
attribute [local go_sem] max2_int min2_int max_two min_two max_three min_three max_four min_four   -- for this text's walks alone
open Go.Proofs.YtknllhfhcgahiaaDoorW.PrintWords renaming below_alloc → lA, pw_below_drewN → lN, below_drew1 → lD, below_step → lT, blk_cell → bC
open Go.Proofs.YtknllhfhcgahiaaDoorW.PrintWords.Aside0 renaming mk → mK
set_option linter.unusedVariables false
set_option linter.unusedSimpArgs false

/-! ### impl_TypesOk: function 23 -/
set_option maxHeartbeats 1000000 in
theorem impl_TypesOk.closure (s : ByteArray) (w : World) : Calls Tryd.prog 73 #[.string s] w fun e w' => e = .returned (.bool (!impl_isType.g s)) ∧ Below w.heap.size w w' := by
  have HB := mK (Below.refl w.heap.size w)
  have N1 := mK (fun W => impl_isType.calls s (impl_isType.g s) W rfl)
  go_enter Tryd.func73, Tryd.ntmps73
  go_wp2_with (go_at_call 67; (refine (N1.out _).mono ?_); rintro e w2 ⟨rfl, hb⟩; have n0_ := mK (lT HB.out hb); clear HB; have HB := n0_; clear n0_ hb)
  go_ret
  exact ⟨rfl, HB.out⟩
def impl_TypesOk.idx (l : List ByteArray) : Int := match l.findIdx? (fun s => !impl_isType.g s) with | some i => (i : Int) | none => -1
theorem impl_TypesOk.idx_at (l : List ByteArray) (i : Nat) (hi : i < l.length) (h1 : ∀ t : Nat, t < i → impl_isType.g (rdOf ByteArray.empty l (t : Int)) = true) (h2 : impl_isType.g (rdOf ByteArray.empty l (i : Int)) = false) : impl_TypesOk.idx l = i := by
  have g : ∀ t : Nat, (ht : t < l.length) → rdOf ByteArray.empty l (t : Int) = l[t] := fun t ht => by unfold rdOf; rw [Int.toNat_natCast, List.getD_eq_getElem?_getD, List.getElem?_eq_getElem ht]; rfl
  have e : l.findIdx? (fun s => !impl_isType.g s) = some i := by
    rw [List.findIdx?_eq_some_iff_getElem]
    refine ⟨hi, by rw [← g i hi, h2]; rfl, fun j hj => ?_⟩
    have := h1 j hj
    rw [g j (by omega)] at this
    simp [this]
  unfold impl_TypesOk.idx
  rw [e]
theorem impl_TypesOk.idx_none (l : List ByteArray) (h1 : ∀ t : Nat, t < l.length → impl_isType.g (rdOf ByteArray.empty l (t : Int)) = true) : impl_TypesOk.idx l = -1 := by
  have e : l.findIdx? (fun s => !impl_isType.g s) = none := by
    rw [List.findIdx?_eq_none_iff]
    intro x hx
    obtain ⟨t, ht, rfl⟩ := List.getElem_of_mem hx
    have := h1 t ht
    have g : rdOf ByteArray.empty l (t : Int) = l[t] := by unfold rdOf; rw [Int.toNat_natCast, List.getD_eq_getElem?_getD, List.getElem?_eq_getElem ht]; rfl
    rw [g] at this
    simp [this]
  unfold impl_TypesOk.idx
  rw [e]
theorem impl_TypesOk.idx_all (l : List ByteArray) : (!decide (impl_TypesOk.idx l ≥ 0)) = l.all impl_isType.g := by
  unfold impl_TypesOk.idx
  cases e : l.findIdx? (fun s => !impl_isType.g s) with
  | none =>
    rw [List.findIdx?_eq_none_iff] at e
    have : l.all impl_isType.g = true := by rw [List.all_eq_true]; intro x hx; simpa using e x hx
    rw [this]; rfl
  | some i =>
    rw [List.findIdx?_eq_some_iff_getElem] at e
    obtain ⟨hi, h2, _⟩ := e
    have : l.all impl_isType.g = false := by
      rw [List.all_eq_false]; exact ⟨l[i], List.getElem_mem hi, by simpa using h2⟩
    rw [this]; simp
set_option maxHeartbeats 1000000 in
theorem impl_TypesOk.index (A : Option Addr) (c : Nat) (l : List ByteArray) (w : World) (hr : Kd.C Kd.string w A l.length l) (hc : l.length ≤ c) (hsz : l.length ≤ 12) :
    Calls Tryd.prog 118 #[.slice A l.length c, .func (.func 73) #[] #[]] w fun e w' => e = .returned (.int .i64 (impl_TypesOk.idx l)) ∧ Below w.heap.size w w' := by
  have eg : ∀ args w, (callFunc 73 args).run Tryd.prog w = .ok (.enter 73 args) w := enters_of Tryd.func73 (by kernel_rfl) rfl
  have HB := mK (Below.refl w.heap.size w)
  have HR := mK hr
  clear hr
  generalize hidx : impl_TypesOk.idx l = cnt
  have CN := mK hidx
  clear hidx
  go_enter Tryd.func118, Tryd.ntmps118
  go_wp2
  go_loopg [8] l.length (fun kx s8 wr => ∃ i : Nat, s8 = .int .i64 i ∧ i ≤ l.length ∧ l.length - i ≤ kx ∧ Aside0 (Below w.heap.size w wr) ∧ Aside0 (∀ t : Nat, t < i → impl_isType.g (rdOf ByteArray.empty l (t : Int)) = true))
  case atStart => exact ⟨0, rfl, Nat.zero_le _, by omega, HB, ⟨fun t ht => absurd ht (Nat.not_lt_zero _)⟩⟩
  case round =>
    clear HB
    obtain ⟨i, rfl, hin, hg, HB, I⟩ := hrel
    by_cases hlt : i < l.length
    · obtain ⟨ad, ea, hx0⟩ := Kd.at_string HR.out (i : Int) (by omega) (by omega)
      cases ea
      replace hx0 := (HB.out.cell (World.block_lt_of_cell? w _ hx0)).trans hx0
      simp only [Int.toNat_natCast] at hx0
      generalize hy : rdOf ByteArray.empty l (i : Int) = x at hx0
      have Y := mK hy
      clear hy
      have N1 := mK (fun W => impl_TypesOk.closure x W)
      by_cases hyx : impl_isType.g x = true
      · rw [hyx] at N1
        have hyx' := mK hyx
        clear hyx
        have N1' := mK (show ∀ W, Calls Tryd.prog 73 #[.string x] W fun e w' => e = .returned (.bool false) ∧ Below W.heap.size W w' from N1.out)
        clear N1
        go_wp2_with (go_at_fn 73; (refine (N1'.out _).mono ?_); rintro e w2 ⟨rfl, hb⟩; have n0_ := mK (lT HB.out hb); clear HB; have HB := n0_; clear n0_ hb)
        go_roundg (l.length - (i + 1))
        case measure => omega
        case rel => exact ⟨i + 1, rfl, by omega, Nat.le_refl _, HB, ⟨fun t ht => by
            by_cases e : t = i
            · subst e; rw [Y.out]; exact hyx'.out
            · exact I.out t (by omega)⟩⟩
      · have hyx' := mK (Bool.eq_false_iff.2 hyx)
        have N1' := mK (show ∀ W, Calls Tryd.prog 73 #[.string x] W fun e w' => e = .returned (.bool true) ∧ Below W.heap.size W w' from fun W => by have := N1.out W; rw [hyx'.out] at this; exact this)
        clear N1 hyx
        obtain rfl : cnt = (i : Int) := by rw [← CN.out]; exact impl_TypesOk.idx_at l i hlt I.out (by rw [Y.out]; exact hyx'.out)
        go_wp2_with (go_at_fn 73; (refine (N1'.out _).mono ?_); rintro e w2 ⟨rfl, hb⟩; have n0_ := mK (lT HB.out hb); clear HB; have HB := n0_; clear n0_ hb)
        go_ret
        exact ⟨rfl, HB.out⟩
    · obtain rfl : i = l.length := by omega
      obtain rfl : cnt = -1 := by rw [← CN.out]; exact impl_TypesOk.idx_none l I.out
      go_wp2
      go_ret
      exact ⟨rfl, HB.out⟩
set_option maxHeartbeats 1000000 in
theorem impl_TypesOk.contains (A : Option Addr) (c : Nat) (l : List ByteArray) (w : World) (hr : Kd.C Kd.string w A l.length l) (hc : l.length ≤ c) (hsz : l.length ≤ 12) :
    Calls Tryd.prog 72 #[.slice A l.length c, .func (.func 73) #[] #[]] w fun e w' => e = .returned (.bool (decide (impl_TypesOk.idx l ≥ 0))) ∧ Below w.heap.size w w' := by
  have HB := mK (Below.refl w.heap.size w)
  have N1 := mK (fun W (hW : Kd.C Kd.string W A l.length l) => impl_TypesOk.index A c l W hW hc hsz)
  have HR := mK hr
  clear hr
  generalize impl_TypesOk.idx l = cnt at N1 ⊢
  go_enter Tryd.func72, Tryd.ntmps72
  go_wp2_with (go_at_call 118; (refine (N1.out _ (Kd.C_below HR.out HB.out)).mono ?_); rintro e w2 ⟨rfl, hb⟩; have n0_ := mK (lT HB.out hb); clear HB; have HB := n0_; clear n0_ hb)
  go_ret
  exact ⟨rfl, HB.out⟩
def impl_TypesOk.g (l0 : List ByteArray) : Bool := decide (1 ≤ (l0.length : Int) ∧ (l0.length : Int) ≤ 12) && l0.all impl_isType.g
def impl_TypesOk.f (l0 : List ByteArray) : Option (Bool) := some (impl_TypesOk.g l0)
set_option maxHeartbeats 1000000 in
theorem impl_TypesOk.calls (A0 : Option Addr) (c0 : Nat) (l0 : List ByteArray) (r : Bool) (w : World) (hr0 : Kd.C Kd.string w A0 l0.length l0) (hc0 : l0.length ≤ c0) (h : impl_TypesOk.f l0 = some r) :
    Calls Tryd.prog 23 #[.slice A0 l0.length c0] w fun e w' => e = .returned (.bool r) ∧ Below w.heap.size w w' := by
 unfold impl_TypesOk.f impl_TypesOk.g at h; obtain rfl := Option.some.inj h; clear h; have HB := mK (Below.refl w.heap.size w); have NS := mK (fun W (hW : Kd.C Kd.string W A0 l0.length l0) => impl_size_string.calls A0 c0 l0 (l0.length : Int) W hW hc0 rfl); have NW := mK (fun r W h => impl_within.calls (l0.length : Int) 1 12 r W h)
 have hw1 : impl_within.f (l0.length : Int) 1 12 = some (decide (1 ≤ (l0.length : Int) ∧ (l0.length : Int) ≤ 12)) := by
   unfold impl_within.f
   by_cases h1 : (l0.length : Int) ≥ 1
   · rw [if_pos h1]; congr 1; simp [show (1 : Int) ≤ l0.length from h1]
   · rw [if_neg h1]; congr 1; symm; simp; omega
 by_cases hs : (1 ≤ (l0.length : Int) ∧ (l0.length : Int) ≤ 12)
 ·have NT := mK (fun W (hW : Kd.C Kd.string W A0 l0.length l0) => impl_TypesOk.contains A0 c0 l0 W hW hc0 (by omega)); rw [decide_eq_true hs] at hw1 ⊢; rw [Bool.true_and, ← impl_TypesOk.idx_all]; generalize decide (impl_TypesOk.idx l0 ≥ 0) = t at NT ⊢; have HW := mK hw1; have HR := mK hr0; clear hw1 hs hr0; go_enter Tryd.func23, Tryd.ntmps23; go_wp2_with (first | (go_at_call 71; (refine (NS.out _ (Kd.C_below HR.out HB.out)).mono ?_); rintro e w2 ⟨rfl, hd⟩; have n0_ := mK (lT HB.out hd.below); clear HB; have HB := n0_; clear n0_ hd) | (go_at_call 70; (refine (NW.out _ _ HW.out).mono ?_); rintro e w2 ⟨rfl, hd⟩; have n0_ := mK (lT HB.out hd.below); clear HB; have HB := n0_; clear n0_ hd) | (go_at_call 72; (refine (NT.out _ (Kd.C_below HR.out HB.out)).mono ?_); rintro e w2 ⟨rfl, hb⟩; have n0_ := mK (lT HB.out hb); clear HB; have HB := n0_; clear n0_ hb)); go_ret; exact ⟨rfl, HB.out⟩
 ·rw [decide_eq_false hs] at hw1 ⊢; rw [Bool.false_and]; have HW := mK hw1; have HR := mK hr0; clear hw1 hs hr0; go_enter Tryd.func23, Tryd.ntmps23; go_wp2_with (first | (go_at_call 71; (refine (NS.out _ (Kd.C_below HR.out HB.out)).mono ?_); rintro e w2 ⟨rfl, hd⟩; have n0_ := mK (lT HB.out hd.below); clear HB; have HB := n0_; clear n0_ hd) | (go_at_call 70; (refine (NW.out _ _ HW.out).mono ?_); rintro e w2 ⟨rfl, hd⟩; have n0_ := mK (lT HB.out hd.below); clear HB; have HB := n0_; clear n0_ hd)); go_ret; exact ⟨rfl, HB.out⟩


/-! ### impl_RefKind: function 82 -/
def impl_RefKind.j0 : Nat → Int → Bool → Option (Int)
  | 0, _, _ => none
  | k + 1, x0, x6 => if x6 = true then (some 1) else ((impl_within.f x0 1 799).bind fun t155 => (if t155 = true then (if (Int.tmod x0 2) = 1 then (some 2) else (some (-1))) else (some (-1))))
def impl_RefKind.f (k : Nat) (a0 : Int) : Option (Int) := if a0 = 0 then (some 0) else ((impl_within.f a0 2 254).bind fun t154 => (if t154 = true then (impl_RefKind.j0 k a0 ((Int.tmod a0 2) == 0)) else (impl_RefKind.j0 k a0 false)))
theorem impl_RefKind.mono_l : ∀ k, (∀ y0 y1, LeO (impl_RefKind.j0 k y0 y1) (impl_RefKind.j0 (k + 1) y0 y1))
  | 0 => fun _ _ r h => by simp [impl_RefKind.j0] at h
  | k + 1 => by
    have ih0 := impl_RefKind.mono_l k
    · intro y0 y1
      unfold impl_RefKind.j0
      repeat' first
      | (with_reducible exact ih0 _ _)
      | (with_reducible exact LeO.refl _)
      | (with_reducible exact LeO.none _)
      | (with_reducible refine LeO.ite ?_ ?_)
      | (with_reducible refine LeO.bind ?_ (fun _ => ?_))
      | exact ih0 _ _
      | exact LeO.none _
      | refine LeO.ite ?_ ?_
      | refine LeO.bind ?_ (fun _ => ?_)
theorem impl_RefKind.mono : ∀ a0 k, LeO (impl_RefKind.f k a0) (impl_RefKind.f (k + 1) a0) := by
  intro a0 k
  have ih0 := impl_RefKind.mono_l k
  unfold impl_RefKind.f
  repeat' first
      | (with_reducible exact ih0 _ _)
      | (with_reducible exact LeO.refl _)
      | (with_reducible exact LeO.none _)
      | (with_reducible refine LeO.ite ?_ ?_)
      | (with_reducible refine LeO.bind ?_ (fun _ => ?_))
      | exact ih0 _ _
      | exact LeO.none _
      | refine LeO.ite ?_ ?_
      | refine LeO.bind ?_ (fun _ => ?_)
set_option maxHeartbeats 8000000 in
set_option maxRecDepth 100000 in
theorem impl_RefKind.calls (k : Nat) (a0 : Int) (r : Int) (w : World) (h : impl_RefKind.f k a0 = some r) :
    Calls Tryd.prog 82 #[.int .i64 a0] w fun e w' => e = .returned (.int .i64 r) ∧ Drawn0 w w' := by
 have H : (if a0 = 0 then (some 0) else ((impl_within.f a0 2 254).bind fun t154 => (if t154 = true then (impl_RefKind.j0 k a0 ((Int.tmod a0 2) == 0)) else (impl_RefKind.j0 k a0 false)))) = some r := h; clear h; by_cases c2 : a0 = 0
 ·rw [if_pos c2] at H; have c2b0 : (a0 == 0) = true := beq_iff_eq.mpr c2; have c2b1 : (a0 != 0) = false := bne_eq_false_iff_eq.mpr c2; clear c2; obtain rfl := Option.some.inj H; go_enter Tryd.func82, Tryd.ntmps82; go_wp2; go_ret; exact ⟨by first | rfl | (simp; done) | (simp [*]; done), by repeat (first | exact Drawn0.refl _ | apply Drawn0.step)⟩
 ·rw [if_neg c2] at H; have c2b0 : (a0 == 0) = false := beq_eq_false_iff_ne.mpr c2; have c2b1 : (a0 != 0) = true := bne_iff_ne.mpr c2; have HC3 := mK H; clear H; go_enter Tryd.func82, Tryd.ntmps82; go_upto_region 3 with (fail); go_cut [6] (fun v6 wc => ∃ (kq : Nat) (x6_2 : Bool), v6 = .bool x6_2 ∧ Aside0 (impl_RefKind.j0 kq a0 x6_2 = some r) ∧ Aside0 (kq ≤ k) ∧ Drawn0 w wc)
  case first =>
   have H := HC3.out; clear HC3; replace H := Option.bind_eq_some_iff.mp H; obtain ⟨t154, A40, H⟩ := H; replace H : (if t154 = true then (impl_RefKind.j0 k a0 ((Int.tmod a0 2) == 0)) else (impl_RefKind.j0 k a0 false)) = some r := H; have A4 := mK A40; clear A40; by_cases c5 : t154 = true
   ·subst c5; (have H1 : (impl_RefKind.j0 k a0 ((Int.tmod a0 2) == 0)) = some r := by rw [if_pos rfl] at H; exact H); clear H; have H := H1; clear H1; have H' := mK H; clear H; go_wp2_with (first | ((with_reducible refine gate_callee (f := 70) rfl ?_); refine goesL_ (some 8) rfl rfl Tryd.func70 (by kernel_rfl) rfl #[.int .i64 a0, .int .i64 2, .int .i64 254] rfl (by (try simp only [List.map_toArray, List.map_cons, List.map_nil]); first | done | rfl | (simp only [List.length_drop, List.length_take]; rfl)) ?_; (with_reducible refine (impl_within.calls a0 2 254 true _ A4.out).mono ?_); rintro e w' ⟨rfl, ⟨nd, rfl⟩⟩; refine ⟨_, rfl, ?_⟩)); go_meet; (case rel => exact ⟨_, (((Int.tmod a0 2) == 0)), (by first | rfl | (simp; done) | (simp [*]; done)), H', ⟨by first | omega | exact Nat.le_refl _⟩, by repeat (first | exact Drawn0.refl _ | apply Drawn0.step)⟩)
   ·replace c5 := Bool.eq_false_iff.mpr c5; subst c5; (have H1 : (impl_RefKind.j0 k a0 false) = some r := by rw [if_neg (show ¬ (false = true) by decide)] at H; exact H); clear H; have H := H1; clear H1; have H' := mK H; clear H; go_wp2_with (first | ((with_reducible refine gate_callee (f := 70) rfl ?_); refine goesL_ (some 8) rfl rfl Tryd.func70 (by kernel_rfl) rfl #[.int .i64 a0, .int .i64 2, .int .i64 254] rfl (by (try simp only [List.map_toArray, List.map_cons, List.map_nil]); first | done | rfl | (simp only [List.length_drop, List.length_take]; rfl)) ?_; (with_reducible refine (impl_within.calls a0 2 254 false _ A4.out).mono ?_); rintro e w' ⟨rfl, ⟨nd, rfl⟩⟩; refine ⟨_, rfl, ?_⟩)); go_meet; (case rel => exact ⟨_, (false), (by first | rfl | (simp; done) | (simp [*]; done)), H', ⟨by first | omega | exact Nat.le_refl _⟩, by repeat (first | exact Drawn0.refl _ | apply Drawn0.step)⟩)
  case rest =>
   clear HC3; (try clear c2); (try clear c2b0); (try clear c2b1); (try clear p2); (try clear c5); obtain ⟨kq, x6_2, rfl, HA, HJ2, ⟨mc2, rfl⟩⟩ := hcut
   cases kq with
   | zero => exact absurd HA.out (by simp [impl_RefKind.j0])
   | succ kj2 =>
    have H := HA.out; clear HA; simp only [impl_RefKind.j0] at H; by_cases c6 : x6_2 = true
    ·subst c6; (have H1 : (some 1) = some r := by rw [if_pos rfl] at H; exact H); clear H; have H := H1; clear H1; obtain rfl := Option.some.inj H; go_wp2; go_ret; exact ⟨by first | rfl | (simp; done) | (simp [*]; done), by repeat (first | exact Drawn0.refl _ | apply Drawn0.step)⟩
    ·replace c6 := Bool.eq_false_iff.mpr c6; subst c6; (have H1 : ((impl_within.f a0 1 799).bind fun t155 => (if t155 = true then (if (Int.tmod a0 2) = 1 then (some 2) else (some (-1))) else (some (-1)))) = some r := by rw [if_neg (show ¬ (false = true) by decide)] at H; exact H); clear H; have H := H1; clear H1; replace H := Option.bind_eq_some_iff.mp H; obtain ⟨t155, A70, H⟩ := H; replace H : (if t155 = true then (if (Int.tmod a0 2) = 1 then (some 2) else (some (-1))) else (some (-1))) = some r := H; have A7 := mK A70; clear A70; by_cases c8 : t155 = true
     ·subst c8; (have H1 : (if (Int.tmod a0 2) = 1 then (some 2) else (some (-1))) = some r := by rw [if_pos rfl] at H; exact H); clear H; have H := H1; clear H1; by_cases c9 : (Int.tmod a0 2) = 1
      ·rw [if_pos c9] at H; have c9b0 : ((Int.tmod a0 2) == 1) = true := beq_iff_eq.mpr c9; have c9b1 : ((Int.tmod a0 2) != 1) = false := bne_eq_false_iff_eq.mpr c9; clear c9; obtain rfl := Option.some.inj H; go_wp2_with (first | ((with_reducible refine gate_callee (f := 70) rfl ?_); refine goesL_ (some 16) rfl rfl Tryd.func70 (by kernel_rfl) rfl #[.int .i64 a0, .int .i64 1, .int .i64 799] rfl (by (try simp only [List.map_toArray, List.map_cons, List.map_nil]); first | done | rfl | (simp only [List.length_drop, List.length_take]; rfl)) ?_; (with_reducible refine (impl_within.calls a0 1 799 true _ A7.out).mono ?_); rintro e w' ⟨rfl, ⟨nd, rfl⟩⟩; refine ⟨_, rfl, ?_⟩)); go_ret; exact ⟨by first | rfl | (simp; done) | (simp [*]; done), by repeat (first | exact Drawn0.refl _ | apply Drawn0.step)⟩
      ·rw [if_neg c9] at H; have c9b0 : ((Int.tmod a0 2) == 1) = false := beq_eq_false_iff_ne.mpr c9; have c9b1 : ((Int.tmod a0 2) != 1) = true := bne_iff_ne.mpr c9; obtain rfl := Option.some.inj H; go_wp2_with (first | ((with_reducible refine gate_callee (f := 70) rfl ?_); refine goesL_ (some 16) rfl rfl Tryd.func70 (by kernel_rfl) rfl #[.int .i64 a0, .int .i64 1, .int .i64 799] rfl (by (try simp only [List.map_toArray, List.map_cons, List.map_nil]); first | done | rfl | (simp only [List.length_drop, List.length_take]; rfl)) ?_; (with_reducible refine (impl_within.calls a0 1 799 true _ A7.out).mono ?_); rintro e w' ⟨rfl, ⟨nd, rfl⟩⟩; refine ⟨_, rfl, ?_⟩)); go_ret; exact ⟨by first | rfl | (simp; done) | (simp [*]; done), by repeat (first | exact Drawn0.refl _ | apply Drawn0.step)⟩
     ·replace c8 := Bool.eq_false_iff.mpr c8; subst c8; (have H1 : (some (-1)) = some r := by rw [if_neg (show ¬ (false = true) by decide)] at H; exact H); clear H; have H := H1; clear H1; obtain rfl := Option.some.inj H; go_wp2_with (first | ((with_reducible refine gate_callee (f := 70) rfl ?_); refine goesL_ (some 16) rfl rfl Tryd.func70 (by kernel_rfl) rfl #[.int .i64 a0, .int .i64 1, .int .i64 799] rfl (by (try simp only [List.map_toArray, List.map_cons, List.map_nil]); first | done | rfl | (simp only [List.length_drop, List.length_take]; rfl)) ?_; (with_reducible refine (impl_within.calls a0 1 799 false _ A7.out).mono ?_); rintro e w' ⟨rfl, ⟨nd, rfl⟩⟩; refine ⟨_, rfl, ?_⟩)); go_ret; exact ⟨by first | rfl | (simp; done) | (simp [*]; done), by repeat (first | exact Drawn0.refl _ | apply Drawn0.step)⟩

/-! ### impl_ObjOk: function 37 -/
def impl_ObjOk.ref (n : Int) : Bool := decide (n = 0 ∨ (2 ≤ n ∧ n ≤ 254 ∧ Int.tmod n 2 = 0) ∨ (1 ≤ n ∧ n ≤ 799 ∧ Int.tmod n 2 = 1))
theorem impl_ObjOk.rk (n : Int) : ∃ r, impl_RefKind.f 9 n = some r ∧ decide (0 ≤ r) = impl_ObjOk.ref n := by
  unfold impl_RefKind.f impl_within.f impl_ObjOk.ref
  by_cases h0 : n = 0
  · simp [h0]
  · by_cases h1 : 2 ≤ n <;> by_cases h2 : n ≤ 254 <;> by_cases h3 : Int.tmod n 2 = 0 <;> by_cases h4 : 1 ≤ n <;> by_cases h5 : n ≤ 799 <;> by_cases h6 : Int.tmod n 2 = 1 <;> first | (exfalso; omega) | simp [impl_RefKind.j0, impl_within.f, h0, h1, h2, h3, h4, h5, h6]
set_option maxHeartbeats 1000000 in
theorem impl_ObjOk.closure (x : Int) (w : World) : Calls Tryd.prog 81 #[.int .i64 x] w fun e w' => e = .returned (.bool (impl_ObjOk.ref x)) ∧ Drawn0 w w' := by
  obtain ⟨r, hr, hd⟩ := impl_ObjOk.rk x
  have N1 := mK (fun W => impl_RefKind.calls 9 x r W hr)
  rw [← hd]
  clear hr hd
  go_enter Tryd.func81, Tryd.ntmps81
  go_wp2_with (go_at_call 82; (refine (N1.out _).mono ?_); rintro e w2 ⟨rfl, ⟨nd, rfl⟩⟩)
  go_ret
  exact ⟨by first | rfl | (simp; done), by repeat (first | exact Drawn0.refl _ | apply Drawn0.step)⟩
def impl_ObjOk.one (s : ByteArray) (vals : List Int) (i : Nat) : Bool := !(decide (bt s (i : Int) = 114)) || impl_ObjOk.ref (rd vals (i : Int))
def impl_ObjOk.vals (s : ByteArray) (vals : List Int) : Bool := decide ((vals.length : Int) = (s.size : Int)) && (List.range vals.length).all (impl_ObjOk.one s vals)
def impl_ObjOk.is (l : List ByteArray) (t : Int) (vals : List Int) : Bool := decide (0 ≤ t ∧ t ≤ (l.length : Int) - 1) && impl_ObjOk.vals (rdOf ByteArray.empty l t) vals
theorem impl_ObjOk.all_range {p : Nat → Bool} {n : Nat} : ((List.range n).all p = true) ↔ ∀ i, i < n → p i = true := by
  rw [List.all_eq_true]; exact ⟨fun h i hi => h i (List.mem_range.2 hi), fun h i hi => h i (List.mem_range.1 hi)⟩
set_option maxHeartbeats 4000000 in
set_option maxRecDepth 1000000 in
theorem impl_ObjOk.isObject (A : Option Addr) (c : Nat) (l : List ByteArray) (t : Int) (B : Option Addr) (d : Nat) (vs : List Int) (w : World) (hr : Kd.C Kd.string w A l.length l) (hc : l.length ≤ c) (hv : Kd.C (Kd.int .i64) w B vs.length vs) (hd : vs.length ≤ d) (hsz : l.length ≤ 12) (hs23 : ∀ s ∈ l, s.size ≤ 23) :
    Calls Tryd.prog 80 #[.slice A l.length c, .agg #[.int .i64 t, .slice B vs.length d], .func (.func 81) #[] #[]] w fun e w' => e = .returned (.bool (impl_ObjOk.is l t vs)) ∧ Below w.heap.size w w' := by
  have eg : ∀ args w, (callFunc 81 args).run Tryd.prog w = .ok (.enter 81 args) w := enters_of Tryd.func81 (by kernel_rfl) rfl
  have huO := Tryd.underlying46
  have HB := mK (Below.refl w.heap.size w)
  have NS := mK (fun W (hW : Kd.C Kd.string W A l.length l) => impl_size_string.calls A c l (l.length : Int) W hW hc rfl)
  have NW := mK (fun r W h => impl_within.calls t 0 ((l.length : Int) - 1) r W h)
  have NC := mK (fun x W => impl_ObjOk.closure x W)
  have hw1 : impl_within.f t 0 ((l.length : Int) - 1) = some (decide (0 ≤ t ∧ t ≤ (l.length : Int) - 1)) := by
    unfold impl_within.f
    by_cases h1 : t ≥ 0
    · rw [if_pos h1]; congr 1; simp [show (0 : Int) ≤ t from h1]
    · rw [if_neg h1]; congr 1; symm; simp; omega
  have HR := mK hr
  have HV := mK hv
  clear hr hv
  unfold impl_ObjOk.is
  by_cases c1 : 0 ≤ t ∧ t ≤ (l.length : Int) - 1
  · rw [decide_eq_true c1] at hw1 ⊢
    rw [Bool.true_and]
    have HW := mK hw1
    clear hw1
    obtain ⟨ad, ea, hx0⟩ := Kd.at_string HR.out t c1.1 (by omega)
    cases ea
    generalize hy : rdOf ByteArray.empty l t = s at hx0 ⊢
    have hs23' : s.size ≤ 23 := by
      rw [← hy]; unfold rdOf; rw [List.getD_eq_getElem?_getD, List.getElem?_eq_getElem (by omega)]; exact hs23 _ (List.getElem_mem _)
    clear hy hs23
    unfold impl_ObjOk.vals
    have p0 : (0 ≤ t) = True := eq_true c1.1
    have q0 : (t < (l.length : Int)) = True := eq_true (by omega)
    by_cases c2 : (vs.length : Int) = (s.size : Int)
    · rw [decide_eq_true c2, Bool.true_and]
      generalize hres : (List.range vs.length).all (impl_ObjOk.one s vs) = res
      have HRES := mK hres
      clear hres
      have c2b0 : ((vs.length : Int) == (s.size : Int)) = true := beq_iff_eq.mpr c2
      have c2b1 : ((vs.length : Int) != (s.size : Int)) = false := bne_eq_false_iff_eq.mpr c2
      have C2 := mK c2
      clear c2
      go_enter Tryd.func80, Tryd.ntmps80
      go_upto_region 1 with (first | ((with_reducible refine gate_dst (N := 4) rfl ?_); (try (refine gate_guard (by rfl) ?_; dsimp only)); refine box_event ?hg (N := 4) ?hd (cs := #[.int .i64 t, .slice B vs.length d]) (t := 46) ?hr ?_; (case hd => rfl); (case hg => rfl); (case hr => first | (go_simp; done) | (go_simp; rfl)); intro gd hg w4 hbox hb; have n0_ := mK (lT HB.out hb); have n1_ := mK hbox; clear HB; have HB := n0_; have BK := n1_; clear n0_ n1_ hb hbox hg))
      (try simp only [Act.put, sI_, s0_, sS_])
      have hcz0 : w4.cell? ⟨gd, 0, none⟩ = some (.int .i64 t) := (bC BK.out 0).trans rfl
      have hcz1 : w4.cell? ⟨gd, 1, none⟩ = some (.slice B vs.length d) := (bC BK.out 1).trans rfl
      replace hx0 := (HB.out.cell (World.block_lt_of_cell? w _ hx0)).trans hx0
      go_quiet (first | (go_at_call 71; (refine (NS.out _ ?side1).mono ?_); (case side1 => repeat (first | exact (Kd.C_below HR.out HB.out) | (with_reducible refine Kd.C_alloc ?_ _) | (with_reducible refine Kd.C_drewN ?_ _) | (with_reducible refine Kd.C_drew ?_))); rintro e w' ⟨rfl, ⟨nd, rfl⟩⟩; (try first | exact ⟨rfl, _, World.drewN_drewN _ _ _⟩ | exact ⟨rfl, _, Eq.trans (World.drewN_drewN _ _ _) (congrArg (World.drewN _) (Nat.add_assoc _ _ _))⟩)) | (go_at_call 70; (refine (NW.out _ _ HW.out).mono ?_); rintro e w' ⟨rfl, ⟨nd, rfl⟩⟩; (try first | exact ⟨rfl, _, World.drewN_drewN _ _ _⟩ | exact ⟨rfl, _, Eq.trans (World.drewN_drewN _ _ _) (congrArg (World.drewN _) (Nat.add_assoc _ _ _))⟩)))
      try go_wp2
      go_loopg [31] vs.length (fun kx s31 wr => ∃ i m : Nat, s31 = .int .i64 i ∧ wr = w4.drewN m ∧ i ≤ vs.length ∧ vs.length - i ≤ kx ∧ Aside0 (∀ j : Nat, j < i → impl_ObjOk.one s vs j = true))
      case atStart => exact ⟨0, _, rfl, rfl, Nat.zero_le _, by omega, ⟨fun j hj => absurd hj (Nat.not_lt_zero _)⟩⟩
      case round =>
        obtain ⟨i, m, rfl, rfl, hin, hg, I⟩ := hrel
        by_cases hlt : i < vs.length
        · obtain ⟨bd, eb, hv0⟩ := Kd.at_int HV.out (i : Int) (by omega) (by omega)
          cases eb
          replace hv0 := (HB.out.cell (World.block_lt_of_cell? w _ hv0)).trans hv0
          simp only [Int.toNat_natCast] at hv0
          have p1 : (0 ≤ (i : Int)) = True := eq_true (by omega)
          have q1 : ((i : Int) < (s.size : Int)) = True := eq_true (by have := C2.out; omega)
          have hx1 : ∀ h : i < s.size, ((s[i]'h).toNat : Int) = bt s (i : Int) := fun h => by have := bt_at s (i : Int) (by rw [Int.toNat_natCast]; exact h); simpa only [Int.toNat_natCast] using this
          have hx2 := bt_at s (i : Int)
          generalize hy : rd vs (i : Int) = x at hv0
          have Y := mK hy
          clear hy
          by_cases c3 : bt s (i : Int) = 114
          · have c3b0 : (bt s (i : Int) == 114) = true := beq_iff_eq.mpr c3
            have c3b1 : (bt s (i : Int) != 114) = false := bne_eq_false_iff_eq.mpr c3
            by_cases c4 : impl_ObjOk.ref x = true
            · have ON := mK (show impl_ObjOk.one s vs i = true by unfold impl_ObjOk.one; rw [Y.out, c4, Bool.or_true])
              have N1 := mK (fun W => show Calls Tryd.prog 81 #[.int .i64 x] W fun e w' => e = .returned (.bool true) ∧ Drawn0 W w' by have := NC.out x W; rw [c4] at this; exact this)
              clear c3 c4
              go_wp2_with (go_at_fn 81; (refine (N1.out _).mono ?_); rintro e w' ⟨rfl, ⟨nd, rfl⟩⟩; (try first | exact ⟨rfl, _, World.drewN_drewN _ _ _⟩ | exact ⟨rfl, _, Eq.trans (World.drewN_drewN _ _ _) (congrArg (World.drewN _) (Nat.add_assoc _ _ _))⟩))
              go_roundg (vs.length - (i + 1))
              case measure => omega
              case rel => exact ⟨i + 1, _, by rw [show wrap64 ((i : Int) + 1) = ((i + 1 : Nat) : Int) by have := C2.out; unfold wrap64; omega], rfl, by omega, Nat.le_refl _, ⟨fun j hj => by
                by_cases e : j = i
                · subst e; exact ON.out
                · exact I.out j (by omega)⟩⟩
            · have ON := mK (show impl_ObjOk.one s vs i = false by unfold impl_ObjOk.one; rw [Y.out, Bool.eq_false_iff.2 c4, decide_eq_true c3]; rfl)
              have N1 := mK (fun W => show Calls Tryd.prog 81 #[.int .i64 x] W fun e w' => e = .returned (.bool false) ∧ Drawn0 W w' by have := NC.out x W; rw [Bool.eq_false_iff.2 c4] at this; exact this)
              have RES : (List.range vs.length).all (impl_ObjOk.one s vs) = false := by
                rw [List.all_eq_false]; exact ⟨i, List.mem_range.2 hlt, by rw [ON.out]; decide⟩
              obtain rfl : res = false := by rw [← HRES.out]; exact RES
              clear c3 c4 RES
              go_wp2_with (go_at_fn 81; (refine (N1.out _).mono ?_); rintro e w' ⟨rfl, ⟨nd, rfl⟩⟩; (try first | exact ⟨rfl, _, World.drewN_drewN _ _ _⟩ | exact ⟨rfl, _, Eq.trans (World.drewN_drewN _ _ _) (congrArg (World.drewN _) (Nat.add_assoc _ _ _))⟩))
              go_ret
              exact ⟨rfl, by repeat (first | (with_reducible first | exact HB.out | apply lA | apply lN | apply lD) | exact HB.out)⟩
          · have ON := mK (show impl_ObjOk.one s vs i = true by unfold impl_ObjOk.one; rw [decide_eq_false c3]; rfl)
            have c3b0 : (bt s (i : Int) == 114) = false := beq_eq_false_iff_ne.mpr c3
            have c3b1 : (bt s (i : Int) != 114) = true := bne_iff_ne.mpr c3
            clear c3
            go_wp2
            go_roundg (vs.length - (i + 1))
            case measure => omega
            case rel => exact ⟨i + 1, _, by rw [show wrap64 ((i : Int) + 1) = ((i + 1 : Nat) : Int) by have := C2.out; unfold wrap64; omega], rfl, by omega, Nat.le_refl _, ⟨fun j hj => by
              by_cases e : j = i
              · subst e; exact ON.out
              · exact I.out j (by omega)⟩⟩
        · obtain rfl : i = vs.length := by omega
          have RES : (List.range vs.length).all (impl_ObjOk.one s vs) = true := impl_ObjOk.all_range.2 I.out
          obtain rfl : res = true := by rw [← HRES.out]; exact RES
          clear RES
          go_wp2
          go_ret
          exact ⟨rfl, by repeat (first | (with_reducible first | exact HB.out | apply lA | apply lN | apply lD) | exact HB.out)⟩
    · rw [decide_eq_false c2, Bool.false_and]
      have c2b0 : ((vs.length : Int) == (s.size : Int)) = false := beq_eq_false_iff_ne.mpr c2
      have c2b1 : ((vs.length : Int) != (s.size : Int)) = true := bne_iff_ne.mpr c2
      clear c2
      go_enter Tryd.func80, Tryd.ntmps80
      go_upto_region 1 with (first | ((with_reducible refine gate_dst (N := 4) rfl ?_); (try (refine gate_guard (by rfl) ?_; dsimp only)); refine box_event ?hg (N := 4) ?hd (cs := #[.int .i64 t, .slice B vs.length d]) (t := 46) ?hr ?_; (case hd => rfl); (case hg => rfl); (case hr => first | (go_simp; done) | (go_simp; rfl)); intro gd hg w4 hbox hb; have n0_ := mK (lT HB.out hb); have n1_ := mK hbox; clear HB; have HB := n0_; have BK := n1_; clear n0_ n1_ hb hbox hg))
      (try simp only [Act.put, sI_, s0_, sS_])
      have hcz0 : w4.cell? ⟨gd, 0, none⟩ = some (.int .i64 t) := (bC BK.out 0).trans rfl
      have hcz1 : w4.cell? ⟨gd, 1, none⟩ = some (.slice B vs.length d) := (bC BK.out 1).trans rfl
      replace hx0 := (HB.out.cell (World.block_lt_of_cell? w _ hx0)).trans hx0
      go_quiet (first | (go_at_call 71; (refine (NS.out _ ?side1).mono ?_); (case side1 => repeat (first | exact (Kd.C_below HR.out HB.out) | (with_reducible refine Kd.C_alloc ?_ _) | (with_reducible refine Kd.C_drewN ?_ _) | (with_reducible refine Kd.C_drew ?_))); rintro e w' ⟨rfl, ⟨nd, rfl⟩⟩; (try first | exact ⟨rfl, _, World.drewN_drewN _ _ _⟩ | exact ⟨rfl, _, Eq.trans (World.drewN_drewN _ _ _) (congrArg (World.drewN _) (Nat.add_assoc _ _ _))⟩)) | (go_at_call 70; (refine (NW.out _ _ HW.out).mono ?_); rintro e w' ⟨rfl, ⟨nd, rfl⟩⟩; (try first | exact ⟨rfl, _, World.drewN_drewN _ _ _⟩ | exact ⟨rfl, _, Eq.trans (World.drewN_drewN _ _ _) (congrArg (World.drewN _) (Nat.add_assoc _ _ _))⟩)))
      try go_wp2
      go_ret
      exact ⟨by first | rfl | (simp; done) | (simp [*]; done), by repeat (first | (with_reducible first | exact HB.out | apply lA | apply lN | apply lD) | exact HB.out)⟩
  · rw [decide_eq_false c1] at hw1 ⊢
    rw [Bool.false_and]
    have HW := mK hw1
    clear hw1 c1
    go_enter Tryd.func80, Tryd.ntmps80
    go_upto_region 1 with (first | ((with_reducible refine gate_dst (N := 4) rfl ?_); (try (refine gate_guard (by rfl) ?_; dsimp only)); refine box_event ?hg (N := 4) ?hd (cs := #[.int .i64 t, .slice B vs.length d]) (t := 46) ?hr ?_; (case hd => rfl); (case hg => rfl); (case hr => first | (go_simp; done) | (go_simp; rfl)); intro gd hg w4 hbox hb; have n0_ := mK (lT HB.out hb); have n1_ := mK hbox; clear HB; have HB := n0_; have BK := n1_; clear n0_ n1_ hb hbox hg))
    (try simp only [Act.put, sI_, s0_, sS_])
    have hcz0 : w4.cell? ⟨gd, 0, none⟩ = some (.int .i64 t) := (bC BK.out 0).trans rfl
    have hcz1 : w4.cell? ⟨gd, 1, none⟩ = some (.slice B vs.length d) := (bC BK.out 1).trans rfl
    go_quiet (first | (go_at_call 71; (refine (NS.out _ ?side1).mono ?_); (case side1 => repeat (first | exact (Kd.C_below HR.out HB.out) | (with_reducible refine Kd.C_alloc ?_ _) | (with_reducible refine Kd.C_drewN ?_ _) | (with_reducible refine Kd.C_drew ?_))); rintro e w' ⟨rfl, ⟨nd, rfl⟩⟩; (try first | exact ⟨rfl, _, World.drewN_drewN _ _ _⟩ | exact ⟨rfl, _, Eq.trans (World.drewN_drewN _ _ _) (congrArg (World.drewN _) (Nat.add_assoc _ _ _))⟩)) | (go_at_call 70; (refine (NW.out _ _ HW.out).mono ?_); rintro e w' ⟨rfl, ⟨nd, rfl⟩⟩; (try first | exact ⟨rfl, _, World.drewN_drewN _ _ _⟩ | exact ⟨rfl, _, Eq.trans (World.drewN_drewN _ _ _) (congrArg (World.drewN _) (Nat.add_assoc _ _ _))⟩)))
    try go_wp2
    go_ret
    exact ⟨by first | rfl | (simp; done) | (simp [*]; done), by repeat (first | (with_reducible first | exact HB.out | apply lA | apply lN | apply lD) | exact HB.out)⟩
def impl_ObjOk.g (l0 : List ByteArray) (a1_0 : Int) (l1_1 : List Int) : Bool := impl_TypesOk.g l0 && impl_ObjOk.is l0 a1_0 l1_1
def impl_ObjOk.f (l0 : List ByteArray) (a1_0 : Int) (l1_1 : List Int) : Option (Bool) := some (impl_ObjOk.g l0 a1_0 l1_1)
theorem impl_ObjOk.tys {l : List ByteArray} (h : impl_TypesOk.g l = true) : l.length ≤ 12 ∧ ∀ s ∈ l, s.size ≤ 23 := by
  unfold impl_TypesOk.g at h
  rw [Bool.and_eq_true, decide_eq_true_eq, List.all_eq_true] at h
  refine ⟨by omega, fun s hs => ?_⟩
  have := h.2 s hs
  unfold impl_isType.g at this
  rw [Bool.and_eq_true, decide_eq_true_eq] at this
  omega
set_option maxHeartbeats 1000000 in
set_option maxRecDepth 1000000 in
theorem impl_ObjOk.calls (A0 : Option Addr) (c0 : Nat) (l0 : List ByteArray) (a1_0 : Int) (A1_1 : Option Addr) (c1_1 : Nat) (l1_1 : List Int) (r : Bool) (w : World) (hr0 : Kd.C Kd.string w A0 l0.length l0) (hc0 : l0.length ≤ c0) (hr1_1 : Kd.C (Kd.int .i64) w A1_1 l1_1.length l1_1) (hc1_1 : l1_1.length ≤ c1_1) (h : impl_ObjOk.f l0 a1_0 l1_1 = some r) :
    Calls Tryd.prog 37 #[.slice A0 l0.length c0, .agg #[.int .i64 a1_0, .slice A1_1 l1_1.length c1_1]] w fun e w' => e = .returned (.bool r) ∧ Below w.heap.size w w' := by
 have huO := Tryd.underlying46; unfold impl_ObjOk.f impl_ObjOk.g at h; obtain rfl := Option.some.inj h; clear h; have HB := mK (Below.refl w.heap.size w); have HR := mK hr0; have HV := mK hr1_1; clear hr0 hr1_1; have NT := mK (fun r W (hW : Kd.C Kd.string W A0 l0.length l0) h => impl_TypesOk.calls A0 c0 l0 r W hW hc0 h); by_cases c1 : impl_TypesOk.g l0 = true
 ·have hty := impl_ObjOk.tys c1; have T1 := mK (show impl_TypesOk.f l0 = some true by unfold impl_TypesOk.f; rw [c1]); rw [c1, Bool.true_and]; have NO := mK (fun W (hW : Kd.C Kd.string W A0 l0.length l0) (hV : Kd.C (Kd.int .i64) W A1_1 l1_1.length l1_1) => impl_ObjOk.isObject A0 c0 l0 a1_0 A1_1 c1_1 l1_1 W hW hc0 hV hc1_1 hty.1 hty.2); clear c1 hty; generalize impl_ObjOk.is l0 a1_0 l1_1 = b at NO ⊢; go_enter Tryd.func37, Tryd.ntmps37; go_upto_region 1 with (first | ((with_reducible refine gate_dst (N := 3) rfl ?_); (try (refine gate_guard (by rfl) ?_; dsimp only)); refine box_event ?hg (N := 3) ?hd (cs := #[.int .i64 a1_0, .slice A1_1 l1_1.length c1_1]) (t := 46) ?hr ?_; (case hd => rfl); (case hg => rfl); (case hr => first | (go_simp; done) | (go_simp; rfl)); intro gd hg w4 hbox hb; have n0_ := mK (lT HB.out hb); have n1_ := mK hbox; clear HB; have HB := n0_; have BK := n1_; clear n0_ n1_ hb hbox hg)); (try simp only [Act.put, sI_, s0_, sS_]); have hcz0 : w4.cell? ⟨gd, 0, none⟩ = some (.int .i64 a1_0) := (bC BK.out 0).trans rfl; have hcz1 : w4.cell? ⟨gd, 1, none⟩ = some (.slice A1_1 l1_1.length c1_1) := (bC BK.out 1).trans rfl; go_wp2_with (first | (go_at_call 23; (refine (NT.out true _ (Kd.C_below HR.out HB.out) T1.out).mono ?_); rintro e w2 ⟨rfl, hb⟩; have n0_ := mK (lT HB.out hb); have n1_ := (hb.cell (World.block_lt_of_cell? _ _ hcz0)).trans hcz0; have n2_ := (hb.cell (World.block_lt_of_cell? _ _ hcz1)).trans hcz1; clear HB hcz0 hcz1; have HB := n0_; have hcz0 := n1_; have hcz1 := n2_; clear n0_ n1_ n2_ hb) | (go_at_call 80; (refine (NO.out _ (Kd.C_below HR.out HB.out) (Kd.C_below HV.out HB.out)).mono ?_); rintro e w2 ⟨rfl, hb⟩; have n0_ := mK (lT HB.out hb); clear HB; have HB := n0_; clear n0_ hb)); go_ret; exact ⟨rfl, HB.out⟩
 ·have T1 := mK (show impl_TypesOk.f l0 = some false by unfold impl_TypesOk.f; rw [Bool.eq_false_iff.2 c1]); rw [Bool.eq_false_iff.2 c1, Bool.false_and]; clear c1; go_enter Tryd.func37, Tryd.ntmps37; go_upto_region 1 with (first | ((with_reducible refine gate_dst (N := 3) rfl ?_); (try (refine gate_guard (by rfl) ?_; dsimp only)); refine box_event ?hg (N := 3) ?hd (cs := #[.int .i64 a1_0, .slice A1_1 l1_1.length c1_1]) (t := 46) ?hr ?_; (case hd => rfl); (case hg => rfl); (case hr => first | (go_simp; done) | (go_simp; rfl)); intro gd hg w4 hbox hb; have n0_ := mK (lT HB.out hb); have n1_ := mK hbox; clear HB; have HB := n0_; have BK := n1_; clear n0_ n1_ hb hbox hg)); (try simp only [Act.put, sI_, s0_, sS_]); go_wp2_with (first | (go_at_call 23; (refine (NT.out false _ (Kd.C_below HR.out HB.out) T1.out).mono ?_); rintro e w2 ⟨rfl, hb⟩; have n0_ := mK (lT HB.out hb); clear HB; have HB := n0_; clear n0_ hb)); go_ret; exact ⟨rfl, HB.out⟩


/-! ### slices_Index_int64_int64: function 87 -/
def slices_Index_int64_int64.l0 : Nat → List Int → Int → Int → Int → Option (Int)
  | 0, _, _, _, _ => none
  | k + 1, x0, x1, x7, x8 => if x8 < x7 then (if 0 ≤ x8 then (if x8 < (x0.length : Int) then (if x1 = (rd x0 x8) then (some x8) else (slices_Index_int64_int64.l0 k x0 x1 x7 (wrap64 (x8 + 1)))) else (none)) else (none)) else (some (-1))
def slices_Index_int64_int64.f (k : Nat) (l0 : List Int) (a1 : Int) : Option (Int) := slices_Index_int64_int64.l0 k l0 a1 (l0.length : Int) 0
theorem slices_Index_int64_int64.mono_l : ∀ k, (∀ y0 y1 y2 y3, LeO (slices_Index_int64_int64.l0 k y0 y1 y2 y3) (slices_Index_int64_int64.l0 (k + 1) y0 y1 y2 y3))
  | 0 => fun _ _ _ _ r h => by simp [slices_Index_int64_int64.l0] at h
  | k + 1 => by
    have ih0 := slices_Index_int64_int64.mono_l k
    · intro y0 y1 y2 y3
      unfold slices_Index_int64_int64.l0
      repeat' first
      | (with_reducible exact ih0 _ _ _ _)
      | (with_reducible exact LeO.refl _)
      | (with_reducible exact LeO.none _)
      | (with_reducible refine LeO.ite ?_ ?_)
      | (with_reducible refine LeO.bind ?_ (fun _ => ?_))
      | exact ih0 _ _ _ _
      | exact LeO.none _
      | refine LeO.ite ?_ ?_
      | refine LeO.bind ?_ (fun _ => ?_)
theorem slices_Index_int64_int64.mono : ∀ a0 a1 k, LeO (slices_Index_int64_int64.f k a0 a1) (slices_Index_int64_int64.f (k + 1) a0 a1) := by
  intro a0 a1 k
  have ih0 := slices_Index_int64_int64.mono_l k
  unfold slices_Index_int64_int64.f
  repeat' first
      | (with_reducible exact ih0 _ _ _ _)
      | (with_reducible exact LeO.refl _)
      | (with_reducible exact LeO.none _)
      | (with_reducible refine LeO.ite ?_ ?_)
      | (with_reducible refine LeO.bind ?_ (fun _ => ?_))
      | exact ih0 _ _ _ _
      | exact LeO.none _
      | refine LeO.ite ?_ ?_
      | refine LeO.bind ?_ (fun _ => ?_)
set_option maxHeartbeats 8000000 in
set_option maxRecDepth 100000 in
theorem slices_Index_int64_int64.calls (k : Nat) (A0 : Option Addr) (c0 : Nat) (l0 : List Int) (a1 : Int) (r : Int) (w : World) (hr0 : Kd.C (Kd.int .i64) w A0 l0.length l0) (hc0 : l0.length ≤ c0) (h : slices_Index_int64_int64.f k l0 a1 = some r) :
    Calls Tryd.prog 87 #[.slice A0 l0.length c0, .int .i64 a1] w fun e w' => e = .returned (.int .i64 r) ∧ Drawn0 w w' := by
 have HR0 := mK hr0; have HC0 := mK hc0; clear hr0 hc0; have H : (slices_Index_int64_int64.l0 k l0 a1 (l0.length : Int) 0) = some r := h; clear h; have H' := mK H; clear H; go_enter Tryd.func87, Tryd.ntmps87; go_wp2; go_loopg [8] k (fun kq v8 w' => ∃ (x8_1 : Int), v8 = .int .i64 x8_1 ∧ Aside0 (slices_Index_int64_int64.l0 kq l0 a1 (l0.length : Int) x8_1 = some r) ∧ Aside0 (kq ≤ k) ∧ Drawn0 w w'); (case atStart => exact ⟨(0), (by first | rfl | (simp; done) | (simp [*]; done)), H', ⟨Nat.le_refl _⟩, by repeat (first | exact Drawn0.refl _ | apply Drawn0.step)⟩)
 case round =>
  clear H'; (try clear p2); obtain ⟨x8_1, rfl, HA, HK1, ⟨m1, rfl⟩⟩ := hrel
  cases gk with
  | zero => exact absurd HA.out (by simp [slices_Index_int64_int64.l0])
  | succ k1 =>
   have H := HA.out; clear HA; simp only [slices_Index_int64_int64.l0] at H; by_cases c3 : x8_1 < (l0.length : Int)
   ·rw [if_pos c3] at H; have c3b0 : decide (x8_1 < (l0.length : Int)) = true := decide_eq_true c3; clear c3; by_cases c4 : 0 ≤ x8_1
    ·rw [if_pos c4] at H; have c4b0 : decide (0 ≤ x8_1) = true := decide_eq_true c4; clear c4; by_cases c5 : x8_1 < (l0.length : Int)
     ·rw [if_pos c5] at H; have c5b0 : decide (x8_1 < (l0.length : Int)) = true := decide_eq_true c5; clear c5; by_cases c6 : a1 = (rd l0 x8_1)
      ·rw [if_pos c6] at H; have c6b0 : (a1 == (rd l0 x8_1)) = true := beq_iff_eq.mpr c6; have c6b1 : (a1 != (rd l0 x8_1)) = false := bne_eq_false_iff_eq.mpr c6; clear c6; obtain rfl := Option.some.inj H; have p156 : 0 ≤ (x8_1 : Int) := of_decide_eq_true (by first | (with_reducible assumption) | assumption); have q156 : x8_1 < (l0.length : Int) := of_decide_eq_true (by first | (with_reducible assumption) | assumption); obtain ⟨ad156, e156, hx156_0⟩ := Kd.at_int HR0.out x8_1 p156 q156; cases e156; replace p156 := eq_true p156; replace q156 := eq_true q156; go_wp2; go_ret; exact ⟨by first | rfl | (simp; done) | (simp [*]; done), by repeat (first | exact Drawn0.refl _ | apply Drawn0.step)⟩
      ·rw [if_neg c6] at H; have c6b0 : (a1 == (rd l0 x8_1)) = false := beq_eq_false_iff_ne.mpr c6; have c6b1 : (a1 != (rd l0 x8_1)) = true := bne_iff_ne.mpr c6; have H' := mK H; clear H; have p156 : 0 ≤ (x8_1 : Int) := of_decide_eq_true (by first | (with_reducible assumption) | assumption); have q156 : x8_1 < (l0.length : Int) := of_decide_eq_true (by first | (with_reducible assumption) | assumption); obtain ⟨ad156, e156, hx156_0⟩ := Kd.at_int HR0.out x8_1 p156 q156; cases e156; replace p156 := eq_true p156; replace q156 := eq_true q156; go_wp2; go_roundg k1; (case measure => have := HK1.out; omega); (case rel => exact ⟨(wrap64 (x8_1 + 1)), (by first | rfl | (simp; done) | (simp [*]; done)), H', ⟨by have := HK1.out; omega⟩, by repeat (first | exact Drawn0.refl _ | apply Drawn0.step)⟩)
     (·rw [if_neg c5] at H; exact absurd H (by simp))
    (·rw [if_neg c4] at H; exact absurd H (by simp))
   ·rw [if_neg c3] at H; have c3b0 : decide (x8_1 < (l0.length : Int)) = false := decide_eq_false c3; clear c3; obtain rfl := Option.some.inj H; go_wp2; go_ret; exact ⟨by first | rfl | (simp; done) | (simp [*]; done), by repeat (first | exact Drawn0.refl _ | apply Drawn0.step)⟩

end Go.Proofs.YtknllhfhcgahiaaDoor.PFnExactForwarded
