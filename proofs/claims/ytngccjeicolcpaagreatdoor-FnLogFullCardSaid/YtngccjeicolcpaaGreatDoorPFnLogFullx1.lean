-- by a patched copy of the print (wip/tools/patch_print.py)
import Derived.Test.YtngccjeicolcpaaGreatDoorPFnLogFullx0
namespace Go.Proofs.YtngccjeicolcpaaGreatDoor.PFnLogFull
open List renaming map_toArray → mT_, map_cons → mC_, map_nil → mN_
open Go.RowKit Go.Proofs.YtngccjeicolcpaaGreatDoorW.PrintWords Go.Proofs.YtngccjeicolcpaaGreatDoorW.PrintLast Go.Proofs.YtngccjeicolcpaaGreatDoorW.PrintMore
attribute [local go_sem] max2_int min2_int max_two min_two max_three min_three max_four min_four
open Go.Proofs.YtngccjeicolcpaaGreatDoorW.PrintWords renaming blk_drewN → bN, blk_drew → bD, blk_alloc → bA, below_alloc → lA, pw_below_drewN → lN, below_drew1 → lD, below_set → lS, below_step → lT, blk_below → bB, blk_cell → bC, blk_frozen → bF
open Go.Proofs.YtngccjeicolcpaaGreatDoorW.PrintWords.Aside0 renaming mk → mK
open Go.Proofs.YtngccjeicolcpaaGreatDoorW.PrintWords.Kd renaming C_below → cB
open List renaming map_cons → mC_, map_toArray → mT_, map_nil → mN_
open Go.Proofs.YtngccjeicolcpaaGreatDoorW.PrintWords.Kd renaming R_reads' → rR
set_option linter.unusedVariables false
set_option maxHeartbeats 8000000
set_option maxRecDepth 1000000
set_option linter.unusedSimpArgs false
def impl_within.f (a0 : Int) (a1 : Int) (a2 : Int) : Option (Bool) := if a0 ≥ a1 then (some (decide (a0 ≤ a2))) else (some false)
theorem impl_within.calls (a0 : Int) (a1 : Int) (a2 : Int) (r : Bool) (w : World) (h : impl_within.f a0 a1 a2 = some r) :
    Calls Tryz.prog 55 #[.int .i64 a0, .int .i64 a1, .int .i64 a2] w fun e w' => e = .returned (.bool r) ∧ Drawn0 w w' := by
 have H : (if a0 ≥ a1 then (some (decide (a0 ≤ a2))) else (some false)) = some r := h; clear h; by_cases c4 : a0 ≥ a1
 ·rw [if_pos c4] at H; have c4b0 : decide (a1 ≤ a0) = true := decide_eq_true c4; clear c4; obtain rfl := Option.some.inj H; go_enter Tryz.func55, Tryz.ntmps55; go_wp2; go_ret; exact ⟨by first | rfl | (simp; done) | (simp [*]; done), by repeat (first | exact Drawn0.refl _ | apply Drawn0.step)⟩
 ·rw [if_neg c4] at H; have c4b0 : decide (a1 ≤ a0) = false := decide_eq_false c4; clear c4; obtain rfl := Option.some.inj H; go_enter Tryz.func55, Tryz.ntmps55; go_wp2; go_ret; exact ⟨by first | rfl | (simp; done) | (simp [*]; done), by repeat (first | exact Drawn0.refl _ | apply Drawn0.step)⟩
def impl_canLog.f (a0_0 : Int) (a0_1 : Int) (a0_2 : Int) (l0_3 : List ByteArray) (a1 : Int) : Option (Bool) := (impl_within.f a1 4 5).bind fun t102 => (if t102 = true then (some true) else ((impl_within.f a1 (wrap64 (2 * (wrap64 (4 + a0_1)))) (wrap64 ((wrap64 (2 * a0_0)) - 1))).bind fun t103 => (some t103)))
theorem impl_canLog.calls (a0_0 : Int) (a0_1 : Int) (a0_2 : Int) (A0_3 : Option Addr) (c0_3 : Nat) (l0_3 : List ByteArray) (a1 : Int) (r : Bool) (w : World) (hr0_3 : Kd.C Kd.string w A0_3 l0_3.length l0_3) (hc0_3 : l0_3.length ≤ c0_3) (h : impl_canLog.f a0_0 a0_1 a0_2 l0_3 a1 = some r) :
    Calls Tryz.prog 51 #[.agg #[.int .i64 a0_0, .int .i64 a0_1, .int .i64 a0_2, .slice A0_3 l0_3.length c0_3], .int .i64 a1] w fun e w' => e = .returned (.bool r) ∧ Below w.heap.size w w' := by
 have hu35 := Tryz.underlying35; have HR0_3 := mK hr0_3; have HC0_3 := mK hc0_3; clear hr0_3 hc0_3; have HB := mK (Below.refl w.heap.size w); have H : ((impl_within.f a1 4 5).bind fun t250 => (if t250 = true then (some true) else ((impl_within.f a1 (wrap64 (2 * (wrap64 (4 + a0_1)))) (wrap64 ((wrap64 (2 * a0_0)) - 1))).bind fun t251 => (some t251)))) = some r := h; clear h; replace H := Option.bind_eq_some_iff.mp H; obtain ⟨t250, A30, H⟩ := H; (try dsimp only at H); have A3 := mK A30; clear A30; by_cases c4 : t250 = true
 ·subst c4; (have H1 : (some true) = some r := by rw [if_pos rfl] at H; exact H); clear H; have H := H1; clear H1; obtain rfl := Option.some.inj H; go_enter Tryz.func51, Tryz.ntmps51; go_wp2_with (first | ((with_reducible refine gate_dst (N := 2) rfl ?_); refine box_event ?hg (N := 2) ?hd (cs := #[.int .i64 a0_0, .int .i64 a0_1, .int .i64 a0_2, .slice A0_3 l0_3.length c0_3]) (t := 35) ?hr ?_; (case hd => rfl); (case hg => rfl); (case hr => first | (go_simp; done) | (go_simp; rfl)); intro gb249 hg w5 hbox hb; have n0_ := mK (lT (by apply_rules only [HB.out, lA, lN, lD]) hb); have n1_ := mK (hbox); have n2_ := mK ((by rw [hg]; exact (below_size (by apply_rules only [HB.out, lA, lN, lD])) : w.heap.size ≤ gb249)); have n3_ := mK ((by rw [hg]; exact (below_size (by apply_rules only [HB.out, lA, lN, lD])) : w.heap.size ≤ gb249)); clear HB; have HB := n0_; have BK249 := n1_; have GW249 := n2_; have GE249 := n3_; clear n0_ n1_ n2_ n3_; clear hb hbox hg) | ((with_reducible refine gate_callee (f := 55) rfl ?_); refine goesL_ (some 6) rfl rfl Tryz.func55 (by kernel_rfl) rfl #[.int .i64 a1, .int .i64 4, .int .i64 5] rfl (by (try simp only [mT_, mC_, mN_]) <;> rfl) ?_; (with_reducible refine (impl_within.calls a1 4 5 true _ A3.out).mono ?_); rintro e w' ⟨rfl, ⟨nd, rfl⟩⟩; refine ⟨_, rfl, ?_⟩)); go_ret; exact ⟨by first | rfl | (simp [*] <;> rfl), by apply_rules only [HB.out, lA, lN, lD, (fun h_ => lS h_ GE249.out)]⟩
 ·replace c4 := Bool.eq_false_iff.mpr c4; subst c4; (have H1 : ((impl_within.f a1 (wrap64 (2 * (wrap64 (4 + a0_1)))) (wrap64 ((wrap64 (2 * a0_0)) - 1))).bind fun t251 => (some t251)) = some r := by rw [if_neg (show ¬ (false = true) by decide)] at H; exact H); clear H; have H := H1; clear H1; replace H := Option.bind_eq_some_iff.mp H; obtain ⟨t251, A60, H⟩ := H; (try dsimp only at H); have A6 := mK A60; clear A60; obtain rfl := Option.some.inj H; go_enter Tryz.func51, Tryz.ntmps51; go_wp2_with (first | ((with_reducible refine gate_dst (N := 2) rfl ?_); refine box_event ?hg (N := 2) ?hd (cs := #[.int .i64 a0_0, .int .i64 a0_1, .int .i64 a0_2, .slice A0_3 l0_3.length c0_3]) (t := 35) ?hr ?_; (case hd => rfl); (case hg => rfl); (case hr => first | (go_simp; done) | (go_simp; rfl)); intro gb249 hg w7 hbox hb; have n0_ := mK (lT (by apply_rules only [HB.out, lA, lN, lD]) hb); have n1_ := mK (hbox); have n2_ := mK ((by rw [hg]; exact (below_size (by apply_rules only [HB.out, lA, lN, lD])) : w.heap.size ≤ gb249)); have n3_ := mK ((by rw [hg]; exact (below_size (by apply_rules only [HB.out, lA, lN, lD])) : w.heap.size ≤ gb249)); clear HB; have HB := n0_; have BK249 := n1_; have GW249 := n2_; have GE249 := n3_; clear n0_ n1_ n2_ n3_; clear hb hbox hg) | ((with_reducible refine gate_callee (f := 55) rfl ?_); refine goesL_ (some 6) rfl rfl Tryz.func55 (by kernel_rfl) rfl #[.int .i64 a1, .int .i64 4, .int .i64 5] rfl (by (try simp only [mT_, mC_, mN_]) <;> rfl) ?_; (with_reducible refine (impl_within.calls a1 4 5 false _ A3.out).mono ?_); rintro e w' ⟨rfl, ⟨nd, rfl⟩⟩; refine ⟨_, rfl, ?_⟩; have hcz8_0 : w7.cell? ⟨gb249, 0, none⟩ = some (.int .i64 a0_0) := (bC BK249.out 0).trans rfl; have hcz8_1 : w7.cell? ⟨gb249, 1, none⟩ = some (.int .i64 a0_1) := (bC BK249.out 1).trans rfl; have hcz8_2 : w7.cell? ⟨gb249, 2, none⟩ = some (.int .i64 a0_2) := (bC BK249.out 2).trans rfl; have hcz8_3 : w7.cell? ⟨gb249, 3, none⟩ = some (.slice A0_3 l0_3.length c0_3) := (bC BK249.out 3).trans rfl; have hfz8_0 := bF BK249.out 0; have hfz8_1 := bF BK249.out 1; have hfz8_2 := bF BK249.out 2; have hfz8_3 := bF BK249.out 3) | (go_at_call 55; (with_reducible refine (impl_within.calls a1 (wrap64 (2 * (wrap64 (4 + a0_1)))) (wrap64 ((wrap64 (2 * a0_0)) - 1)) t251 _ A6.out).mono ?_); rintro e w' ⟨rfl, ⟨nd, rfl⟩⟩)); go_ret; exact ⟨by first | rfl | (simp [*] <;> rfl), by apply_rules only [HB.out, lA, lN, lD, (fun h_ => lS h_ GE249.out)]⟩
def impl_lineOf.f (a0 : ByteArray) (a1 : Int) : Option (ByteArray) := if 0 ≤ (wrap64 (64 * a1)) then (if (wrap64 (64 * a1)) ≤ (wrap64 ((wrap64 (64 * a1)) + 64)) then (if (wrap64 ((wrap64 (64 * a1)) + 64)) ≤ (a0.size : Int) then (some (a0.extract ((wrap64 (64 * a1)) : Int).toNat ((wrap64 ((wrap64 (64 * a1)) + 64)) : Int).toNat)) else (none)) else (none)) else (none)
theorem impl_lineOf.calls (a0 : ByteArray) (a1 : Int) (r : ByteArray) (w : World) (h : impl_lineOf.f a0 a1 = some r) :
    Calls Tryz.prog 63 #[.string a0, .int .i64 a1] w fun e w' => e = .returned (.string r) ∧ Drawn0 w w' := by
 have H : (if 0 ≤ (wrap64 (64 * a1)) then (if (wrap64 (64 * a1)) ≤ (wrap64 ((wrap64 (64 * a1)) + 64)) then (if (wrap64 ((wrap64 (64 * a1)) + 64)) ≤ (a0.size : Int) then (some (a0.extract ((wrap64 (64 * a1)) : Int).toNat ((wrap64 ((wrap64 (64 * a1)) + 64)) : Int).toNat)) else (none)) else (none)) else (none)) = some r := h; clear h; obtain ⟨ji3, hji3⟩ : ∃ j_ : Int, (wrap64 (64 * a1)) = j_ := ⟨_, rfl⟩; (replace H : (if 0 ≤ (ji3) then (if (ji3) ≤ (wrap64 ((ji3) + 64)) then (if (wrap64 ((ji3) + 64)) ≤ (a0.size : Int) then (some (a0.extract ((ji3) : Int).toNat ((wrap64 ((ji3) + 64)) : Int).toNat)) else (none)) else (none)) else (none)) = some r := by first | (rw [hji3] at H; exact H) | (simp only [hji3] at H ⊢; exact H)); have hji3w : (IntKind.i64.wrap (64 * a1)) = ji3 := (i64_w _).trans hji3; by_cases c4 : 0 ≤ (ji3)
 ·rw [if_pos c4] at H; have c4b0 := eq_true c4; have c4b1 : decide (0 ≤ (ji3)) = true := decide_eq_true c4; clear c4; by_cases c5 : (ji3) ≤ (wrap64 ((ji3) + 64))
  ·rw [if_pos c5] at H; have c5b0 := eq_true c5; have c5b1 : decide ((ji3) ≤ (wrap64 ((ji3) + 64))) = true := decide_eq_true c5; by_cases c6 : (wrap64 ((ji3) + 64)) ≤ (a0.size : Int)
   ·rw [if_pos c6] at H; have c6b0 := eq_true c6; have c6b1 : decide ((wrap64 ((ji3) + 64)) ≤ (a0.size : Int)) = true := decide_eq_true c6; obtain rfl := Option.some.inj H; go_enter Tryz.func63, Tryz.ntmps63; go_wp2; go_ret; exact ⟨by first | rfl | (simp; done) | (simp only [← hji3] <;> (first | rfl | simp)) | (simp [*]; done), by repeat (first | exact Drawn0.refl _ | apply Drawn0.step)⟩
   (·rw [if_neg c6] at H; exact absurd H (by simp))
  (·rw [if_neg c5] at H; exact absurd H (by simp))
 (·rw [if_neg c4] at H; exact absurd H (by simp))
def impl_size_string.f (l0 : List ByteArray) : Option (Int) := some (l0.length : Int)
theorem impl_size_string.calls (A0 : Option Addr) (c0 : Nat) (l0 : List ByteArray) (r : Int) (w : World) (hr0 : Kd.C Kd.string w A0 l0.length l0) (hc0 : l0.length ≤ c0) (h : impl_size_string.f l0 = some r) :
    Calls Tryz.prog 145 #[.slice A0 l0.length c0] w fun e w' => e = .returned (.int .i64 r) ∧ Drawn0 w w' := by
 have HR0 := mK hr0; have HC0 := mK hc0; clear hr0 hc0; have H : (some (l0.length : Int)) = some r := h; clear h; obtain rfl := Option.some.inj H; go_enter Tryz.func145, Tryz.ntmps145; go_wp2; go_ret; exact ⟨by first | rfl | (simp; done) | (simp [*]; done), by repeat (first | exact Drawn0.refl _ | apply Drawn0.step)⟩
def impl_isType.ok (b : UInt8) : Bool := b == 105 || b == 114
def impl_isType.g (a0 : ByteArray) : Bool := decide (1 ≤ (a0.size : Int) ∧ (a0.size : Int) ≤ 23) && a0.data.toList.all impl_isType.ok
def impl_isType.f (a0 : ByteArray) : Option (Bool) := some (impl_isType.g a0)
theorem impl_isType.has (b : UInt8) : ([105, 114] : List UInt8).contains b = impl_isType.ok b := by
  unfold impl_isType.ok
  by_cases h1 : b = 105
  · subst h1; decide
  · by_cases h2 : b = 114
    · subst h2; decide
    · simp [h1, h2]
theorem impl_isType.drop_nil : ∀ l : List UInt8, (l.dropWhile (fun b => ([105, 114] : List UInt8).contains b) = []) ↔ l.all impl_isType.ok = true
  | [] => by simp
  | b :: l => by
    rw [List.dropWhile_cons, impl_isType.has, List.all_cons]
    by_cases h : impl_isType.ok b = true
    · rw [if_pos h, impl_isType.drop_nil l, h, Bool.true_and]
    · rw [if_neg h]; simp [h]
theorem impl_isType.trim (l : List UInt8) : (Lib.trimS l [105, 114] = []) ↔ l.all impl_isType.ok = true := by
  unfold Lib.trimS Lib.trimLeftS Lib.trimRightS
  rw [impl_isType.drop_nil]
  constructor
  · intro h
    have h1 : (l.reverse.dropWhile (fun b => ([105, 114] : List UInt8).contains b)) = [] := by
      by_cases hn : l.reverse.dropWhile (fun b => ([105, 114] : List UInt8).contains b) = []
      · exact hn
      · exfalso
        have hm := List.head_dropWhile_not (fun b => ([105, 114] : List UInt8).contains b) hn
        have h2 := (List.all_eq_true.1 h) _ (List.mem_reverse.2 (List.head_mem hn))
        rw [← impl_isType.has] at h2
        rw [h2] at hm; cases hm
    have h3 := (impl_isType.drop_nil _).1 h1
    rw [List.all_reverse] at h3; exact h3
  · intro h
    have h1 : l.reverse.all impl_isType.ok = true := by rw [List.all_reverse]; exact h
    rw [(impl_isType.drop_nil _).2 h1]; rfl
theorem impl_isType.calls (a0 : ByteArray) (r : Bool) (w : World) (h : impl_isType.f a0 = some r) :
    Calls Tryz.prog 148 #[.string a0] w fun e w' => e = .returned (.bool r) ∧ Below w.heap.size w w' := by
 unfold impl_isType.f impl_isType.g at h; obtain rfl := Option.some.inj h; clear h; have HB := mK (Below.refl w.heap.size w); have NW := mK (fun r W h => impl_within.calls (a0.size : Int) 1 23 r W h)
 have hw1 : impl_within.f (a0.size : Int) 1 23 = some (decide (1 ≤ (a0.size : Int) ∧ (a0.size : Int) ≤ 23)) := by
   unfold impl_within.f
   by_cases h1 : (a0.size : Int) ≥ 1
   · rw [if_pos h1]; congr 1; simp [show (1 : Int) ≤ a0.size from h1]
   · rw [if_neg h1]; congr 1; symm; simp; omega
 by_cases hs : (1 ≤ (a0.size : Int) ∧ (a0.size : Int) ≤ 23)
 ·have hc := Any.strings_Trim_laid Tryz.lays160 (by kernel_rfl) a0 ⟨#[105, 114]⟩ ; have NT := mK (fun W => hc W (by omega) (by decide) (ascii_of_all (by decide))); clear hc; generalize ht : (⟨(Lib.trimS a0.data.toList ([105, 114] : List UInt8)).toArray⟩ : ByteArray) = t at NT; rw [decide_eq_true hs] at hw1 ⊢; rw [Bool.true_and]
  have et : t.toList.isEmpty = a0.data.toList.all impl_isType.ok := by
    rw [← ht, Bool.eq_iff_iff, ← impl_isType.trim, List.isEmpty_iff]
    constructor
    · intro e
      have := congrArg List.length e
      exact List.length_eq_zero_iff.1 (by simpa [ByteArray.toList_eq] using this)
    · intro e; rw [e]; simp
  rw [← et]; clear et ht; have HW := mK hw1; clear hw1 hs; go_enter Tryz.func148, Tryz.ntmps148; go_wp2_with (first | (go_at_call 55; (refine (NW.out _ _ HW.out).mono ?_); rintro e w2 ⟨rfl, hd⟩; replace HB := mK (lT HB.out hd.below); clear hd) | (go_at_call 162; (refine (NT.out _).mono ?_); rintro e w2 ⟨rfl, hb⟩; replace HB := mK (lT HB.out hb); clear hb)); go_ret; exact ⟨rfl, HB.out⟩
 ·rw [decide_eq_false hs] at hw1 ⊢; rw [Bool.false_and]; have HW := mK hw1; clear hw1 hs; go_enter Tryz.func148, Tryz.ntmps148; go_wp2_with (first | (go_at_call 55; (refine (NW.out _ _ HW.out).mono ?_); rintro e w2 ⟨rfl, hd⟩; replace HB := mK (lT HB.out hd.below); clear hd)); go_ret; exact ⟨rfl, HB.out⟩
theorem impl_TypesOk.closure (s : ByteArray) (w : World) : Calls Tryz.prog 147 #[.string s] w fun e w' => e = .returned (.bool (!impl_isType.g s)) ∧ Below w.heap.size w w' := by
  have HB := mK (Below.refl w.heap.size w)
  have N1 := mK (fun W => impl_isType.calls s (impl_isType.g s) W rfl)
  go_enter Tryz.func147, Tryz.ntmps147
  go_wp2_with (go_at_call 148; (refine (N1.out _).mono ?_); rintro e w2 ⟨rfl, hb⟩; replace HB := mK (lT HB.out hb); clear hb)
  go_ret
  exact ⟨rfl, HB.out⟩
def impl_TypesOk.idx (l : List ByteArray) : Int := match l.findIdx? (fun s => !impl_isType.g s) with | some i => (i : Int) | none => -1
theorem impl_TypesOk.idx_at (l : List ByteArray) (i : Nat) (hi : i < l.length) (h1 : ∀ t : Nat, t < i → impl_isType.g (rdOf ByteArray.empty l (t : Int)) = true) (h2 : impl_isType.g (rdOf ByteArray.empty l (i : Int)) = false) : impl_TypesOk.idx l = i := by
  have g : ∀ t : Nat, (ht : t < l.length) → rdOf ByteArray.empty l (t : Int) = l[t] := fun t ht => by unfold rdOf; rw [Int.toNat_natCast, List.getD_eq_getElem?_getD, List.getElem?_eq_getElem ht]; rfl
  have e : l.findIdx? (fun s => !impl_isType.g s) = some i := by
    rw [List.findIdx?_eq_some_iff_getElem]
    refine ⟨hi, by rw [← g i hi, h2]; rfl, fun j hj => ?_⟩
    have := h1 j hj
    rw [g j (by omega)] at this
    simp [this]
  unfold impl_TypesOk.idx
  rw [e]
theorem impl_TypesOk.idx_none (l : List ByteArray) (h1 : ∀ t : Nat, t < l.length → impl_isType.g (rdOf ByteArray.empty l (t : Int)) = true) : impl_TypesOk.idx l = -1 := by
  have e : l.findIdx? (fun s => !impl_isType.g s) = none := by
    rw [List.findIdx?_eq_none_iff]
    intro x hx
    obtain ⟨t, ht, rfl⟩ := List.getElem_of_mem hx
    have := h1 t ht
    have g : rdOf ByteArray.empty l (t : Int) = l[t] := by unfold rdOf; rw [Int.toNat_natCast, List.getD_eq_getElem?_getD, List.getElem?_eq_getElem ht]; rfl
    rw [g] at this
    simp [this]
  unfold impl_TypesOk.idx
  rw [e]
theorem impl_TypesOk.idx_all (l : List ByteArray) : (!decide (impl_TypesOk.idx l ≥ 0)) = l.all impl_isType.g := by
  unfold impl_TypesOk.idx
  cases e : l.findIdx? (fun s => !impl_isType.g s) with
  | none =>
    rw [List.findIdx?_eq_none_iff] at e
    have : l.all impl_isType.g = true := by rw [List.all_eq_true]; intro x hx; simpa using e x hx
    rw [this]; rfl
  | some i =>
    rw [List.findIdx?_eq_some_iff_getElem] at e
    obtain ⟨hi, h2, _⟩ := e
    have : l.all impl_isType.g = false := by
      rw [List.all_eq_false]; exact ⟨l[i], List.getElem_mem hi, by simpa using h2⟩
    rw [this]; simp
theorem impl_TypesOk.index (A : Option Addr) (c : Nat) (l : List ByteArray) (w : World) (hr : Kd.C Kd.string w A l.length l) (hc : l.length ≤ c) (hsz : l.length ≤ 12) :
    Calls Tryz.prog 161 #[.slice A l.length c, .func (.func 147) #[] #[]] w fun e w' => e = .returned (.int .i64 (impl_TypesOk.idx l)) ∧ Below w.heap.size w w' := by
  have eg : ∀ args w, (callFunc 147 args).run Tryz.prog w = .ok (.enter 147 args) w := enters_of Tryz.func147 (by kernel_rfl) rfl
  have HB := mK (Below.refl w.heap.size w)
  have HR := mK hr
  clear hr
  generalize hidx : impl_TypesOk.idx l = cnt
  have CN := mK hidx
  clear hidx
  go_enter Tryz.func161, Tryz.ntmps161
  go_wp2
  go_loopg [8] l.length (fun kx s8 wr => ∃ i : Nat, s8 = .int .i64 i ∧ i ≤ l.length ∧ l.length - i ≤ kx ∧ Aside0 (Below w.heap.size w wr) ∧ Aside0 (∀ t : Nat, t < i → impl_isType.g (rdOf ByteArray.empty l (t : Int)) = true))
  case atStart => exact ⟨0, rfl, Nat.zero_le _, by omega, HB, ⟨fun t ht => absurd ht (Nat.not_lt_zero _)⟩⟩
  case round =>
    clear HB
    obtain ⟨i, rfl, hin, hg, HB, I⟩ := hrel
    by_cases hlt : i < l.length
    · obtain ⟨ad, ea, hx0⟩ := Kd.at_string HR.out (i : Int) (by omega) (by omega)
      cases ea
      replace hx0 := (HB.out.cell (World.block_lt_of_cell? w _ hx0)).trans hx0
      simp only [Int.toNat_natCast] at hx0
      generalize hy : rdOf ByteArray.empty l (i : Int) = x at hx0
      have Y := mK hy
      clear hy
      have N1 := mK (fun W => impl_TypesOk.closure x W)
      by_cases hyx : impl_isType.g x = true
      · rw [hyx] at N1
        have hyx' := mK hyx
        clear hyx
        have N1' := mK (show ∀ W, Calls Tryz.prog 147 #[.string x] W fun e w' => e = .returned (.bool false) ∧ Below W.heap.size W w' from N1.out)
        clear N1
        go_wp2_with (go_at_fn 147; (refine (N1'.out _).mono ?_); rintro e w2 ⟨rfl, hb⟩; replace HB := mK (lT HB.out hb); clear hb)
        go_roundg (l.length - (i + 1))
        case measure => omega
        case rel => exact ⟨i + 1, rfl, by omega, Nat.le_refl _, HB, ⟨fun t ht => by
            by_cases e : t = i
            · subst e; rw [Y.out]; exact hyx'.out
            · exact I.out t (by omega)⟩⟩
      · have hyx' := mK (Bool.eq_false_iff.2 hyx)
        have N1' := mK (show ∀ W, Calls Tryz.prog 147 #[.string x] W fun e w' => e = .returned (.bool true) ∧ Below W.heap.size W w' from fun W => by have := N1.out W; rw [hyx'.out] at this; exact this)
        clear N1 hyx
        obtain rfl : cnt = (i : Int) := by rw [← CN.out]; exact impl_TypesOk.idx_at l i hlt I.out (by rw [Y.out]; exact hyx'.out)
        go_wp2_with (go_at_fn 147; (refine (N1'.out _).mono ?_); rintro e w2 ⟨rfl, hb⟩; replace HB := mK (lT HB.out hb); clear hb)
        go_ret
        exact ⟨rfl, HB.out⟩
    · obtain rfl : i = l.length := by omega
      obtain rfl : cnt = -1 := by rw [← CN.out]; exact impl_TypesOk.idx_none l I.out
      go_wp2
      go_ret
      exact ⟨rfl, HB.out⟩
theorem impl_TypesOk.contains (A : Option Addr) (c : Nat) (l : List ByteArray) (w : World) (hr : Kd.C Kd.string w A l.length l) (hc : l.length ≤ c) (hsz : l.length ≤ 12) :
    Calls Tryz.prog 146 #[.slice A l.length c, .func (.func 147) #[] #[]] w fun e w' => e = .returned (.bool (decide (impl_TypesOk.idx l ≥ 0))) ∧ Below w.heap.size w w' := by
  have HB := mK (Below.refl w.heap.size w)
  have N1 := mK (fun W (hW : Kd.C Kd.string W A l.length l) => impl_TypesOk.index A c l W hW hc hsz)
  have HR := mK hr
  clear hr
  generalize impl_TypesOk.idx l = cnt at N1 ⊢
  go_enter Tryz.func146, Tryz.ntmps146
  go_wp2_with (go_at_call 161; (refine (N1.out _ (cB HR.out HB.out)).mono ?_); rintro e w2 ⟨rfl, hb⟩; replace HB := mK (lT HB.out hb); clear hb)
  go_ret
  exact ⟨rfl, HB.out⟩
def impl_TypesOk.g (l0 : List ByteArray) : Bool := decide (1 ≤ (l0.length : Int) ∧ (l0.length : Int) ≤ 12) && l0.all impl_isType.g
def impl_TypesOk.f (l0 : List ByteArray) : Option (Bool) := some (impl_TypesOk.g l0)
theorem impl_TypesOk.calls (A0 : Option Addr) (c0 : Nat) (l0 : List ByteArray) (r : Bool) (w : World) (hr0 : Kd.C Kd.string w A0 l0.length l0) (hc0 : l0.length ≤ c0) (h : impl_TypesOk.f l0 = some r) :
    Calls Tryz.prog 122 #[.slice A0 l0.length c0] w fun e w' => e = .returned (.bool r) ∧ Below w.heap.size w w' := by
 unfold impl_TypesOk.f impl_TypesOk.g at h; obtain rfl := Option.some.inj h; clear h; have HB := mK (Below.refl w.heap.size w); have NS := mK (fun W (hW : Kd.C Kd.string W A0 l0.length l0) => impl_size_string.calls A0 c0 l0 (l0.length : Int) W hW hc0 rfl); have NW := mK (fun r W h => impl_within.calls (l0.length : Int) 1 12 r W h)
 have hw1 : impl_within.f (l0.length : Int) 1 12 = some (decide (1 ≤ (l0.length : Int) ∧ (l0.length : Int) ≤ 12)) := by
   unfold impl_within.f
   by_cases h1 : (l0.length : Int) ≥ 1
   · rw [if_pos h1]; congr 1; simp [show (1 : Int) ≤ l0.length from h1]
   · rw [if_neg h1]; congr 1; symm; simp; omega
 by_cases hs : (1 ≤ (l0.length : Int) ∧ (l0.length : Int) ≤ 12)
 ·have NT := mK (fun W (hW : Kd.C Kd.string W A0 l0.length l0) => impl_TypesOk.contains A0 c0 l0 W hW hc0 (by omega)); rw [decide_eq_true hs] at hw1 ⊢; rw [Bool.true_and, ← impl_TypesOk.idx_all]; generalize decide (impl_TypesOk.idx l0 ≥ 0) = t at NT ⊢; have HW := mK hw1; have HR := mK hr0; clear hw1 hs hr0; go_enter Tryz.func122, Tryz.ntmps122; go_wp2_with (first | (go_at_call 145; (refine (NS.out _ (cB HR.out HB.out)).mono ?_); rintro e w2 ⟨rfl, hd⟩; replace HB := mK (lT HB.out hd.below); clear hd) | (go_at_call 55; (refine (NW.out _ _ HW.out).mono ?_); rintro e w2 ⟨rfl, hd⟩; replace HB := mK (lT HB.out hd.below); clear hd) | (go_at_call 146; (refine (NT.out _ (cB HR.out HB.out)).mono ?_); rintro e w2 ⟨rfl, hb⟩; replace HB := mK (lT HB.out hb); clear hb)); go_ret; exact ⟨rfl, HB.out⟩
 ·rw [decide_eq_false hs] at hw1 ⊢; rw [Bool.false_and]; have HW := mK hw1; have HR := mK hr0; clear hw1 hs hr0; go_enter Tryz.func122, Tryz.ntmps122; go_wp2_with (first | (go_at_call 145; (refine (NS.out _ (cB HR.out HB.out)).mono ?_); rintro e w2 ⟨rfl, hd⟩; replace HB := mK (lT HB.out hd.below); clear hd) | (go_at_call 55; (refine (NW.out _ _ HW.out).mono ?_); rintro e w2 ⟨rfl, hd⟩; replace HB := mK (lT HB.out hd.below); clear hd)); go_ret; exact ⟨rfl, HB.out⟩
def impl_ConfigOk.f (a0_0 : Int) (a0_1 : Int) (a0_2 : Int) (l0_3 : List ByteArray) : Option (Bool) := (impl_within.f a0_0 8 128).bind fun t105 => (if t105 = true then ((impl_within.f a0_1 1 (mn 32 (wrap64 (a0_0 - 5)))).bind fun t106 => (if t106 = true then ((impl_within.f a0_2 2 400).bind fun t107 => (if t107 = true then ((impl_TypesOk.f l0_3).bind fun t108 => (some t108)) else (some false))) else (some false))) else (some false))
theorem impl_ConfigOk.calls (a0_0 : Int) (a0_1 : Int) (a0_2 : Int) (A0_3 : Option Addr) (c0_3 : Nat) (l0_3 : List ByteArray) (r : Bool) (w : World) (hr0_3 : Kd.C Kd.string w A0_3 l0_3.length l0_3) (hc0_3 : l0_3.length ≤ c0_3) (h : impl_ConfigOk.f a0_0 a0_1 a0_2 l0_3 = some r) :
    Calls Tryz.prog 76 #[.agg #[.int .i64 a0_0, .int .i64 a0_1, .int .i64 a0_2, .slice A0_3 l0_3.length c0_3]] w fun e w' => e = .returned (.bool r) ∧ Below w.heap.size w w' := by
 have hu35 := Tryz.underlying35; have HR0_3 := mK hr0_3; have HC0_3 := mK hc0_3; clear hr0_3 hc0_3; have HB := mK (Below.refl w.heap.size w); have H : ((impl_within.f a0_0 8 128).bind fun t235 => (if t235 = true then ((impl_within.f a0_1 1 (mn 32 (wrap64 (a0_0 - 5)))).bind fun t236 => (if t236 = true then ((impl_within.f a0_2 2 400).bind fun t237 => (if t237 = true then ((impl_TypesOk.f l0_3).bind fun t238 => (some t238)) else (some false))) else (some false))) else (some false))) = some r := h; clear h; replace H := Option.bind_eq_some_iff.mp H; obtain ⟨t235, A20, H⟩ := H; (try dsimp only at H); have A2 := mK A20; clear A20; by_cases c3 : t235 = true
 ·subst c3; (have H1 : ((impl_within.f a0_1 1 (mn 32 (wrap64 (a0_0 - 5)))).bind fun t236 => (if t236 = true then ((impl_within.f a0_2 2 400).bind fun t237 => (if t237 = true then ((impl_TypesOk.f l0_3).bind fun t238 => (some t238)) else (some false))) else (some false))) = some r := by rw [if_pos rfl] at H; exact H); clear H; have H := H1; clear H1; obtain ⟨ji4, hji4⟩ : ∃ j_ : Int, (mn 32 (wrap64 (a0_0 - 5))) = j_ := ⟨_, rfl⟩; (replace H : ((impl_within.f a0_1 1 (ji4)).bind fun t236 => (if t236 = true then ((impl_within.f a0_2 2 400).bind fun t237 => (if t237 = true then ((impl_TypesOk.f l0_3).bind fun t238 => (some t238)) else (some false))) else (some false))) = some r := by first | (rw [hji4] at H; exact H) | (simp only [hji4] at H ⊢; exact H)); (try rw [hji4] at A2); (try (have hji4h : ji4 ≤ 32 := by (rw [← hji4]; unfold mn; (repeat' split) <;> omega))); (try (have hji4g : ji4 ≤ 64 := by omega)); have hji4_ : (if (wrap64 (a0_0 - 5)) < 32 then (wrap64 (a0_0 - 5)) else 32) = ji4 := hji4; replace H := Option.bind_eq_some_iff.mp H; obtain ⟨t236, A50, H⟩ := H; (try dsimp only at H); have A5 := mK A50; clear A50; by_cases c6 : t236 = true
  ·subst c6; (have H1 : ((impl_within.f a0_2 2 400).bind fun t237 => (if t237 = true then ((impl_TypesOk.f l0_3).bind fun t238 => (some t238)) else (some false))) = some r := by rw [if_pos rfl] at H; exact H); clear H; have H := H1; clear H1; replace H := Option.bind_eq_some_iff.mp H; obtain ⟨t237, A70, H⟩ := H; (try dsimp only at H); have A7 := mK A70; clear A70; by_cases c8 : t237 = true
   ·subst c8; (have H1 : ((impl_TypesOk.f l0_3).bind fun t238 => (some t238)) = some r := by rw [if_pos rfl] at H; exact H); clear H; have H := H1; clear H1; replace H := Option.bind_eq_some_iff.mp H; obtain ⟨t238, A90, H⟩ := H; (try dsimp only at H); have A9 := mK A90; clear A90; obtain rfl := Option.some.inj H; go_enter Tryz.func76, Tryz.ntmps76; go_wp2_with (first | ((with_reducible refine gate_dst (N := 1) rfl ?_); (try (refine gate_guard (by rfl) ?_; dsimp only)); refine box_event ?hg (N := 1) ?hd (cs := #[.int .i64 a0_0, .int .i64 a0_1, .int .i64 a0_2, .slice A0_3 l0_3.length c0_3]) (t := 35) ?hr ?_; (case hd => rfl); (case hg => rfl); (case hr => first | (go_simp; done) | (go_simp; rfl)); intro gb234 hg w10 hbox hb; have n0_ := mK (lT (by apply_rules only [HB.out, lA, lN, lD]) hb); have n1_ := mK (hbox); have n2_ := mK ((by rw [hg]; exact (below_size (by apply_rules only [HB.out, lA, lN, lD])) : w.heap.size ≤ gb234)); have n3_ := mK ((by rw [hg]; exact (below_size (by apply_rules only [HB.out, lA, lN, lD])) : w.heap.size ≤ gb234)); clear HB; have HB := n0_; have BK234 := n1_; have GW234 := n2_; have GE234 := n3_; clear n0_ n1_ n2_ n3_; clear hb hbox hg; have hcz11_0 : w10.cell? ⟨gb234, 0, none⟩ = some (.int .i64 a0_0) := (bC BK234.out 0).trans rfl; have hcz11_1 : w10.cell? ⟨gb234, 1, none⟩ = some (.int .i64 a0_1) := (bC BK234.out 1).trans rfl; have hcz11_2 : w10.cell? ⟨gb234, 2, none⟩ = some (.int .i64 a0_2) := (bC BK234.out 2).trans rfl; have hcz11_3 : w10.cell? ⟨gb234, 3, none⟩ = some (.slice A0_3 l0_3.length c0_3) := (bC BK234.out 3).trans rfl; have hfz11_0 := bF BK234.out 0; have hfz11_1 := bF BK234.out 1; have hfz11_2 := bF BK234.out 2; have hfz11_3 := bF BK234.out 3) | ((with_reducible refine gate_callee (f := 55) rfl ?_); refine goesL_ (some 5) rfl rfl Tryz.func55 (by kernel_rfl) rfl #[.int .i64 a0_0, .int .i64 8, .int .i64 128] rfl (by (try simp only [mT_, mC_, mN_]) <;> rfl) ?_; (with_reducible refine (impl_within.calls a0_0 8 128 true _ A2.out).mono ?_); rintro e w' ⟨rfl, ⟨nd, rfl⟩⟩; refine ⟨_, rfl, ?_⟩) | (go_at_call 55; (with_reducible refine (impl_within.calls a0_1 1 ji4 true _ A5.out).mono ?_); rintro e w' ⟨rfl, ⟨nd, rfl⟩⟩) | (go_at_call 55; (with_reducible refine (impl_within.calls a0_2 2 400 true _ A7.out).mono ?_); rintro e w' ⟨rfl, ⟨nd, rfl⟩⟩) | (go_at_call 122; (with_reducible refine (impl_TypesOk.calls _ _ l0_3 t238 _ ?side1 ?side2 A9.out).mono ?_); (case side1 => repeat (first | exact (cB HR0_3.out (by apply_rules only [HB.out, lA, lN, lD, (fun h_ => lS h_ GE234.out)])) | (with_reducible refine Kd.C_alloc ?_ _) | (with_reducible refine Kd.C_drewN ?_ _) | (with_reducible refine Kd.C_drew ?_))); (case side2 => exact HC0_3.out); rintro e w12 ⟨rfl, hb⟩; have hB_ := hb; (with_reducible repeat (first | replace hB_ := pN_ hB_ | replace hB_ := pD_ hB_ | replace hB_ := pA_ hB_)); replace BK234 := bb_ BK234 hB_; replace HB := lb_ HB hB_; clear hB_)); go_ret; exact ⟨by first | rfl | (simp [errW_none, errW_some] <;> rfl) | (simp only [← hji4]; first | rfl | (simp [errW_none, errW_some] <;> rfl)) | (simp [*, errW_none, errW_some] <;> rfl), by apply_rules only [HB.out, lA, lN, lD, (fun h_ => lS h_ GE234.out)]⟩
   ·replace c8 := Bool.eq_false_iff.mpr c8; subst c8; (have H1 : (some false) = some r := by rw [if_neg (show ¬ (false = true) by decide)] at H; exact H); clear H; have H := H1; clear H1; obtain rfl := Option.some.inj H; go_enter Tryz.func76, Tryz.ntmps76; go_wp2_with (first | ((with_reducible refine gate_dst (N := 1) rfl ?_); (try (refine gate_guard (by rfl) ?_; dsimp only)); refine box_event ?hg (N := 1) ?hd (cs := #[.int .i64 a0_0, .int .i64 a0_1, .int .i64 a0_2, .slice A0_3 l0_3.length c0_3]) (t := 35) ?hr ?_; (case hd => rfl); (case hg => rfl); (case hr => first | (go_simp; done) | (go_simp; rfl)); intro gb234 hg w13 hbox hb; have n0_ := mK (lT (by apply_rules only [HB.out, lA, lN, lD]) hb); have n1_ := mK (hbox); have n2_ := mK ((by rw [hg]; exact (below_size (by apply_rules only [HB.out, lA, lN, lD])) : w.heap.size ≤ gb234)); have n3_ := mK ((by rw [hg]; exact (below_size (by apply_rules only [HB.out, lA, lN, lD])) : w.heap.size ≤ gb234)); clear HB; have HB := n0_; have BK234 := n1_; have GW234 := n2_; have GE234 := n3_; clear n0_ n1_ n2_ n3_; clear hb hbox hg; have hcz14_0 : w13.cell? ⟨gb234, 0, none⟩ = some (.int .i64 a0_0) := (bC BK234.out 0).trans rfl; have hcz14_1 : w13.cell? ⟨gb234, 1, none⟩ = some (.int .i64 a0_1) := (bC BK234.out 1).trans rfl; have hcz14_2 : w13.cell? ⟨gb234, 2, none⟩ = some (.int .i64 a0_2) := (bC BK234.out 2).trans rfl; have hcz14_3 : w13.cell? ⟨gb234, 3, none⟩ = some (.slice A0_3 l0_3.length c0_3) := (bC BK234.out 3).trans rfl; have hfz14_0 := bF BK234.out 0; have hfz14_1 := bF BK234.out 1; have hfz14_2 := bF BK234.out 2; have hfz14_3 := bF BK234.out 3) | ((with_reducible refine gate_callee (f := 55) rfl ?_); refine goesL_ (some 5) rfl rfl Tryz.func55 (by kernel_rfl) rfl #[.int .i64 a0_0, .int .i64 8, .int .i64 128] rfl (by (try simp only [mT_, mC_, mN_]) <;> rfl) ?_; (with_reducible refine (impl_within.calls a0_0 8 128 true _ A2.out).mono ?_); rintro e w' ⟨rfl, ⟨nd, rfl⟩⟩; refine ⟨_, rfl, ?_⟩) | (go_at_call 55; (with_reducible refine (impl_within.calls a0_1 1 ji4 true _ A5.out).mono ?_); rintro e w' ⟨rfl, ⟨nd, rfl⟩⟩) | (go_at_call 55; (with_reducible refine (impl_within.calls a0_2 2 400 false _ A7.out).mono ?_); rintro e w' ⟨rfl, ⟨nd, rfl⟩⟩)); go_ret; exact ⟨by first | rfl | (simp [errW_none, errW_some] <;> rfl) | (simp only [← hji4]; first | rfl | (simp [errW_none, errW_some] <;> rfl)) | (simp [*, errW_none, errW_some] <;> rfl), by apply_rules only [HB.out, lA, lN, lD, (fun h_ => lS h_ GE234.out)]⟩
  ·replace c6 := Bool.eq_false_iff.mpr c6; subst c6; (have H1 : (some false) = some r := by rw [if_neg (show ¬ (false = true) by decide)] at H; exact H); clear H; have H := H1; clear H1; obtain rfl := Option.some.inj H; go_enter Tryz.func76, Tryz.ntmps76; go_wp2_with (first | ((with_reducible refine gate_dst (N := 1) rfl ?_); (try (refine gate_guard (by rfl) ?_; dsimp only)); refine box_event ?hg (N := 1) ?hd (cs := #[.int .i64 a0_0, .int .i64 a0_1, .int .i64 a0_2, .slice A0_3 l0_3.length c0_3]) (t := 35) ?hr ?_; (case hd => rfl); (case hg => rfl); (case hr => first | (go_simp; done) | (go_simp; rfl)); intro gb234 hg w15 hbox hb; have n0_ := mK (lT (by apply_rules only [HB.out, lA, lN, lD]) hb); have n1_ := mK (hbox); have n2_ := mK ((by rw [hg]; exact (below_size (by apply_rules only [HB.out, lA, lN, lD])) : w.heap.size ≤ gb234)); have n3_ := mK ((by rw [hg]; exact (below_size (by apply_rules only [HB.out, lA, lN, lD])) : w.heap.size ≤ gb234)); clear HB; have HB := n0_; have BK234 := n1_; have GW234 := n2_; have GE234 := n3_; clear n0_ n1_ n2_ n3_; clear hb hbox hg; have hcz16_0 : w15.cell? ⟨gb234, 0, none⟩ = some (.int .i64 a0_0) := (bC BK234.out 0).trans rfl; have hcz16_1 : w15.cell? ⟨gb234, 1, none⟩ = some (.int .i64 a0_1) := (bC BK234.out 1).trans rfl; have hcz16_2 : w15.cell? ⟨gb234, 2, none⟩ = some (.int .i64 a0_2) := (bC BK234.out 2).trans rfl; have hcz16_3 : w15.cell? ⟨gb234, 3, none⟩ = some (.slice A0_3 l0_3.length c0_3) := (bC BK234.out 3).trans rfl; have hfz16_0 := bF BK234.out 0; have hfz16_1 := bF BK234.out 1; have hfz16_2 := bF BK234.out 2; have hfz16_3 := bF BK234.out 3) | ((with_reducible refine gate_callee (f := 55) rfl ?_); refine goesL_ (some 5) rfl rfl Tryz.func55 (by kernel_rfl) rfl #[.int .i64 a0_0, .int .i64 8, .int .i64 128] rfl (by (try simp only [mT_, mC_, mN_]) <;> rfl) ?_; (with_reducible refine (impl_within.calls a0_0 8 128 true _ A2.out).mono ?_); rintro e w' ⟨rfl, ⟨nd, rfl⟩⟩; refine ⟨_, rfl, ?_⟩) | (go_at_call 55; (with_reducible refine (impl_within.calls a0_1 1 ji4 false _ A5.out).mono ?_); rintro e w' ⟨rfl, ⟨nd, rfl⟩⟩)); go_ret; exact ⟨by first | rfl | (simp [errW_none, errW_some] <;> rfl) | (simp only [← hji4]; first | rfl | (simp [errW_none, errW_some] <;> rfl)) | (simp [*, errW_none, errW_some] <;> rfl), by apply_rules only [HB.out, lA, lN, lD, (fun h_ => lS h_ GE234.out)]⟩
 ·replace c3 := Bool.eq_false_iff.mpr c3; subst c3; (have H1 : (some false) = some r := by rw [if_neg (show ¬ (false = true) by decide)] at H; exact H); clear H; have H := H1; clear H1; obtain rfl := Option.some.inj H; go_enter Tryz.func76, Tryz.ntmps76; go_wp2_with (first | ((with_reducible refine gate_dst (N := 1) rfl ?_); (try (refine gate_guard (by rfl) ?_; dsimp only)); refine box_event ?hg (N := 1) ?hd (cs := #[.int .i64 a0_0, .int .i64 a0_1, .int .i64 a0_2, .slice A0_3 l0_3.length c0_3]) (t := 35) ?hr ?_; (case hd => rfl); (case hg => rfl); (case hr => first | (go_simp; done) | (go_simp; rfl)); intro gb234 hg w17 hbox hb; have n0_ := mK (lT (by apply_rules only [HB.out, lA, lN, lD]) hb); have n1_ := mK (hbox); have n2_ := mK ((by rw [hg]; exact (below_size (by apply_rules only [HB.out, lA, lN, lD])) : w.heap.size ≤ gb234)); have n3_ := mK ((by rw [hg]; exact (below_size (by apply_rules only [HB.out, lA, lN, lD])) : w.heap.size ≤ gb234)); clear HB; have HB := n0_; have BK234 := n1_; have GW234 := n2_; have GE234 := n3_; clear n0_ n1_ n2_ n3_; clear hb hbox hg; have hcz18_0 : w17.cell? ⟨gb234, 0, none⟩ = some (.int .i64 a0_0) := (bC BK234.out 0).trans rfl; have hcz18_1 : w17.cell? ⟨gb234, 1, none⟩ = some (.int .i64 a0_1) := (bC BK234.out 1).trans rfl; have hcz18_2 : w17.cell? ⟨gb234, 2, none⟩ = some (.int .i64 a0_2) := (bC BK234.out 2).trans rfl; have hcz18_3 : w17.cell? ⟨gb234, 3, none⟩ = some (.slice A0_3 l0_3.length c0_3) := (bC BK234.out 3).trans rfl; have hfz18_0 := bF BK234.out 0; have hfz18_1 := bF BK234.out 1; have hfz18_2 := bF BK234.out 2; have hfz18_3 := bF BK234.out 3) | ((with_reducible refine gate_callee (f := 55) rfl ?_); refine goesL_ (some 5) rfl rfl Tryz.func55 (by kernel_rfl) rfl #[.int .i64 a0_0, .int .i64 8, .int .i64 128] rfl (by (try simp only [mT_, mC_, mN_]) <;> rfl) ?_; (with_reducible refine (impl_within.calls a0_0 8 128 false _ A2.out).mono ?_); rintro e w' ⟨rfl, ⟨nd, rfl⟩⟩; refine ⟨_, rfl, ?_⟩)); go_ret; exact ⟨by first | rfl | (simp [*] <;> rfl), by apply_rules only [HB.out, lA, lN, lD, (fun h_ => lS h_ GE234.out)]⟩
def impl_isImage.f (a0_0 : Int) (a0_1 : Int) (a0_2 : Int) (l0_3 : List ByteArray) (a1 : ByteArray) : Option (Bool) := (impl_ConfigOk.f a0_0 a0_1 a0_2 l0_3).bind fun t110 => (if t110 = true then (some ((a1.size : Int) == (wrap64 (64 * a0_0)))) else (some false))
theorem impl_isImage.calls (a0_0 : Int) (a0_1 : Int) (a0_2 : Int) (A0_3 : Option Addr) (c0_3 : Nat) (l0_3 : List ByteArray) (a1 : ByteArray) (r : Bool) (w : World) (hr0_3 : Kd.C Kd.string w A0_3 l0_3.length l0_3) (hc0_3 : l0_3.length ≤ c0_3) (h : impl_isImage.f a0_0 a0_1 a0_2 l0_3 a1 = some r) :
    Calls Tryz.prog 107 #[.agg #[.int .i64 a0_0, .int .i64 a0_1, .int .i64 a0_2, .slice A0_3 l0_3.length c0_3], .string a1] w fun e w' => e = .returned (.bool r) ∧ Below w.heap.size w w' := by
 have hu35 := Tryz.underlying35; have HR0_3 := mK hr0_3; have HC0_3 := mK hc0_3; clear hr0_3 hc0_3; have HB := mK (Below.refl w.heap.size w); have H : ((impl_ConfigOk.f a0_0 a0_1 a0_2 l0_3).bind fun t240 => (if t240 = true then (some ((a1.size : Int) == (wrap64 (64 * a0_0)))) else (some false))) = some r := h; clear h; replace H := Option.bind_eq_some_iff.mp H; obtain ⟨t240, A30, H⟩ := H; (try dsimp only at H); have A3 := mK A30; clear A30; by_cases c4 : t240 = true
 ·subst c4; (have H1 : (some ((a1.size : Int) == (wrap64 (64 * a0_0)))) = some r := by rw [if_pos rfl] at H; exact H); clear H; have H := H1; clear H1; obtain rfl := Option.some.inj H; go_enter Tryz.func107, Tryz.ntmps107; go_wp2_with (first | ((with_reducible refine gate_dst (N := 2) rfl ?_); (try (refine gate_guard (by rfl) ?_; dsimp only)); refine box_event ?hg (N := 2) ?hd (cs := #[.int .i64 a0_0, .int .i64 a0_1, .int .i64 a0_2, .slice A0_3 l0_3.length c0_3]) (t := 35) ?hr ?_; (case hd => rfl); (case hg => rfl); (case hr => first | (go_simp; done) | (go_simp; rfl)); intro gb239 hg w5 hbox hb; have n0_ := mK (lT (by apply_rules only [HB.out, lA, lN, lD]) hb); have n1_ := mK (hbox); have n2_ := mK ((by rw [hg]; exact (below_size (by apply_rules only [HB.out, lA, lN, lD])) : w.heap.size ≤ gb239)); have n3_ := mK ((by rw [hg]; exact (below_size (by apply_rules only [HB.out, lA, lN, lD])) : w.heap.size ≤ gb239)); clear HB; have HB := n0_; have BK239 := n1_; have GW239 := n2_; have GE239 := n3_; clear n0_ n1_ n2_ n3_; clear hb hbox hg; have hcz6_0 : w5.cell? ⟨gb239, 0, none⟩ = some (.int .i64 a0_0) := (bC BK239.out 0).trans rfl; have hcz6_1 : w5.cell? ⟨gb239, 1, none⟩ = some (.int .i64 a0_1) := (bC BK239.out 1).trans rfl; have hcz6_2 : w5.cell? ⟨gb239, 2, none⟩ = some (.int .i64 a0_2) := (bC BK239.out 2).trans rfl; have hcz6_3 : w5.cell? ⟨gb239, 3, none⟩ = some (.slice A0_3 l0_3.length c0_3) := (bC BK239.out 3).trans rfl; have hfz6_0 := bF BK239.out 0; have hfz6_1 := bF BK239.out 1; have hfz6_2 := bF BK239.out 2; have hfz6_3 := bF BK239.out 3) | ((with_reducible refine gate_callee (f := 76) rfl ?_); refine goesL_ (some 6) rfl rfl Tryz.func76 (by kernel_rfl) rfl #[.agg #[.int .i64 a0_0, .int .i64 a0_1, .int .i64 a0_2, .slice A0_3 l0_3.length c0_3]] rfl (by (try simp only [mT_, mC_, mN_]) <;> rfl) ?_; (with_reducible refine (impl_ConfigOk.calls a0_0 a0_1 a0_2 _ _ l0_3 true _ ?side1 ?side2 A3.out).mono ?_); (case side1 => repeat (first | exact (cB HR0_3.out HB.out) | (with_reducible refine Kd.C_alloc ?_ _) | (with_reducible refine Kd.C_drewN ?_ _) | (with_reducible refine Kd.C_drew ?_))); (case side2 => exact HC0_3.out); rintro e w7 ⟨rfl, hb⟩; refine ⟨_, rfl, ?_⟩; have hB_ := hb; (with_reducible repeat (first | replace hB_ := pN_ hB_ | replace hB_ := pD_ hB_ | replace hB_ := pA_ hB_)); replace BK239 := bb_ BK239 hB_; replace HB := lb_ HB hB_; clear hB_; have hcz8_0 : w7.cell? ⟨gb239, 0, none⟩ = some (.int .i64 a0_0) := (bC BK239.out 0).trans rfl; have hcz8_1 : w7.cell? ⟨gb239, 1, none⟩ = some (.int .i64 a0_1) := (bC BK239.out 1).trans rfl; have hcz8_2 : w7.cell? ⟨gb239, 2, none⟩ = some (.int .i64 a0_2) := (bC BK239.out 2).trans rfl; have hcz8_3 : w7.cell? ⟨gb239, 3, none⟩ = some (.slice A0_3 l0_3.length c0_3) := (bC BK239.out 3).trans rfl; have hfz8_0 := bF BK239.out 0; have hfz8_1 := bF BK239.out 1; have hfz8_2 := bF BK239.out 2; have hfz8_3 := bF BK239.out 3)); go_ret; exact ⟨by first | rfl | (simp [*] <;> rfl), by apply_rules only [HB.out, lA, lN, lD, (fun h_ => lS h_ GE239.out)]⟩
 ·replace c4 := Bool.eq_false_iff.mpr c4; subst c4; (have H1 : (some false) = some r := by rw [if_neg (show ¬ (false = true) by decide)] at H; exact H); clear H; have H := H1; clear H1; obtain rfl := Option.some.inj H; go_enter Tryz.func107, Tryz.ntmps107; go_wp2_with (first | ((with_reducible refine gate_dst (N := 2) rfl ?_); (try (refine gate_guard (by rfl) ?_; dsimp only)); refine box_event ?hg (N := 2) ?hd (cs := #[.int .i64 a0_0, .int .i64 a0_1, .int .i64 a0_2, .slice A0_3 l0_3.length c0_3]) (t := 35) ?hr ?_; (case hd => rfl); (case hg => rfl); (case hr => first | (go_simp; done) | (go_simp; rfl)); intro gb239 hg w9 hbox hb; have n0_ := mK (lT (by apply_rules only [HB.out, lA, lN, lD]) hb); have n1_ := mK (hbox); have n2_ := mK ((by rw [hg]; exact (below_size (by apply_rules only [HB.out, lA, lN, lD])) : w.heap.size ≤ gb239)); have n3_ := mK ((by rw [hg]; exact (below_size (by apply_rules only [HB.out, lA, lN, lD])) : w.heap.size ≤ gb239)); clear HB; have HB := n0_; have BK239 := n1_; have GW239 := n2_; have GE239 := n3_; clear n0_ n1_ n2_ n3_; clear hb hbox hg; have hcz10_0 : w9.cell? ⟨gb239, 0, none⟩ = some (.int .i64 a0_0) := (bC BK239.out 0).trans rfl; have hcz10_1 : w9.cell? ⟨gb239, 1, none⟩ = some (.int .i64 a0_1) := (bC BK239.out 1).trans rfl; have hcz10_2 : w9.cell? ⟨gb239, 2, none⟩ = some (.int .i64 a0_2) := (bC BK239.out 2).trans rfl; have hcz10_3 : w9.cell? ⟨gb239, 3, none⟩ = some (.slice A0_3 l0_3.length c0_3) := (bC BK239.out 3).trans rfl; have hfz10_0 := bF BK239.out 0; have hfz10_1 := bF BK239.out 1; have hfz10_2 := bF BK239.out 2; have hfz10_3 := bF BK239.out 3) | ((with_reducible refine gate_callee (f := 76) rfl ?_); refine goesL_ (some 6) rfl rfl Tryz.func76 (by kernel_rfl) rfl #[.agg #[.int .i64 a0_0, .int .i64 a0_1, .int .i64 a0_2, .slice A0_3 l0_3.length c0_3]] rfl (by (try simp only [mT_, mC_, mN_]) <;> rfl) ?_; (with_reducible refine (impl_ConfigOk.calls a0_0 a0_1 a0_2 _ _ l0_3 false _ ?side1 ?side2 A3.out).mono ?_); (case side1 => repeat (first | exact (cB HR0_3.out HB.out) | (with_reducible refine Kd.C_alloc ?_ _) | (with_reducible refine Kd.C_drewN ?_ _) | (with_reducible refine Kd.C_drew ?_))); (case side2 => exact HC0_3.out); rintro e w11 ⟨rfl, hb⟩; refine ⟨_, rfl, ?_⟩; have hB_ := hb; (with_reducible repeat (first | replace hB_ := pN_ hB_ | replace hB_ := pD_ hB_ | replace hB_ := pA_ hB_)); replace BK239 := bb_ BK239 hB_; replace HB := lb_ HB hB_; clear hB_)); go_ret; exact ⟨by first | rfl | (simp [*] <;> rfl), by apply_rules only [HB.out, lA, lN, lD, (fun h_ => lS h_ GE239.out)]⟩
def impl_zeros.f (a0 : Int) : Option (ByteArray) := if 0 ≤ a0 then (if a0 ≤ 140737488355328 then (some (strOfNums (List.replicate a0.toNat 0))) else (none)) else (none)
theorem impl_zeros.calls_rep : ∀ n : Nat, Lib.repeatL [(0 : UInt8)] n = List.replicate n 0
  | 0 => rfl
  | n + 1 => by rw [Lib.repeatL, impl_zeros.calls_rep n]; rfl
theorem impl_zeros.calls (a0 : Int) (r : ByteArray) (w : World) (h : impl_zeros.f a0 = some r) :
    Calls Tryz.prog 79 #[.int .i64 a0] w fun e w' => e = .returned (.string r) ∧ Below w.heap.size w w' := by
 unfold impl_zeros.f at h; by_cases h0 : 0 ≤ a0
 ·rw [if_pos h0] at h; by_cases h1 : a0 ≤ 140737488355328
  ·rw [if_pos h1] at h; obtain rfl := Option.some.inj h; clear h; obtain ⟨n, rfl⟩ := Int.eq_ofNat_of_zero_le h0; (have hc := fun W => Tryz.strings_Repeat (⟨#[0]⟩ : ByteArray) n W (by omega) (by simp [ByteArray.size]; omega))
   have e : (⟨(Lib.repeatL (⟨#[0]⟩ : ByteArray).data.toList n).toArray⟩ : ByteArray) = strOfNums (List.replicate ((n : Int)).toNat 0) := by
     show (⟨(Lib.repeatL [(0 : UInt8)] n).toArray⟩ : ByteArray) = _
     rw [impl_zeros.calls_rep]
     apply ByteArray.ext
     simp [strOfNums]
   rw [e] at hc; clear h0 h1 e; go_enter Tryz.func79, Tryz.ntmps79; go_wp2_with (go_at_call 126; (with_reducible refine (hc _).mono ?_); rintro e w' ⟨rfl, hb⟩); go_ret; exact ⟨rfl, ‹_›⟩
  (·rw [if_neg h1] at h; cases h)
 (·rw [if_neg h0] at h; cases h)
def impl_bigBytes.l0 : Nat → Int → Int → List Int → Int → Int → Option (ByteArray)
  | 0, _, _, _, _, _ => none
  | k + 1, x0, x1, x5, x10, x11 => if x11 < x10 then (if 0 ≤ (wrap64 ((wrap64 (x1 - 1)) - x11)) then (if (wrap64 ((wrap64 (x1 - 1)) - x11)) < (x5.length : Int) then (impl_bigBytes.l0 k (x0 / 256) x1 (x5.set ((wrap64 ((wrap64 (x1 - 1)) - x11)) : Int).toNat ((x0) % 256)) x10 (wrap64 (x11 + 1))) else (none)) else (none)) else (some (strOfNums x5))
def impl_bigBytes.f (k : Nat) (a0 : Int) (a1 : Int) : Option (ByteArray) := if 0 ≤ a1 then (if (a1 : Int).toNat ≤ 281474976710656 then ((some (List.replicate (a1 : Int).toNat 0 : List Int)).bind fun y111 => (impl_bigBytes.l0 k a0 a1 y111 (y111.length : Int) 0)) else (none)) else (none)
theorem impl_bigBytes.calls (k : Nat) (a0 : Int) (a1 : Int) (r : ByteArray) (w : World) (h : impl_bigBytes.f k a0 a1 = some r) :
    Calls Tryz.prog 149 #[.int .u64 a0, .int .i64 a1] w fun e w' => e = .returned (.string r) ∧ Below w.heap.size w w' := by
 have HB := mK (Below.refl w.heap.size w); have H : (if 0 ≤ a1 then (if (a1 : Int).toNat ≤ 281474976710656 then ((some (List.replicate (a1 : Int).toNat 0 : List Int)).bind fun y259 => (impl_bigBytes.l0 k a0 a1 y259 (y259.length : Int) 0)) else (none)) else (none)) = some r := h; clear h; by_cases c3 : 0 ≤ a1
 ·rw [if_pos c3] at H; have c3b0 := eq_true c3; have c3b1 : decide (0 ≤ a1) = true := decide_eq_true c3; clear c3; by_cases c4 : (a1 : Int).toNat ≤ 281474976710656
  ·rw [if_pos c4] at H; have c4b0 := eq_true c4; have c4b1 : decide ((a1 : Int).toNat ≤ 281474976710656) = true := decide_eq_true c4; clear c4; obtain ⟨y259, hy259⟩ : ∃ y_ : List Int, y_ = (List.replicate (a1 : Int).toNat 0) := ⟨_, rfl⟩; (replace H : (impl_bigBytes.l0 k a0 a1 y259 (y259.length : Int) 0) = some r := by first | (rw [hy259]; with_reducible exact H) | (have H2_ := (Option.bind_some _ _).symm.trans H; rw [hy259]; with_reducible exact H2_) | (have H2_ := (Option.bind_some _ _).symm.trans H; with_reducible exact H2_) | with_reducible exact H | (rw [hy259]; exact H) | exact H); have Ny259 := mK hy259; clear hy259; have H' := mK H; clear H; go_enter Tryz.func149, Tryz.ntmps149; go_wp2_with (first | ((with_reducible refine gate_dst (N := 8) rfl ?_); refine Kd.R_make (Kd.int .u8) _ 5 rfl (N := 8) rfl 53 _ _ rfl a1 rfl rfl Tryz.underlying53 (.int .u8 0) 1 info5 rfl (by decide) (by omega) 0 (ok := fun _ => True) (okp := fun _ => True) rfl (fun _ hk => hk) trivial (of_decide_eq_true (by first | (with_reducible assumption) | assumption)) (Nat.le_trans (Nat.mul_le_mul_right _ (of_decide_eq_true (by first | (with_reducible assumption) | assumption) : a1.toNat ≤ 281474976710656)) (by omega)) (Below.refl _ _) (Nat.le_refl _) ?_; intro v260 w5 ho6 hb hg_ hnew_; clear hg_ hnew_; (first | rw [← Ny259.out] at ho6 | (simp only [Int.reduceToNat] at ho6; rw [← Ny259.out] at ho6)); have HO261 := mK (Kd.R_lower ho6 (below_size (by repeat (first | (with_reducible first | exact HB.out | apply lA | apply lN | apply lD) | exact HB.out)))); replace HB := mK (lT (by repeat (first | (with_reducible first | exact HB.out | apply lA | apply lN | apply lD) | exact HB.out)) hb); clear hb ho6; obtain ⟨Ao7, co7, eo7⟩ := Kd.R_slice HO261.out; subst eo7)); go_loopg [0, 11] k (fun kq v0 v11 w' => ∃ (x0_1 : Int) (x5_1 : List Int) (x11_1 : Int), v0 = .int .u64 x0_1 ∧ v11 = .int .i64 x11_1 ∧ Aside0 (impl_bigBytes.l0 kq x0_1 a1 x5_1 (y259.length : Int) x11_1 = some r) ∧ Aside0 (kq ≤ k) ∧ Aside0 (Kd.R (Kd.int .u8) 5 w' w.heap.size (fun _ => True) (.slice Ao7 y259.length co7) x5_1) ∧ Aside0 (Below w.heap.size w w')); (case atStart => exact ⟨(a0), (y259), (0), (by first | rfl | (simp; done) | (simp [*]; done)), (by first | rfl | (simp; done) | (simp [*]; done)), H', ⟨Nat.le_refl _⟩, ⟨by (with_reducible repeat (first | apply Kd.R_alloc | apply Kd.R_drewN | apply Kd.R_drew)); exact HO261.out⟩, ⟨by repeat (first | (with_reducible first | exact HB.out | apply lA | apply lN | apply lD) | exact HB.out)⟩⟩)
   case round =>
    clear H'; (try clear c1); (try clear p2); (try clear c3); (try clear c3b0); (try clear c3b1); (try clear c4); (try clear c4b0); (try clear c4b1); obtain ⟨x0_1, x5_1, x11_1, rfl, rfl, HA, HK1, HO_5, HB⟩ := hrel; have hl5_1 := (rR HO_5.out).1; rw [hl5_1] at HO_5; (try simp only [hl5_1])
    cases gk with
    | zero => exact absurd HA.out (by simp [impl_bigBytes.l0])
    | succ k1 =>
     have H := HA.out; clear HA; simp only [impl_bigBytes.l0] at H; by_cases c8 : x11_1 < (y259.length : Int)
     ·rw [if_pos c8] at H; have c8b0 : decide (x11_1 < (y259.length : Int)) = true := decide_eq_true c8; (try simp only [hl5_1] at c8b0); clear c8; obtain ⟨ji9, hji9⟩ : ∃ j_ : Int, (wrap64 ((wrap64 (a1 - 1)) - x11_1)) = j_ := ⟨_, rfl⟩; (replace H : (if 0 ≤ (ji9) then (if (ji9) < (x5_1.length : Int) then (impl_bigBytes.l0 k1 (x0_1 / 256) a1 (x5_1.set ((ji9) : Int).toNat ((x0_1) % 256)) (y259.length : Int) (wrap64 (x11_1 + 1))) else (none)) else (none)) = some r := by first | (rw [hji9] at H; exact H) | (simp only [hji9] at H ⊢; exact H)); have hji9w : (IntKind.i64.wrap ((wrap64 (a1 - 1)) - x11_1)) = ji9 := (i64_w _).trans hji9; by_cases c10 : 0 ≤ (ji9)
      ·rw [if_pos c10] at H; have c10b0 : decide (0 ≤ (ji9)) = true := decide_eq_true c10; (try simp only [hl5_1] at c10b0); clear c10; by_cases c11 : (ji9) < (x5_1.length : Int)
       ·rw [if_pos c11] at H; have c11b0 : decide ((ji9) < (x5_1.length : Int)) = true := decide_eq_true c11; (try simp only [hl5_1] at c11b0); clear c11; obtain ⟨y262, hy262⟩ : ∃ y_ : List Int, y_ = (x5_1.set ((ji9) : Int).toNat ((x0_1) % 256)) := ⟨_, rfl⟩; (replace H : (impl_bigBytes.l0 k1 (x0_1 / 256) a1 y262 (y259.length : Int) (wrap64 (x11_1 + 1))) = some r := by first | (rw [hy262]; with_reducible exact H) | (have H2_ := (Option.bind_some _ _).symm.trans H; rw [hy262]; with_reducible exact H2_) | (have H2_ := (Option.bind_some _ _).symm.trans H; with_reducible exact H2_) | with_reducible exact H | (rw [hy262]; exact H) | exact H); have Ny262 := mK hy262; clear hy262; have H' := mK H; clear H; have p12 : 0 ≤ ((ji9) : Int) := of_decide_eq_true (by first | (with_reducible assumption) | assumption); have q12 : ((ji9) : Int) < ((x5_1.length : Int) : Int) := of_decide_eq_true (by first | (with_reducible assumption) | assumption); obtain ⟨go12, co12, eo12, gb12, gl12, cl12, HG12⟩ := Kd.R_form HO_5.out (by omega); (first | cases eo12 | (injection eo12 with ea_ en_ ec_; (first | subst ea_ | (injection ea_ with ea_; subst ea_)); subst ec_; clear en_)); have GB12 := mK gb12; have GG12 := mK HG12; clear gb12 gl12 HG12; obtain ⟨hx12_0, hf12_0⟩ := Kd.R_celln 0 HO_5.out ((ji9) : Int) p12 q12; replace p12 := eq_true p12; replace q12 := eq_true q12; have HP13 := Kd.R_putg HO_5.out ((ji9) : Int) ((x0_1) % 256); go_wp2_with (first | ((with_reducible refine gate_store (t := 5) (p := 21) rfl ?_); refine store_event (t := 5) (p := 21) (v := ?vo_w14) (w1 := (wr.setCell ⟨go12, ((ji9) : Int).toNat, none⟩ (.int .u8 ((x0_1) % 256)))) ?hg ?ho ?hn ?hr ?_; (case ho => rfl); (case hg => rfl); (case hn => rfl); (case hr => first | (go_simp; done) | (go_simp; rfl)); intro w14 hw; have hg : wr.grownBy w14 (some go12) := (by rw [hw]; exact HP13.2); have hp_ : Kd.R (Kd.int .u8) 5 w14 w.heap.size (fun _ => True) (.slice (some ⟨go12, 0, none⟩) x5_1.length co7) y262 := (by rw [hw, Ny262.out]; exact HP13.1); clear HP13; replace HO_5 := mK (hp_); replace HB := mK ((by rw [hw]; exact lS (HB.out) GB12.out : Below w.heap.size w w14)); clear hg hw hp_)); (try simp only [← hl5_1]); go_roundg k1; (case measure => have := HK1.out; omega); (case rel => exact ⟨(x0_1 / 256), (y262), (wrap64 (x11_1 + 1)), (by first | rfl | (simp; done) | (simp [*]; done)), (by first | rfl | (simp; done) | (simp [*]; done)), H', ⟨by have := HK1.out; omega⟩, ⟨by (try simp only [hl5_1]); (with_reducible repeat (first | apply Kd.R_alloc | apply Kd.R_drewN | apply Kd.R_drew)); exact HO_5.out⟩, ⟨by repeat (first | (with_reducible first | exact HB.out | apply lA | apply lN | apply lD) | exact HB.out)⟩⟩)
       (·rw [if_neg c11] at H; exact absurd H (by simp))
      (·rw [if_neg c10] at H; exact absurd H (by simp))
     ·rw [if_neg c8] at H; have c8b0 : decide (x11_1 < (y259.length : Int)) = false := decide_eq_false c8; (try simp only [hl5_1] at c8b0); clear c8; obtain rfl := Option.some.inj H; have hcv15 := own_string (P := Tryz.prog) Tryz.underlying53 Tryz.underlying5 Tryz.underlying9 (Kd.own_of_R HO_5.out); go_wp2; go_ret; exact ⟨by first | rfl | (simp [*] <;> rfl), by repeat (first | (with_reducible first | exact HB.out | apply lA | apply lN | apply lD) | exact HB.out)⟩
  (·rw [if_neg c4] at H; exact absurd H (by simp))
 (·rw [if_neg c3] at H; exact absurd H (by simp))
mutual
def impl_Crc.l0 : Nat → ByteArray → Int → Int → Int → Option (ByteArray)
  | 0, _, _, _, _ => none
  | k + 1, x0, x3, x10, x11 => if x11 < x10 then (if 0 ≤ x11 then (if x11 < (x0.size : Int) then (impl_Crc.l1 k x0 (Go.bits .xor .u32 x3 ((bt x0 x11) % 4294967296)) x10 x11 0) else (none)) else (none)) else ((impl_bigBytes.f k (IntKind.u64.wrap (Go.bits .xor .u32 4294967295 x3)) 4).bind fun t115 => (some t115))
def impl_Crc.l1 : Nat → ByteArray → Int → Int → Int → Int → Option (ByteArray)
  | 0, _, _, _, _, _ => none
  | k + 1, x0, x3, x10, x11, x20 => if x20 < 8 then (if (Go.bits .and .u32 x3 1) = 1 then (impl_Crc.l1 k x0 (Go.bits .xor .u32 (x3 / 2) 3988292384) x10 x11 (wrap64 (x20 + 1))) else (impl_Crc.l1 k x0 (x3 / 2) x10 x11 (wrap64 (x20 + 1)))) else (impl_Crc.l0 k x0 x3 x10 (wrap64 (x11 + 1)))
end
def impl_Crc.f (k : Nat) (a0 : ByteArray) : Option (ByteArray) := if (a0.size : Int) > 20000 then (some (⟨#[]⟩ : ByteArray)) else (impl_Crc.l0 k a0 4294967295 (a0.size : Int) 0)
theorem impl_Crc.calls (k : Nat) (a0 : ByteArray) (r : ByteArray) (w : World) (h : impl_Crc.f k a0 = some r) :
    Calls Tryz.prog 139 #[.string a0] w fun e w' => e = .returned (.string r) ∧ Below w.heap.size w w' := by
 have HB := mK (Below.refl w.heap.size w); have H : (if (a0.size : Int) > 20000 then (some (⟨#[]⟩ : ByteArray)) else (impl_Crc.l0 k a0 4294967295 (a0.size : Int) 0)) = some r := h; clear h; by_cases c2 : (a0.size : Int) > 20000
 ·rw [if_pos c2] at H; have c2b0 : decide (20000 < (a0.size : Int)) = true := decide_eq_true c2; have c2b1 : decide (20000 < a0.size) = true := decide_eq_true (by omega); clear c2; obtain rfl := Option.some.inj H; go_enter Tryz.func139, Tryz.ntmps139; go_wp2; go_ret; exact ⟨by first | rfl | (simp [*] <;> rfl), by apply_rules only [HB.out, lA, lN, lD]⟩
 ·rw [if_neg c2] at H; have c2b0 : decide (20000 < (a0.size : Int)) = false := decide_eq_false c2; have c2b1 : decide (20000 < a0.size) = false := decide_eq_false (by omega); clear c2; have H' := mK H; clear H; go_enter Tryz.func139, Tryz.ntmps139; go_wp2; go_loopg [3, 11] k (fun kq v3 v11 w' => ∃ (x3_1 : Int) (x11_1 : Int), v3 = .int .u32 x3_1 ∧ v11 = .int .i64 x11_1 ∧ Aside0 (impl_Crc.l0 kq a0 x3_1 (a0.size : Int) x11_1 = some r) ∧ Aside0 (kq ≤ k) ∧ Aside0 (Below w.heap.size w w')); (case atStart => exact ⟨(4294967295), (0), (by first | rfl | (simp; done) | (simp [*]; done)), (by first | rfl | (simp; done) | (simp [*]; done)), H', ⟨Nat.le_refl _⟩, ⟨by apply_rules only [HB.out, lA, lN, lD]⟩⟩)
  case round =>
   clear H'; (try clear c1); (try clear c2); (try clear c2b0); (try clear c2b1); (try clear p2); obtain ⟨x3_1, x11_1, rfl, rfl, HA, HK1, HB⟩ := hrel
   cases gk with
   | zero => exact absurd HA.out (by simp [impl_Crc.l0])
   | succ k1 =>
    have H := HA.out; clear HA; simp only [impl_Crc.l0] at H; by_cases c3 : x11_1 < (a0.size : Int)
    ·rw [if_pos c3] at H; have c3b0 : decide (x11_1 < (a0.size : Int)) = true := decide_eq_true c3; clear c3; by_cases c4 : 0 ≤ x11_1
     ·rw [if_pos c4] at H; have c4b0 : decide (0 ≤ x11_1) = true := decide_eq_true c4; clear c4; by_cases c5 : x11_1 < (a0.size : Int)
      ·rw [if_pos c5] at H; have c5b0 : decide (x11_1 < (a0.size : Int)) = true := decide_eq_true c5; clear c5; have H' := mK H; clear H; have p6 : 0 ≤ (x11_1 : Int) := of_decide_eq_true (by first | (with_reducible assumption) | assumption); have q6 : x11_1 < (a0.size : Int) := of_decide_eq_true (by first | (with_reducible assumption) | assumption); have hx6 := bt_at a0 x11_1; replace p6 := eq_true p6; replace q6 := eq_true q6; go_wp2; go_loopg [3, 20] k1 (fun kq v3 v20 w' => ∃ (x3_2 : Int) (x20_2 : Int), v3 = .int .u32 x3_2 ∧ v20 = .int .i64 x20_2 ∧ Aside0 (impl_Crc.l1 kq a0 x3_2 (a0.size : Int) x11_1 x20_2 = some r) ∧ Aside0 (kq ≤ k1) ∧ Aside0 (Below w.heap.size w w')); (case atStart => exact ⟨(Go.bits .xor .u32 x3_1 ((bt a0 x11_1) % 4294967296)), (0), (by first | rfl | (simp; done) | (simp [*]; done)), (by first | rfl | (simp; done) | (simp [*]; done)), H', ⟨Nat.le_refl _⟩, ⟨by apply_rules only [HB.out, lA, lN, lD]⟩⟩)
       case round =>
        clear H'; (try clear c1); (try clear c2); (try clear c2b0); (try clear c2b1); (try clear p2); (try clear c3); (try clear c3b0); (try clear c4); (try clear c4b0); (try clear c5); (try clear c5b0); (try clear p6); (try clear q6); (try clear hx6); (try clear p2); (try clear p6); (try clear q6); obtain ⟨x3_2, x20_2, rfl, rfl, HA, HK2, HB⟩ := hrel
        cases gk with
        | zero => exact absurd HA.out (by simp [impl_Crc.l1])
        | succ k2 =>
         have H := HA.out; clear HA; simp only [impl_Crc.l1] at H; by_cases c7 : x20_2 < 8
         ·rw [if_pos c7] at H; have c7b0 : decide (x20_2 < 8) = true := decide_eq_true c7; clear c7; by_cases c8 : (Go.bits .and .u32 x3_2 1) = 1
          ·rw [if_pos c8] at H; have c8b0 : ((Go.bits .and .u32 x3_2 1) == 1) = true := beq_iff_eq.mpr c8; have c8b1 : ((Go.bits .and .u32 x3_2 1) != 1) = false := bne_eq_false_iff_eq.mpr c8; clear c8; have H' := mK H; clear H; go_wp2; go_roundg k2; (case measure => have := HK1.out; have := HK2.out; omega); (case rel => exact ⟨(Go.bits .xor .u32 (x3_2 / 2) 3988292384), (wrap64 (x20_2 + 1)), (by first | rfl | (simp; done) | (simp [*]; done)), (by first | rfl | (simp; done) | (simp [*]; done)), H', ⟨by have := HK1.out; have := HK2.out; omega⟩, ⟨by apply_rules only [HB.out, lA, lN, lD]⟩⟩)
          ·rw [if_neg c8] at H; have c8b0 : ((Go.bits .and .u32 x3_2 1) == 1) = false := beq_eq_false_iff_ne.mpr c8; have c8b1 : ((Go.bits .and .u32 x3_2 1) != 1) = true := bne_iff_ne.mpr c8; have H' := mK H; clear H; go_wp2; go_roundg k2; (case measure => have := HK1.out; have := HK2.out; omega); (case rel => exact ⟨(x3_2 / 2), (wrap64 (x20_2 + 1)), (by first | rfl | (simp; done) | (simp [*]; done)), (by first | rfl | (simp; done) | (simp [*]; done)), H', ⟨by have := HK1.out; have := HK2.out; omega⟩, ⟨by apply_rules only [HB.out, lA, lN, lD]⟩⟩)
         ·rw [if_neg c7] at H; have c7b0 : decide (x20_2 < 8) = false := decide_eq_false c7; clear c7; have H' := mK H; clear H; go_wp2; go_roundg k2; (case measure => have := HK1.out; have := HK2.out; omega); (case rel => exact ⟨(x3_2), (wrap64 (x11_1 + 1)), (by first | rfl | (simp; done) | (simp [*]; done)), (by first | rfl | (simp; done) | (simp [*]; done)), H', ⟨by have := HK1.out; have := HK2.out; omega⟩, ⟨by apply_rules only [HB.out, lA, lN, lD]⟩⟩)
      (·rw [if_neg c5] at H; exact absurd H (by simp))
     (·rw [if_neg c4] at H; exact absurd H (by simp))
    ·rw [if_neg c3] at H; have c3b0 : decide (x11_1 < (a0.size : Int)) = false := decide_eq_false c3; clear c3; replace H := Option.bind_eq_some_iff.mp H; obtain ⟨t245, A90, H⟩ := H; (try dsimp only at H); have A9 := mK A90; clear A90; obtain rfl := Option.some.inj H; go_wp2_with (first | ((with_reducible refine gate_callee (f := 149) rfl ?_); refine goesL_ (some 35) rfl rfl Tryz.func149 (by kernel_rfl) rfl #[.int .u64 (IntKind.u64.wrap (Go.bits .xor .u32 4294967295 x3_1)), .int .i64 4] rfl (by (try simp only [mT_, mC_, mN_]) <;> rfl) ?_; (with_reducible refine (impl_bigBytes.calls k1 (IntKind.u64.wrap (Go.bits .xor .u32 4294967295 x3_1)) 4 t245 _ A9.out).mono ?_); rintro e w10 ⟨rfl, hb⟩; refine ⟨_, rfl, ?_⟩; replace HB := mK (lT (by apply_rules only [HB.out, lA, lN, lD]) hb))); go_ret; exact ⟨by first | rfl | (simp [*] <;> rfl), by apply_rules only [HB.out, lA, lN, lD]⟩
end Go.Proofs.YtngccjeicolcpaaGreatDoor.PFnLogFull
