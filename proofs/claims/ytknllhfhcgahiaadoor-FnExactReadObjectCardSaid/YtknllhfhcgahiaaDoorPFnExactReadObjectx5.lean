-- by a patched copy of the print (wip/tools/patch_print.py)
import Derived.Test.YtknllhfhcgahiaaDoorPFnExactReadObjectx0
import Derived.Test.YtknllhfhcgahiaaDoorPFnExactReadObjectx4
namespace Go.Proofs.YtknllhfhcgahiaaDoor.PFnExactReadObject
open Go.RowKit Go.Proofs.YtknllhfhcgahiaaDoorW.PrintWords Go.Proofs.YtknllhfhcgahiaaDoorW.PrintLast Go.Proofs.YtknllhfhcgahiaaDoorW.PrintMore
attribute [local go_sem] max2_int min2_int max_two min_two max_three min_three max_four min_four   -- for this text's walks alone
open Go.Proofs.YtknllhfhcgahiaaDoorW.PrintWords renaming blk_drewN → bN, blk_drew → bD, blk_alloc → bA, below_alloc → lA, pw_below_drewN → lN, below_drew1 → lD, below_set → lS, below_step → lT, blk_below → bB, blk_cell → bC, blk_frozen → bF
open Go.Proofs.YtknllhfhcgahiaaDoorW.PrintWords.Aside0 renaming mk → mK
set_option linter.unusedVariables false
set_option linter.unusedSimpArgs false

/-! ### impl_RefKind: function 82 -/
def impl_RefKind.j0 : Nat → Int → Bool → Option (Int)
  | 0, _, _ => none
  | k + 1, x0, x6 => if x6 = true then (some 1) else ((impl_within.f x0 1 799).bind fun t149 => (if t149 = true then (if (Int.tmod x0 2) = 1 then (some 2) else (some (-1))) else (some (-1))))
def impl_RefKind.f (k : Nat) (a0 : Int) : Option (Int) := if a0 = 0 then (some 0) else ((impl_within.f a0 2 254).bind fun t148 => (if t148 = true then (impl_RefKind.j0 k a0 ((Int.tmod a0 2) == 0)) else (impl_RefKind.j0 k a0 false)))
theorem impl_RefKind.mono_l : ∀ k, (∀ y0 y1, LeO (impl_RefKind.j0 k y0 y1) (impl_RefKind.j0 (k + 1) y0 y1))
  | 0 => fun _ _ r h => by simp [impl_RefKind.j0] at h
  | k + 1 => by
    have ih0 := impl_RefKind.mono_l k
    · intro y0 y1
      unfold impl_RefKind.j0
      repeat' first
      | (with_reducible exact ih0 _ _)
      | (with_reducible exact LeO.refl _)
      | (with_reducible exact LeO.none _)
      | (with_reducible refine LeO.ite ?_ ?_)
      | (with_reducible refine LeO.bind ?_ (fun _ => ?_))
      | exact ih0 _ _
      | exact LeO.none _
      | refine LeO.ite ?_ ?_
      | refine LeO.bind ?_ (fun _ => ?_)
theorem impl_RefKind.mono : ∀ a0 k, LeO (impl_RefKind.f k a0) (impl_RefKind.f (k + 1) a0) := by
  intro a0 k
  have ih0 := impl_RefKind.mono_l k
  unfold impl_RefKind.f
  repeat' first
      | (with_reducible exact ih0 _ _)
      | (with_reducible exact LeO.refl _)
      | (with_reducible exact LeO.none _)
      | (with_reducible refine LeO.ite ?_ ?_)
      | (with_reducible refine LeO.bind ?_ (fun _ => ?_))
      | exact ih0 _ _
      | exact LeO.none _
      | refine LeO.ite ?_ ?_
      | refine LeO.bind ?_ (fun _ => ?_)
set_option maxHeartbeats 8000000 in
set_option maxRecDepth 100000 in
theorem impl_RefKind.calls (k : Nat) (a0 : Int) (r : Int) (w : World) (h : impl_RefKind.f k a0 = some r) :
    Calls Tryd.prog 82 #[.int .i64 a0] w fun e w' => e = .returned (.int .i64 r) ∧ Drawn0 w w' := by
 have H : (if a0 = 0 then (some 0) else ((impl_within.f a0 2 254).bind fun t148 => (if t148 = true then (impl_RefKind.j0 k a0 ((Int.tmod a0 2) == 0)) else (impl_RefKind.j0 k a0 false)))) = some r := h; clear h; by_cases c2 : a0 = 0
 ·rw [if_pos c2] at H; have c2b0 : (a0 == 0) = true := beq_iff_eq.mpr c2; have c2b1 : (a0 != 0) = false := bne_eq_false_iff_eq.mpr c2; clear c2; obtain rfl := Option.some.inj H; go_enter Tryd.func82, Tryd.ntmps82; go_wp2; go_ret; exact ⟨by first | rfl | (simp; done) | (simp [*]; done), by repeat (first | exact Drawn0.refl _ | apply Drawn0.step)⟩
 ·rw [if_neg c2] at H; have c2b0 : (a0 == 0) = false := beq_eq_false_iff_ne.mpr c2; have c2b1 : (a0 != 0) = true := bne_iff_ne.mpr c2; have HC3 := mK H; clear H; go_enter Tryd.func82, Tryd.ntmps82; go_upto_region 3 with (fail); go_cut [6] (fun v6 wc => ∃ (kq : Nat) (x6_2 : Bool), v6 = .bool x6_2 ∧ Aside0 (impl_RefKind.j0 kq a0 x6_2 = some r) ∧ Aside0 (kq ≤ k) ∧ Drawn0 w wc)
  case first =>
   have H := HC3.out; clear HC3; replace H := Option.bind_eq_some_iff.mp H; obtain ⟨t148, A40, H⟩ := H; replace H : (if t148 = true then (impl_RefKind.j0 k a0 ((Int.tmod a0 2) == 0)) else (impl_RefKind.j0 k a0 false)) = some r := H; have A4 := mK A40; clear A40; by_cases c5 : t148 = true
   ·subst c5; (have H1 : (impl_RefKind.j0 k a0 ((Int.tmod a0 2) == 0)) = some r := by rw [if_pos rfl] at H; exact H); clear H; have H := H1; clear H1; have H' := mK H; clear H; go_wp2_with (first | ((with_reducible refine gate_callee (f := 70) rfl ?_); refine goesL_ (some 8) rfl rfl Tryd.func70 (by kernel_rfl) rfl #[.int .i64 a0, .int .i64 2, .int .i64 254] rfl (by (try simp only [List.map_toArray, List.map_cons, List.map_nil]); first | done | rfl | (simp only [List.length_drop, List.length_take]; rfl)) ?_; (with_reducible refine (impl_within.calls a0 2 254 true _ A4.out).mono ?_); rintro e w' ⟨rfl, ⟨nd, rfl⟩⟩; refine ⟨_, rfl, ?_⟩)); go_meet; (case rel => exact ⟨_, (((Int.tmod a0 2) == 0)), (by first | rfl | (simp; done) | (simp [*]; done)), H', ⟨by first | omega | exact Nat.le_refl _⟩, by repeat (first | exact Drawn0.refl _ | apply Drawn0.step)⟩)
   ·replace c5 := Bool.eq_false_iff.mpr c5; subst c5; (have H1 : (impl_RefKind.j0 k a0 false) = some r := by rw [if_neg (show ¬ (false = true) by decide)] at H; exact H); clear H; have H := H1; clear H1; have H' := mK H; clear H; go_wp2_with (first | ((with_reducible refine gate_callee (f := 70) rfl ?_); refine goesL_ (some 8) rfl rfl Tryd.func70 (by kernel_rfl) rfl #[.int .i64 a0, .int .i64 2, .int .i64 254] rfl (by (try simp only [List.map_toArray, List.map_cons, List.map_nil]); first | done | rfl | (simp only [List.length_drop, List.length_take]; rfl)) ?_; (with_reducible refine (impl_within.calls a0 2 254 false _ A4.out).mono ?_); rintro e w' ⟨rfl, ⟨nd, rfl⟩⟩; refine ⟨_, rfl, ?_⟩)); go_meet; (case rel => exact ⟨_, (false), (by first | rfl | (simp; done) | (simp [*]; done)), H', ⟨by first | omega | exact Nat.le_refl _⟩, by repeat (first | exact Drawn0.refl _ | apply Drawn0.step)⟩)
  case rest =>
   clear HC3; (try clear c2); (try clear c2b0); (try clear c2b1); (try clear p2); (try clear c5); obtain ⟨kq, x6_2, rfl, HA, HJ2, ⟨mc2, rfl⟩⟩ := hcut
   cases kq with
   | zero => exact absurd HA.out (by simp [impl_RefKind.j0])
   | succ kj2 =>
    have H := HA.out; clear HA; simp only [impl_RefKind.j0] at H; by_cases c6 : x6_2 = true
    ·subst c6; (have H1 : (some 1) = some r := by rw [if_pos rfl] at H; exact H); clear H; have H := H1; clear H1; obtain rfl := Option.some.inj H; go_wp2; go_ret; exact ⟨by first | rfl | (simp; done) | (simp [*]; done), by repeat (first | exact Drawn0.refl _ | apply Drawn0.step)⟩
    ·replace c6 := Bool.eq_false_iff.mpr c6; subst c6; (have H1 : ((impl_within.f a0 1 799).bind fun t149 => (if t149 = true then (if (Int.tmod a0 2) = 1 then (some 2) else (some (-1))) else (some (-1)))) = some r := by rw [if_neg (show ¬ (false = true) by decide)] at H; exact H); clear H; have H := H1; clear H1; replace H := Option.bind_eq_some_iff.mp H; obtain ⟨t149, A70, H⟩ := H; replace H : (if t149 = true then (if (Int.tmod a0 2) = 1 then (some 2) else (some (-1))) else (some (-1))) = some r := H; have A7 := mK A70; clear A70; by_cases c8 : t149 = true
     ·subst c8; (have H1 : (if (Int.tmod a0 2) = 1 then (some 2) else (some (-1))) = some r := by rw [if_pos rfl] at H; exact H); clear H; have H := H1; clear H1; by_cases c9 : (Int.tmod a0 2) = 1
      ·rw [if_pos c9] at H; have c9b0 : ((Int.tmod a0 2) == 1) = true := beq_iff_eq.mpr c9; have c9b1 : ((Int.tmod a0 2) != 1) = false := bne_eq_false_iff_eq.mpr c9; clear c9; obtain rfl := Option.some.inj H; go_wp2_with (first | ((with_reducible refine gate_callee (f := 70) rfl ?_); refine goesL_ (some 16) rfl rfl Tryd.func70 (by kernel_rfl) rfl #[.int .i64 a0, .int .i64 1, .int .i64 799] rfl (by (try simp only [List.map_toArray, List.map_cons, List.map_nil]); first | done | rfl | (simp only [List.length_drop, List.length_take]; rfl)) ?_; (with_reducible refine (impl_within.calls a0 1 799 true _ A7.out).mono ?_); rintro e w' ⟨rfl, ⟨nd, rfl⟩⟩; refine ⟨_, rfl, ?_⟩)); go_ret; exact ⟨by first | rfl | (simp; done) | (simp [*]; done), by repeat (first | exact Drawn0.refl _ | apply Drawn0.step)⟩
      ·rw [if_neg c9] at H; have c9b0 : ((Int.tmod a0 2) == 1) = false := beq_eq_false_iff_ne.mpr c9; have c9b1 : ((Int.tmod a0 2) != 1) = true := bne_iff_ne.mpr c9; obtain rfl := Option.some.inj H; go_wp2_with (first | ((with_reducible refine gate_callee (f := 70) rfl ?_); refine goesL_ (some 16) rfl rfl Tryd.func70 (by kernel_rfl) rfl #[.int .i64 a0, .int .i64 1, .int .i64 799] rfl (by (try simp only [List.map_toArray, List.map_cons, List.map_nil]); first | done | rfl | (simp only [List.length_drop, List.length_take]; rfl)) ?_; (with_reducible refine (impl_within.calls a0 1 799 true _ A7.out).mono ?_); rintro e w' ⟨rfl, ⟨nd, rfl⟩⟩; refine ⟨_, rfl, ?_⟩)); go_ret; exact ⟨by first | rfl | (simp; done) | (simp [*]; done), by repeat (first | exact Drawn0.refl _ | apply Drawn0.step)⟩
     ·replace c8 := Bool.eq_false_iff.mpr c8; subst c8; (have H1 : (some (-1)) = some r := by rw [if_neg (show ¬ (false = true) by decide)] at H; exact H); clear H; have H := H1; clear H1; obtain rfl := Option.some.inj H; go_wp2_with (first | ((with_reducible refine gate_callee (f := 70) rfl ?_); refine goesL_ (some 16) rfl rfl Tryd.func70 (by kernel_rfl) rfl #[.int .i64 a0, .int .i64 1, .int .i64 799] rfl (by (try simp only [List.map_toArray, List.map_cons, List.map_nil]); first | done | rfl | (simp only [List.length_drop, List.length_take]; rfl)) ?_; (with_reducible refine (impl_within.calls a0 1 799 false _ A7.out).mono ?_); rintro e w' ⟨rfl, ⟨nd, rfl⟩⟩; refine ⟨_, rfl, ?_⟩)); go_ret; exact ⟨by first | rfl | (simp; done) | (simp [*]; done), by repeat (first | exact Drawn0.refl _ | apply Drawn0.step)⟩

/-! ### impl_ObjOk: function 37 -/
def impl_ObjOk.ref (n : Int) : Bool := decide (n = 0 ∨ (2 ≤ n ∧ n ≤ 254 ∧ Int.tmod n 2 = 0) ∨ (1 ≤ n ∧ n ≤ 799 ∧ Int.tmod n 2 = 1))
theorem impl_ObjOk.rk (n : Int) : ∃ r, impl_RefKind.f 9 n = some r ∧ decide (0 ≤ r) = impl_ObjOk.ref n := by
  unfold impl_RefKind.f impl_within.f impl_ObjOk.ref
  by_cases h0 : n = 0
  · simp [h0]
  · by_cases h1 : 2 ≤ n <;> by_cases h2 : n ≤ 254 <;> by_cases h3 : Int.tmod n 2 = 0 <;> by_cases h4 : 1 ≤ n <;> by_cases h5 : n ≤ 799 <;> by_cases h6 : Int.tmod n 2 = 1 <;> first | (exfalso; omega) | simp [impl_RefKind.j0, impl_within.f, h0, h1, h2, h3, h4, h5, h6]
set_option maxHeartbeats 1000000 in
theorem impl_ObjOk.closure (x : Int) (w : World) : Calls Tryd.prog 81 #[.int .i64 x] w fun e w' => e = .returned (.bool (impl_ObjOk.ref x)) ∧ Drawn0 w w' := by
  obtain ⟨r, hr, hd⟩ := impl_ObjOk.rk x
  have N1 := mK (fun W => impl_RefKind.calls 9 x r W hr)
  rw [← hd]
  clear hr hd
  go_enter Tryd.func81, Tryd.ntmps81
  go_wp2_with (go_at_call 82; (refine (N1.out _).mono ?_); rintro e w2 ⟨rfl, ⟨nd, rfl⟩⟩)
  go_ret
  exact ⟨by first | rfl | (simp; done), by repeat (first | exact Drawn0.refl _ | apply Drawn0.step)⟩
def impl_ObjOk.one (s : ByteArray) (vals : List Int) (i : Nat) : Bool := !(decide (bt s (i : Int) = 114)) || impl_ObjOk.ref (rd vals (i : Int))
def impl_ObjOk.vals (s : ByteArray) (vals : List Int) : Bool := decide ((vals.length : Int) = (s.size : Int)) && (List.range vals.length).all (impl_ObjOk.one s vals)
def impl_ObjOk.is (l : List ByteArray) (t : Int) (vals : List Int) : Bool := decide (0 ≤ t ∧ t ≤ (l.length : Int) - 1) && impl_ObjOk.vals (rdOf ByteArray.empty l t) vals
theorem impl_ObjOk.all_range {p : Nat → Bool} {n : Nat} : ((List.range n).all p = true) ↔ ∀ i, i < n → p i = true := by
  rw [List.all_eq_true]; exact ⟨fun h i hi => h i (List.mem_range.2 hi), fun h i hi => h i (List.mem_range.1 hi)⟩
set_option maxHeartbeats 4000000 in
set_option maxRecDepth 1000000 in
theorem impl_ObjOk.isObject (A : Option Addr) (c : Nat) (l : List ByteArray) (t : Int) (B : Option Addr) (d : Nat) (vs : List Int) (w : World) (hr : Kd.C Kd.string w A l.length l) (hc : l.length ≤ c) (hv : Kd.C (Kd.int .i64) w B vs.length vs) (hd : vs.length ≤ d) (hsz : l.length ≤ 12) (hs23 : ∀ s ∈ l, s.size ≤ 23) :
    Calls Tryd.prog 80 #[.slice A l.length c, .agg #[.int .i64 t, .slice B vs.length d], .func (.func 81) #[] #[]] w fun e w' => e = .returned (.bool (impl_ObjOk.is l t vs)) ∧ Below w.heap.size w w' := by
  have eg : ∀ args w, (callFunc 81 args).run Tryd.prog w = .ok (.enter 81 args) w := enters_of Tryd.func81 (by kernel_rfl) rfl
  have huO := Tryd.underlying46
  have HB := mK (Below.refl w.heap.size w)
  have NS := mK (fun W (hW : Kd.C Kd.string W A l.length l) => impl_size_string.calls A c l (l.length : Int) W hW hc rfl)
  have NW := mK (fun r W h => impl_within.calls t 0 ((l.length : Int) - 1) r W h)
  have NC := mK (fun x W => impl_ObjOk.closure x W)
  have hw1 : impl_within.f t 0 ((l.length : Int) - 1) = some (decide (0 ≤ t ∧ t ≤ (l.length : Int) - 1)) := by
    unfold impl_within.f
    by_cases h1 : t ≥ 0
    · rw [if_pos h1]; congr 1; simp [show (0 : Int) ≤ t from h1]
    · rw [if_neg h1]; congr 1; symm; simp; omega
  have HR := mK hr
  have HV := mK hv
  clear hr hv
  unfold impl_ObjOk.is
  by_cases c1 : 0 ≤ t ∧ t ≤ (l.length : Int) - 1
  · rw [decide_eq_true c1] at hw1 ⊢
    rw [Bool.true_and]
    have HW := mK hw1
    clear hw1
    obtain ⟨ad, ea, hx0⟩ := Kd.at_string HR.out t c1.1 (by omega)
    cases ea
    generalize hy : rdOf ByteArray.empty l t = s at hx0 ⊢
    have hs23' : s.size ≤ 23 := by
      rw [← hy]; unfold rdOf; rw [List.getD_eq_getElem?_getD, List.getElem?_eq_getElem (by omega)]; exact hs23 _ (List.getElem_mem _)
    clear hy hs23
    unfold impl_ObjOk.vals
    have p0 : (0 ≤ t) = True := eq_true c1.1
    have q0 : (t < (l.length : Int)) = True := eq_true (by omega)
    by_cases c2 : (vs.length : Int) = (s.size : Int)
    · rw [decide_eq_true c2, Bool.true_and]
      generalize hres : (List.range vs.length).all (impl_ObjOk.one s vs) = res
      have HRES := mK hres
      clear hres
      have c2b0 : ((vs.length : Int) == (s.size : Int)) = true := beq_iff_eq.mpr c2
      have c2b1 : ((vs.length : Int) != (s.size : Int)) = false := bne_eq_false_iff_eq.mpr c2
      have C2 := mK c2
      clear c2
      go_enter Tryd.func80, Tryd.ntmps80
      go_upto_region 1 with (first | ((with_reducible refine gate_dst (N := 4) rfl ?_); (try (refine gate_guard (by rfl) ?_; dsimp only)); refine box_event ?hg (N := 4) ?hd (cs := #[.int .i64 t, .slice B vs.length d]) (t := 46) ?hr ?_; (case hd => rfl); (case hg => rfl); (case hr => first | (go_simp; done) | (go_simp; rfl)); intro gd hg w4 hbox hb; have n0_ := mK (lT HB.out hb); have n1_ := mK hbox; clear HB; have HB := n0_; have BK := n1_; clear n0_ n1_ hb hbox hg))
      (try simp only [Act.put, sI_, s0_, sS_])
      have hcz0 : w4.cell? ⟨gd, 0, none⟩ = some (.int .i64 t) := (bC BK.out 0).trans rfl
      have hcz1 : w4.cell? ⟨gd, 1, none⟩ = some (.slice B vs.length d) := (bC BK.out 1).trans rfl
      replace hx0 := (HB.out.cell (World.block_lt_of_cell? w _ hx0)).trans hx0
      go_quiet (first | (go_at_call 71; (refine (NS.out _ ?side1).mono ?_); (case side1 => repeat (first | exact (Kd.C_below HR.out HB.out) | (with_reducible refine Kd.C_alloc ?_ _) | (with_reducible refine Kd.C_drewN ?_ _) | (with_reducible refine Kd.C_drew ?_))); rintro e w' ⟨rfl, ⟨nd, rfl⟩⟩; (try first | exact ⟨rfl, _, World.drewN_drewN _ _ _⟩ | exact ⟨rfl, _, Eq.trans (World.drewN_drewN _ _ _) (congrArg (World.drewN _) (Nat.add_assoc _ _ _))⟩)) | (go_at_call 70; (refine (NW.out _ _ HW.out).mono ?_); rintro e w' ⟨rfl, ⟨nd, rfl⟩⟩; (try first | exact ⟨rfl, _, World.drewN_drewN _ _ _⟩ | exact ⟨rfl, _, Eq.trans (World.drewN_drewN _ _ _) (congrArg (World.drewN _) (Nat.add_assoc _ _ _))⟩)))
      try go_wp2
      go_loopg [31] vs.length (fun kx s31 wr => ∃ i m : Nat, s31 = .int .i64 i ∧ wr = w4.drewN m ∧ i ≤ vs.length ∧ vs.length - i ≤ kx ∧ Aside0 (∀ j : Nat, j < i → impl_ObjOk.one s vs j = true))
      case atStart => exact ⟨0, _, rfl, rfl, Nat.zero_le _, by omega, ⟨fun j hj => absurd hj (Nat.not_lt_zero _)⟩⟩
      case round =>
        obtain ⟨i, m, rfl, rfl, hin, hg, I⟩ := hrel
        by_cases hlt : i < vs.length
        · obtain ⟨bd, eb, hv0⟩ := Kd.at_int HV.out (i : Int) (by omega) (by omega)
          cases eb
          replace hv0 := (HB.out.cell (World.block_lt_of_cell? w _ hv0)).trans hv0
          simp only [Int.toNat_natCast] at hv0
          have p1 : (0 ≤ (i : Int)) = True := eq_true (by omega)
          have q1 : ((i : Int) < (s.size : Int)) = True := eq_true (by have := C2.out; omega)
          have hx1 : ∀ h : i < s.size, ((s[i]'h).toNat : Int) = bt s (i : Int) := fun h => by have := bt_at s (i : Int) (by rw [Int.toNat_natCast]; exact h); simpa only [Int.toNat_natCast] using this
          have hx2 := bt_at s (i : Int)
          generalize hy : rd vs (i : Int) = x at hv0
          have Y := mK hy
          clear hy
          by_cases c3 : bt s (i : Int) = 114
          · have c3b0 : (bt s (i : Int) == 114) = true := beq_iff_eq.mpr c3
            have c3b1 : (bt s (i : Int) != 114) = false := bne_eq_false_iff_eq.mpr c3
            by_cases c4 : impl_ObjOk.ref x = true
            · have ON := mK (show impl_ObjOk.one s vs i = true by unfold impl_ObjOk.one; rw [Y.out, c4, Bool.or_true])
              have N1 := mK (fun W => show Calls Tryd.prog 81 #[.int .i64 x] W fun e w' => e = .returned (.bool true) ∧ Drawn0 W w' by have := NC.out x W; rw [c4] at this; exact this)
              clear c3 c4
              go_wp2_with (go_at_fn 81; (refine (N1.out _).mono ?_); rintro e w' ⟨rfl, ⟨nd, rfl⟩⟩; (try first | exact ⟨rfl, _, World.drewN_drewN _ _ _⟩ | exact ⟨rfl, _, Eq.trans (World.drewN_drewN _ _ _) (congrArg (World.drewN _) (Nat.add_assoc _ _ _))⟩))
              go_roundg (vs.length - (i + 1))
              case measure => omega
              case rel => exact ⟨i + 1, _, by rw [show wrap64 ((i : Int) + 1) = ((i + 1 : Nat) : Int) by have := C2.out; unfold wrap64; omega], rfl, by omega, Nat.le_refl _, ⟨fun j hj => by
                by_cases e : j = i
                · subst e; exact ON.out
                · exact I.out j (by omega)⟩⟩
            · have ON := mK (show impl_ObjOk.one s vs i = false by unfold impl_ObjOk.one; rw [Y.out, Bool.eq_false_iff.2 c4, decide_eq_true c3]; rfl)
              have N1 := mK (fun W => show Calls Tryd.prog 81 #[.int .i64 x] W fun e w' => e = .returned (.bool false) ∧ Drawn0 W w' by have := NC.out x W; rw [Bool.eq_false_iff.2 c4] at this; exact this)
              have RES : (List.range vs.length).all (impl_ObjOk.one s vs) = false := by
                rw [List.all_eq_false]; exact ⟨i, List.mem_range.2 hlt, by rw [ON.out]; decide⟩
              obtain rfl : res = false := by rw [← HRES.out]; exact RES
              clear c3 c4 RES
              go_wp2_with (go_at_fn 81; (refine (N1.out _).mono ?_); rintro e w' ⟨rfl, ⟨nd, rfl⟩⟩; (try first | exact ⟨rfl, _, World.drewN_drewN _ _ _⟩ | exact ⟨rfl, _, Eq.trans (World.drewN_drewN _ _ _) (congrArg (World.drewN _) (Nat.add_assoc _ _ _))⟩))
              go_ret
              exact ⟨rfl, by repeat (first | (with_reducible first | exact HB.out | apply lA | apply lN | apply lD) | exact HB.out)⟩
          · have ON := mK (show impl_ObjOk.one s vs i = true by unfold impl_ObjOk.one; rw [decide_eq_false c3]; rfl)
            have c3b0 : (bt s (i : Int) == 114) = false := beq_eq_false_iff_ne.mpr c3
            have c3b1 : (bt s (i : Int) != 114) = true := bne_iff_ne.mpr c3
            clear c3
            go_wp2
            go_roundg (vs.length - (i + 1))
            case measure => omega
            case rel => exact ⟨i + 1, _, by rw [show wrap64 ((i : Int) + 1) = ((i + 1 : Nat) : Int) by have := C2.out; unfold wrap64; omega], rfl, by omega, Nat.le_refl _, ⟨fun j hj => by
              by_cases e : j = i
              · subst e; exact ON.out
              · exact I.out j (by omega)⟩⟩
        · obtain rfl : i = vs.length := by omega
          have RES : (List.range vs.length).all (impl_ObjOk.one s vs) = true := impl_ObjOk.all_range.2 I.out
          obtain rfl : res = true := by rw [← HRES.out]; exact RES
          clear RES
          go_wp2
          go_ret
          exact ⟨rfl, by repeat (first | (with_reducible first | exact HB.out | apply lA | apply lN | apply lD) | exact HB.out)⟩
    · rw [decide_eq_false c2, Bool.false_and]
      have c2b0 : ((vs.length : Int) == (s.size : Int)) = false := beq_eq_false_iff_ne.mpr c2
      have c2b1 : ((vs.length : Int) != (s.size : Int)) = true := bne_iff_ne.mpr c2
      clear c2
      go_enter Tryd.func80, Tryd.ntmps80
      go_upto_region 1 with (first | ((with_reducible refine gate_dst (N := 4) rfl ?_); (try (refine gate_guard (by rfl) ?_; dsimp only)); refine box_event ?hg (N := 4) ?hd (cs := #[.int .i64 t, .slice B vs.length d]) (t := 46) ?hr ?_; (case hd => rfl); (case hg => rfl); (case hr => first | (go_simp; done) | (go_simp; rfl)); intro gd hg w4 hbox hb; have n0_ := mK (lT HB.out hb); have n1_ := mK hbox; clear HB; have HB := n0_; have BK := n1_; clear n0_ n1_ hb hbox hg))
      (try simp only [Act.put, sI_, s0_, sS_])
      have hcz0 : w4.cell? ⟨gd, 0, none⟩ = some (.int .i64 t) := (bC BK.out 0).trans rfl
      have hcz1 : w4.cell? ⟨gd, 1, none⟩ = some (.slice B vs.length d) := (bC BK.out 1).trans rfl
      replace hx0 := (HB.out.cell (World.block_lt_of_cell? w _ hx0)).trans hx0
      go_quiet (first | (go_at_call 71; (refine (NS.out _ ?side1).mono ?_); (case side1 => repeat (first | exact (Kd.C_below HR.out HB.out) | (with_reducible refine Kd.C_alloc ?_ _) | (with_reducible refine Kd.C_drewN ?_ _) | (with_reducible refine Kd.C_drew ?_))); rintro e w' ⟨rfl, ⟨nd, rfl⟩⟩; (try first | exact ⟨rfl, _, World.drewN_drewN _ _ _⟩ | exact ⟨rfl, _, Eq.trans (World.drewN_drewN _ _ _) (congrArg (World.drewN _) (Nat.add_assoc _ _ _))⟩)) | (go_at_call 70; (refine (NW.out _ _ HW.out).mono ?_); rintro e w' ⟨rfl, ⟨nd, rfl⟩⟩; (try first | exact ⟨rfl, _, World.drewN_drewN _ _ _⟩ | exact ⟨rfl, _, Eq.trans (World.drewN_drewN _ _ _) (congrArg (World.drewN _) (Nat.add_assoc _ _ _))⟩)))
      try go_wp2
      go_ret
      exact ⟨by first | rfl | (simp; done) | (simp [*]; done), by repeat (first | (with_reducible first | exact HB.out | apply lA | apply lN | apply lD) | exact HB.out)⟩
  · rw [decide_eq_false c1] at hw1 ⊢
    rw [Bool.false_and]
    have HW := mK hw1
    clear hw1 c1
    go_enter Tryd.func80, Tryd.ntmps80
    go_upto_region 1 with (first | ((with_reducible refine gate_dst (N := 4) rfl ?_); (try (refine gate_guard (by rfl) ?_; dsimp only)); refine box_event ?hg (N := 4) ?hd (cs := #[.int .i64 t, .slice B vs.length d]) (t := 46) ?hr ?_; (case hd => rfl); (case hg => rfl); (case hr => first | (go_simp; done) | (go_simp; rfl)); intro gd hg w4 hbox hb; have n0_ := mK (lT HB.out hb); have n1_ := mK hbox; clear HB; have HB := n0_; have BK := n1_; clear n0_ n1_ hb hbox hg))
    (try simp only [Act.put, sI_, s0_, sS_])
    have hcz0 : w4.cell? ⟨gd, 0, none⟩ = some (.int .i64 t) := (bC BK.out 0).trans rfl
    have hcz1 : w4.cell? ⟨gd, 1, none⟩ = some (.slice B vs.length d) := (bC BK.out 1).trans rfl
    go_quiet (first | (go_at_call 71; (refine (NS.out _ ?side1).mono ?_); (case side1 => repeat (first | exact (Kd.C_below HR.out HB.out) | (with_reducible refine Kd.C_alloc ?_ _) | (with_reducible refine Kd.C_drewN ?_ _) | (with_reducible refine Kd.C_drew ?_))); rintro e w' ⟨rfl, ⟨nd, rfl⟩⟩; (try first | exact ⟨rfl, _, World.drewN_drewN _ _ _⟩ | exact ⟨rfl, _, Eq.trans (World.drewN_drewN _ _ _) (congrArg (World.drewN _) (Nat.add_assoc _ _ _))⟩)) | (go_at_call 70; (refine (NW.out _ _ HW.out).mono ?_); rintro e w' ⟨rfl, ⟨nd, rfl⟩⟩; (try first | exact ⟨rfl, _, World.drewN_drewN _ _ _⟩ | exact ⟨rfl, _, Eq.trans (World.drewN_drewN _ _ _) (congrArg (World.drewN _) (Nat.add_assoc _ _ _))⟩)))
    try go_wp2
    go_ret
    exact ⟨by first | rfl | (simp; done) | (simp [*]; done), by repeat (first | (with_reducible first | exact HB.out | apply lA | apply lN | apply lD) | exact HB.out)⟩
def impl_ObjOk.g (l0 : List ByteArray) (a1_0 : Int) (l1_1 : List Int) : Bool := impl_TypesOk.g l0 && impl_ObjOk.is l0 a1_0 l1_1
def impl_ObjOk.f (l0 : List ByteArray) (a1_0 : Int) (l1_1 : List Int) : Option (Bool) := some (impl_ObjOk.g l0 a1_0 l1_1)
theorem impl_ObjOk.tys {l : List ByteArray} (h : impl_TypesOk.g l = true) : l.length ≤ 12 ∧ ∀ s ∈ l, s.size ≤ 23 := by
  unfold impl_TypesOk.g at h
  rw [Bool.and_eq_true, decide_eq_true_eq, List.all_eq_true] at h
  refine ⟨by omega, fun s hs => ?_⟩
  have := h.2 s hs
  unfold impl_isType.g at this
  rw [Bool.and_eq_true, decide_eq_true_eq] at this
  omega
set_option maxHeartbeats 1000000 in
set_option maxRecDepth 1000000 in
theorem impl_ObjOk.calls (A0 : Option Addr) (c0 : Nat) (l0 : List ByteArray) (a1_0 : Int) (A1_1 : Option Addr) (c1_1 : Nat) (l1_1 : List Int) (r : Bool) (w : World) (hr0 : Kd.C Kd.string w A0 l0.length l0) (hc0 : l0.length ≤ c0) (hr1_1 : Kd.C (Kd.int .i64) w A1_1 l1_1.length l1_1) (hc1_1 : l1_1.length ≤ c1_1) (h : impl_ObjOk.f l0 a1_0 l1_1 = some r) :
    Calls Tryd.prog 37 #[.slice A0 l0.length c0, .agg #[.int .i64 a1_0, .slice A1_1 l1_1.length c1_1]] w fun e w' => e = .returned (.bool r) ∧ Below w.heap.size w w' := by
 have huO := Tryd.underlying46; unfold impl_ObjOk.f impl_ObjOk.g at h; obtain rfl := Option.some.inj h; clear h; have HB := mK (Below.refl w.heap.size w); have HR := mK hr0; have HV := mK hr1_1; clear hr0 hr1_1; have NT := mK (fun r W (hW : Kd.C Kd.string W A0 l0.length l0) h => impl_TypesOk.calls A0 c0 l0 r W hW hc0 h); by_cases c1 : impl_TypesOk.g l0 = true
 ·have hty := impl_ObjOk.tys c1; have T1 := mK (show impl_TypesOk.f l0 = some true by unfold impl_TypesOk.f; rw [c1]); rw [c1, Bool.true_and]; have NO := mK (fun W (hW : Kd.C Kd.string W A0 l0.length l0) (hV : Kd.C (Kd.int .i64) W A1_1 l1_1.length l1_1) => impl_ObjOk.isObject A0 c0 l0 a1_0 A1_1 c1_1 l1_1 W hW hc0 hV hc1_1 hty.1 hty.2); clear c1 hty; generalize impl_ObjOk.is l0 a1_0 l1_1 = b at NO ⊢; go_enter Tryd.func37, Tryd.ntmps37; go_upto_region 1 with (first | ((with_reducible refine gate_dst (N := 3) rfl ?_); (try (refine gate_guard (by rfl) ?_; dsimp only)); refine box_event ?hg (N := 3) ?hd (cs := #[.int .i64 a1_0, .slice A1_1 l1_1.length c1_1]) (t := 46) ?hr ?_; (case hd => rfl); (case hg => rfl); (case hr => first | (go_simp; done) | (go_simp; rfl)); intro gd hg w4 hbox hb; have n0_ := mK (lT HB.out hb); have n1_ := mK hbox; clear HB; have HB := n0_; have BK := n1_; clear n0_ n1_ hb hbox hg)); (try simp only [Act.put, sI_, s0_, sS_]); have hcz0 : w4.cell? ⟨gd, 0, none⟩ = some (.int .i64 a1_0) := (bC BK.out 0).trans rfl; have hcz1 : w4.cell? ⟨gd, 1, none⟩ = some (.slice A1_1 l1_1.length c1_1) := (bC BK.out 1).trans rfl; go_wp2_with (first | (go_at_call 23; (refine (NT.out true _ (Kd.C_below HR.out HB.out) T1.out).mono ?_); rintro e w2 ⟨rfl, hb⟩; have n0_ := mK (lT HB.out hb); have n1_ := (hb.cell (World.block_lt_of_cell? _ _ hcz0)).trans hcz0; have n2_ := (hb.cell (World.block_lt_of_cell? _ _ hcz1)).trans hcz1; clear HB hcz0 hcz1; have HB := n0_; have hcz0 := n1_; have hcz1 := n2_; clear n0_ n1_ n2_ hb) | (go_at_call 80; (refine (NO.out _ (Kd.C_below HR.out HB.out) (Kd.C_below HV.out HB.out)).mono ?_); rintro e w2 ⟨rfl, hb⟩; have n0_ := mK (lT HB.out hb); clear HB; have HB := n0_; clear n0_ hb)); go_ret; exact ⟨rfl, HB.out⟩
 ·have T1 := mK (show impl_TypesOk.f l0 = some false by unfold impl_TypesOk.f; rw [Bool.eq_false_iff.2 c1]); rw [Bool.eq_false_iff.2 c1, Bool.false_and]; clear c1; go_enter Tryd.func37, Tryd.ntmps37; go_upto_region 1 with (first | ((with_reducible refine gate_dst (N := 3) rfl ?_); (try (refine gate_guard (by rfl) ?_; dsimp only)); refine box_event ?hg (N := 3) ?hd (cs := #[.int .i64 a1_0, .slice A1_1 l1_1.length c1_1]) (t := 46) ?hr ?_; (case hd => rfl); (case hg => rfl); (case hr => first | (go_simp; done) | (go_simp; rfl)); intro gd hg w4 hbox hb; have n0_ := mK (lT HB.out hb); have n1_ := mK hbox; clear HB; have HB := n0_; have BK := n1_; clear n0_ n1_ hb hbox hg)); (try simp only [Act.put, sI_, s0_, sS_]); go_wp2_with (first | (go_at_call 23; (refine (NT.out false _ (Kd.C_below HR.out HB.out) T1.out).mono ?_); rintro e w2 ⟨rfl, hb⟩; have n0_ := mK (lT HB.out hb); clear HB; have HB := n0_; clear n0_ hb)); go_ret; exact ⟨rfl, HB.out⟩


/-! ### impl_runOf: function 68 -/
def impl_runOf.f (a0 : ByteArray) : Option (Int) := some (wrap64 (Int.tdiv (wrap64 ((a0.size : Int) + 8)) 8))
set_option maxHeartbeats 8000000 in
set_option maxRecDepth 100000 in
theorem impl_runOf.calls (a0 : ByteArray) (r : Int) (w : World) (h : impl_runOf.f a0 = some r) :
    Calls Tryd.prog 68 #[.string a0] w fun e w' => e = .returned (.int .i64 r) ∧ Drawn0 w w' := by
 have H : (some (wrap64 (Int.tdiv (wrap64 ((a0.size : Int) + 8)) 8))) = some r := h; clear h; obtain rfl := Option.some.inj H; go_enter Tryd.func68, Tryd.ntmps68; go_wp2; go_ret; exact ⟨by first | rfl | (simp; done) | (simp [*]; done), by repeat (first | exact Drawn0.refl _ | apply Drawn0.step)⟩

/-! ### impl_zeros: function 98 -/
def impl_zeros.f (a0 : Int) : Option (ByteArray) := if 0 ≤ a0 then (if a0 ≤ 140737488355328 then (some (strOfNums (List.replicate a0.toNat 0))) else (none)) else (none)
theorem impl_zeros.calls_rep : ∀ n : Nat, Lib.repeatL [(0 : UInt8)] n = List.replicate n 0
  | 0 => rfl
  | n + 1 => by rw [Lib.repeatL, impl_zeros.calls_rep n]; rfl
set_option maxHeartbeats 400000 in
theorem impl_zeros.calls (a0 : Int) (r : ByteArray) (w : World) (h : impl_zeros.f a0 = some r) :
    Calls Tryd.prog 98 #[.int .i64 a0] w fun e w' => e = .returned (.string r) ∧ Below w.heap.size w w' := by
 unfold impl_zeros.f at h; by_cases h0 : 0 ≤ a0
 ·rw [if_pos h0] at h; by_cases h1 : a0 ≤ 140737488355328
  ·rw [if_pos h1] at h; obtain rfl := Option.some.inj h; clear h; obtain ⟨n, rfl⟩ := Int.eq_ofNat_of_zero_le h0; (have hc := fun W => Tryd.strings_Repeat (⟨#[0]⟩ : ByteArray) n W (by omega) (by simp [ByteArray.size]; omega))
   have e : (⟨(Lib.repeatL (⟨#[0]⟩ : ByteArray).data.toList n).toArray⟩ : ByteArray) = strOfNums (List.replicate ((n : Int)).toNat 0) := by
     show (⟨(Lib.repeatL [(0 : UInt8)] n).toArray⟩ : ByteArray) = _
     rw [impl_zeros.calls_rep]
     apply ByteArray.ext
     simp [strOfNums]
   rw [e] at hc; clear h0 h1 e; go_enter Tryd.func98, Tryd.ntmps98; go_wp2_with (go_at_call 124; (with_reducible refine (hc _).mono ?_); rintro e w' ⟨rfl, hb⟩); go_ret; exact ⟨rfl, ‹_›⟩
  (·rw [if_neg h1] at h; cases h)
 (·rw [if_neg h0] at h; cases h)


/-! ### impl_bigBytes: function 136 -/
def impl_bigBytes.l0 : Nat → Int → Int → List Int → Int → Int → Option (ByteArray)
  | 0, _, _, _, _, _ => none
  | k + 1, x0, x1, x5, x10, x11 => if x11 < x10 then (if 0 ≤ (wrap64 ((wrap64 (x1 - 1)) - x11)) then (if (wrap64 ((wrap64 (x1 - 1)) - x11)) < (x5.length : Int) then (impl_bigBytes.l0 k (x0 / 256) x1 (x5.set ((wrap64 ((wrap64 (x1 - 1)) - x11)) : Int).toNat ((x0) % 256)) x10 (wrap64 (x11 + 1))) else (none)) else (none)) else (some (strOfNums x5))
def impl_bigBytes.f (k : Nat) (a0 : Int) (a1 : Int) : Option (ByteArray) := if 0 ≤ a1 then (if (a1 : Int).toNat ≤ 281474976710656 then ((some (List.replicate (a1 : Int).toNat 0 : List Int)).bind fun y150 => (impl_bigBytes.l0 k a0 a1 y150 (y150.length : Int) 0)) else (none)) else (none)
theorem impl_bigBytes.mono_l : ∀ k, (∀ y0 y1 y2 y3 y4, LeO (impl_bigBytes.l0 k y0 y1 y2 y3 y4) (impl_bigBytes.l0 (k + 1) y0 y1 y2 y3 y4))
  | 0 => fun _ _ _ _ _ r h => by simp [impl_bigBytes.l0] at h
  | k + 1 => by
    have ih0 := impl_bigBytes.mono_l k
    · intro y0 y1 y2 y3 y4
      unfold impl_bigBytes.l0
      repeat' first
      | (with_reducible exact ih0 _ _ _ _ _)
      | (with_reducible exact LeO.refl _)
      | (with_reducible exact LeO.none _)
      | (with_reducible refine LeO.ite ?_ ?_)
      | (with_reducible refine LeO.bind ?_ (fun _ => ?_))
      | exact ih0 _ _ _ _ _
      | exact LeO.none _
      | refine LeO.ite ?_ ?_
      | refine LeO.bind ?_ (fun _ => ?_)
theorem impl_bigBytes.mono : ∀ a0 a1 k, LeO (impl_bigBytes.f k a0 a1) (impl_bigBytes.f (k + 1) a0 a1) := by
  intro a0 a1 k
  have ih0 := impl_bigBytes.mono_l k
  unfold impl_bigBytes.f
  repeat' first
      | (with_reducible exact ih0 _ _ _ _ _)
      | (with_reducible exact LeO.refl _)
      | (with_reducible exact LeO.none _)
      | (with_reducible refine LeO.ite ?_ ?_)
      | (with_reducible refine LeO.bind ?_ (fun _ => ?_))
      | exact ih0 _ _ _ _ _
      | exact LeO.none _
      | refine LeO.ite ?_ ?_
      | refine LeO.bind ?_ (fun _ => ?_)
set_option maxHeartbeats 8000000 in
set_option maxRecDepth 100000 in
theorem impl_bigBytes.calls (k : Nat) (a0 : Int) (a1 : Int) (r : ByteArray) (w : World) (h : impl_bigBytes.f k a0 a1 = some r) :
    Calls Tryd.prog 136 #[.int .u64 a0, .int .i64 a1] w fun e w' => e = .returned (.string r) ∧ Below w.heap.size w w' := by
 have HB := mK (Below.refl w.heap.size w); have H : (if 0 ≤ a1 then (if (a1 : Int).toNat ≤ 281474976710656 then ((some (List.replicate (a1 : Int).toNat 0 : List Int)).bind fun y150 => (impl_bigBytes.l0 k a0 a1 y150 (y150.length : Int) 0)) else (none)) else (none)) = some r := h; clear h; by_cases c3 : 0 ≤ a1
 ·rw [if_pos c3] at H; have c3b0 := eq_true c3; have c3b1 : decide (0 ≤ a1) = true := decide_eq_true c3; clear c3; by_cases c4 : (a1 : Int).toNat ≤ 281474976710656
  ·rw [if_pos c4] at H; have c4b0 := eq_true c4; have c4b1 : decide ((a1 : Int).toNat ≤ 281474976710656) = true := decide_eq_true c4; clear c4; obtain ⟨y150, hy150⟩ : ∃ y_ : List Int, y_ = (List.replicate (a1 : Int).toNat 0) := ⟨_, rfl⟩; (replace H : (impl_bigBytes.l0 k a0 a1 y150 (y150.length : Int) 0) = some r := by first | (rw [hy150]; with_reducible exact H) | (have H2_ := (Option.bind_some _ _).symm.trans H; rw [hy150]; with_reducible exact H2_) | (have H2_ := (Option.bind_some _ _).symm.trans H; with_reducible exact H2_) | with_reducible exact H | (rw [hy150]; exact H) | exact H); have Ny150 := mK hy150; clear hy150; have H' := mK H; clear H; go_enter Tryd.func136, Tryd.ntmps136; go_wp2_with (first | ((with_reducible refine gate_dst (N := 8) rfl ?_); refine Kd.R_make (Kd.int .u8) _ 5 rfl (N := 8) rfl 29 _ _ rfl a1 rfl rfl Tryd.underlying29 (.int .u8 0) 1 info5 rfl (by decide) (by omega) 0 (ok := fun _ => True) (okp := fun _ => True) rfl (fun _ hk => hk) trivial (of_decide_eq_true (by first | (with_reducible assumption) | assumption)) (Nat.le_trans (Nat.mul_le_mul_right _ (of_decide_eq_true (by first | (with_reducible assumption) | assumption) : a1.toNat ≤ 281474976710656)) (by omega)) (Below.refl _ _) (Nat.le_refl _) ?_; intro v151 w5 ho6 hb hg_ hnew_; clear hg_ hnew_; (first | rw [← Ny150.out] at ho6 | (simp only [Int.reduceToNat] at ho6; rw [← Ny150.out] at ho6)); have n0_ := mK (Kd.R_lower ho6 (below_size (by repeat (first | (with_reducible first | exact HB.out | apply lA | apply lN | apply lD) | exact HB.out)))); have n1_ := mK (lT (by repeat (first | (with_reducible first | exact HB.out | apply lA | apply lN | apply lD) | exact HB.out)) hb); clear HB; have HO152 := n0_; have HB := n1_; clear n0_ n1_; clear hb ho6; obtain ⟨Ao7, co7, eo7⟩ := Kd.R_slice HO152.out; subst eo7)); go_loopg [0, 11] k (fun kq v0 v11 w' => ∃ (x0_1 : Int) (x5_1 : List Int) (x11_1 : Int), v0 = .int .u64 x0_1 ∧ v11 = .int .i64 x11_1 ∧ Aside0 (impl_bigBytes.l0 kq x0_1 a1 x5_1 (y150.length : Int) x11_1 = some r) ∧ Aside0 (kq ≤ k) ∧ Aside0 (Kd.R (Kd.int .u8) 5 w' w.heap.size (fun _ => True) (.slice Ao7 y150.length co7) x5_1) ∧ Aside0 (Below w.heap.size w w')); (case atStart => exact ⟨(a0), (y150), (0), (by first | rfl | (simp; done) | (simp [*]; done)), (by first | rfl | (simp; done) | (simp [*]; done)), H', ⟨Nat.le_refl _⟩, ⟨by (with_reducible repeat (first | apply Kd.R_alloc | apply Kd.R_drewN | apply Kd.R_drew)); exact HO152.out⟩, ⟨by repeat (first | (with_reducible first | exact HB.out | apply lA | apply lN | apply lD) | exact HB.out)⟩⟩)
   case round =>
    clear H'; (try clear c1); (try clear p2); (try clear c3); (try clear c3b0); (try clear c3b1); (try clear c4); (try clear c4b0); (try clear c4b1); obtain ⟨x0_1, x5_1, x11_1, rfl, rfl, HA, HK1, HO_5, HB⟩ := hrel; have hl5_1 := (Kd.R_reads' HO_5.out).1; rw [hl5_1] at HO_5; (try simp only [hl5_1])
    cases gk with
    | zero => exact absurd HA.out (by simp [impl_bigBytes.l0])
    | succ k1 =>
     have H := HA.out; clear HA; simp only [impl_bigBytes.l0] at H; by_cases c8 : x11_1 < (y150.length : Int)
     ·rw [if_pos c8] at H; have c8b0 : decide (x11_1 < (y150.length : Int)) = true := decide_eq_true c8; (try simp only [hl5_1] at c8b0); clear c8; obtain ⟨ji9, hji9⟩ : ∃ j_ : Int, (wrap64 ((wrap64 (a1 - 1)) - x11_1)) = j_ := ⟨_, rfl⟩; (replace H : (if 0 ≤ (ji9) then (if (ji9) < (x5_1.length : Int) then (impl_bigBytes.l0 k1 (x0_1 / 256) a1 (x5_1.set ((ji9) : Int).toNat ((x0_1) % 256)) (y150.length : Int) (wrap64 (x11_1 + 1))) else (none)) else (none)) = some r := by first | (rw [hji9] at H; exact H) | (simp only [hji9] at H ⊢; exact H)); have hji9w : (IntKind.i64.wrap ((wrap64 (a1 - 1)) - x11_1)) = ji9 := (i64_w _).trans hji9; by_cases c10 : 0 ≤ (ji9)
      ·rw [if_pos c10] at H; have c10b0 : decide (0 ≤ (ji9)) = true := decide_eq_true c10; (try simp only [hl5_1] at c10b0); clear c10; by_cases c11 : (ji9) < (x5_1.length : Int)
       ·rw [if_pos c11] at H; have c11b0 : decide ((ji9) < (x5_1.length : Int)) = true := decide_eq_true c11; (try simp only [hl5_1] at c11b0); clear c11; obtain ⟨y153, hy153⟩ : ∃ y_ : List Int, y_ = (x5_1.set ((ji9) : Int).toNat ((x0_1) % 256)) := ⟨_, rfl⟩; (replace H : (impl_bigBytes.l0 k1 (x0_1 / 256) a1 y153 (y150.length : Int) (wrap64 (x11_1 + 1))) = some r := by first | (rw [hy153]; with_reducible exact H) | (have H2_ := (Option.bind_some _ _).symm.trans H; rw [hy153]; with_reducible exact H2_) | (have H2_ := (Option.bind_some _ _).symm.trans H; with_reducible exact H2_) | with_reducible exact H | (rw [hy153]; exact H) | exact H); have Ny153 := mK hy153; clear hy153; have H' := mK H; clear H; have p12 : 0 ≤ ((ji9) : Int) := of_decide_eq_true (by first | (with_reducible assumption) | assumption); have q12 : ((ji9) : Int) < ((x5_1.length : Int) : Int) := of_decide_eq_true (by first | (with_reducible assumption) | assumption); obtain ⟨go12, co12, eo12, gb12, gl12, cl12, HG12⟩ := Kd.R_form HO_5.out (by omega); (first | cases eo12 | (injection eo12 with ea_ en_ ec_; (first | subst ea_ | (injection ea_ with ea_; subst ea_)); subst ec_; clear en_)); have GB12 := mK gb12; have GG12 := mK HG12; clear gb12 gl12 HG12; obtain ⟨hx12_0, hf12_0⟩ := Kd.R_celln 0 HO_5.out ((ji9) : Int) p12 q12; replace p12 := eq_true p12; replace q12 := eq_true q12; have HP13 := Kd.R_putg HO_5.out ((ji9) : Int) ((x0_1) % 256); go_wp2_with (first | ((with_reducible refine gate_store (t := 5) (p := 21) rfl ?_); refine store_event (t := 5) (p := 21) (v := ?vo_w14) (w1 := (wr.setCell ⟨go12, ((ji9) : Int).toNat, none⟩ (.int .u8 ((x0_1) % 256)))) ?hg ?ho ?hn ?hr ?_; (case ho => rfl); (case hg => rfl); (case hn => rfl); (case hr => first | (go_simp; done) | (go_simp; rfl)); intro w14 hw; have hg : wr.grownBy w14 (some go12) := (by rw [hw]; exact HP13.2); have hp_ : Kd.R (Kd.int .u8) 5 w14 w.heap.size (fun _ => True) (.slice (some ⟨go12, 0, none⟩) x5_1.length co7) y153 := (by rw [hw, Ny153.out]; exact HP13.1); clear HP13; have n0_ := mK (hp_); have n1_ := mK ((by rw [hw]; exact lS (HB.out) GB12.out : Below w.heap.size w w14)); clear HO_5; clear HB; have HO_5 := n0_; have HB := n1_; clear n0_ n1_; clear hg hw hp_)); (try simp only [← hl5_1]); go_roundg k1; (case measure => have := HK1.out; omega); (case rel => exact ⟨(x0_1 / 256), (y153), (wrap64 (x11_1 + 1)), (by first | rfl | (simp; done) | (simp [*]; done)), (by first | rfl | (simp; done) | (simp [*]; done)), H', ⟨by have := HK1.out; omega⟩, ⟨by (try simp only [hl5_1]); (with_reducible repeat (first | apply Kd.R_alloc | apply Kd.R_drewN | apply Kd.R_drew)); exact HO_5.out⟩, ⟨by repeat (first | (with_reducible first | exact HB.out | apply lA | apply lN | apply lD) | exact HB.out)⟩⟩)
       (·rw [if_neg c11] at H; exact absurd H (by simp))
      (·rw [if_neg c10] at H; exact absurd H (by simp))
     ·rw [if_neg c8] at H; have c8b0 : decide (x11_1 < (y150.length : Int)) = false := decide_eq_false c8; (try simp only [hl5_1] at c8b0); clear c8; obtain rfl := Option.some.inj H; have hcv15 := own_string (P := Tryd.prog) Tryd.underlying29 Tryd.underlying5 Tryd.underlying9 (Kd.own_of_R HO_5.out); go_wp2; go_ret; exact ⟨by first | rfl | (simp [errW_none, errW_some] <;> rfl) | (simp [*, errW_none, errW_some] <;> rfl), by repeat (first | (with_reducible first | exact HB.out | apply lA | apply lN | apply lD) | exact HB.out)⟩
  (·rw [if_neg c4] at H; exact absurd H (by simp))
 (·rw [if_neg c3] at H; exact absurd H (by simp))

/-! ### impl_WordBytes: function 121 -/
def impl_WordBytes.f (k : Nat) (a0 : Int) : Option (ByteArray) := (impl_bigBytes.f k (IntKind.u64.wrap (a0)) 8).bind fun t154 => (some t154)
theorem impl_WordBytes.mono : ∀ a0 k, LeO (impl_WordBytes.f k a0) (impl_WordBytes.f (k + 1) a0) := by
  intro a0 k
  unfold impl_WordBytes.f
  repeat' first
      | (with_reducible exact impl_bigBytes.mono _ _ _)
      | (with_reducible exact LeO.refl _)
      | (with_reducible exact LeO.none _)
      | (with_reducible refine LeO.ite ?_ ?_)
      | (with_reducible refine LeO.bind ?_ (fun _ => ?_))
      | exact impl_bigBytes.mono _ _ _
      | exact LeO.none _
      | refine LeO.ite ?_ ?_
      | refine LeO.bind ?_ (fun _ => ?_)
set_option maxHeartbeats 8000000 in
set_option maxRecDepth 100000 in
theorem impl_WordBytes.calls (k : Nat) (a0 : Int) (r : ByteArray) (w : World) (h : impl_WordBytes.f k a0 = some r) :
    Calls Tryd.prog 121 #[.int .i64 a0] w fun e w' => e = .returned (.string r) ∧ Below w.heap.size w w' := by
 have HB := mK (Below.refl w.heap.size w); have H : ((impl_bigBytes.f k (IntKind.u64.wrap (a0)) 8).bind fun t154 => (some t154)) = some r := h; clear h; replace H := Option.bind_eq_some_iff.mp H; obtain ⟨t154, A20, H⟩ := H; replace H : (some t154) = some r := H; have A2 := mK A20; clear A20; obtain rfl := Option.some.inj H; go_enter Tryd.func121, Tryd.ntmps121; go_wp2_with (first | ((with_reducible refine gate_callee (f := 136) rfl ?_); refine goesL_ (some 5) rfl rfl Tryd.func136 (by kernel_rfl) rfl #[.int .u64 (IntKind.u64.wrap (a0)), .int .i64 8] rfl (by (try simp only [List.map_toArray, List.map_cons, List.map_nil]); first | done | rfl | (simp only [List.length_drop, List.length_take]; rfl)) ?_; (with_reducible refine (impl_bigBytes.calls k (IntKind.u64.wrap (a0)) 8 t154 _ A2.out).mono ?_); rintro e w3 ⟨rfl, hb⟩; refine ⟨_, rfl, ?_⟩; have n0_ := mK (lT (by repeat (first | (with_reducible first | exact HB.out | apply lA | apply lN | apply lD) | exact HB.out)) hb); clear HB; have HB := n0_; clear n0_; (try clear hb); (try clear hb2); (try clear hk); (try clear hi))); go_ret; exact ⟨by first | rfl | (simp [errW_none, errW_some] <;> rfl) | (simp [*, errW_none, errW_some] <;> rfl), by repeat (first | (with_reducible first | exact HB.out | apply lA | apply lN | apply lD) | exact HB.out)⟩

/-! ### impl_objectBytes: function 92 -/
def impl_objectBytes.l0 : Nat → List ByteArray → ByteArray → List Int → Int → Int → Int → List Int → Option (ByteArray)
  | 0, _, _, _, _, _, _, _ => none
  | k + 1, x0, x5, x13, x14, x15, x156000, x156001 => if x15 < x14 then (if 0 ≤ x15 then (if x15 < (x13.length : Int) then ((impl_WordBytes.f k (rd x13 x15)).bind fun t158 => (if x5.size + t158.size ≤ 9223372036854775807 then (impl_objectBytes.l0 k x0 (x5 ++ t158) x13 x14 (wrap64 (x15 + 1)) x156000 x156001) else (none))) else (none)) else (none)) else (if 0 ≤ x156000 then (if x156000 < (x0.length : Int) then ((impl_runOf.f (rdOf ByteArray.empty x0 x156000)).bind fun t160 => ((impl_zeros.f (wrap64 ((wrap64 (64 * t160)) - (x5.size : Int)))).bind fun t161 => (if x5.size + t161.size ≤ 9223372036854775807 then (some (x5 ++ t161)) else (none)))) else (none)) else (none))
def impl_objectBytes.f (k : Nat) (l0 : List ByteArray) (a1_0 : Int) (l1_1 : List Int) : Option (ByteArray) := (impl_WordBytes.f k (wrap64 (a1_0 + 1))).bind fun t156 => (impl_objectBytes.l0 k l0 t156 l1_1 (l1_1.length : Int) 0 a1_0 l1_1)
theorem impl_objectBytes.mono_l : ∀ k, (∀ y0 y1 y2 y3 y4 y5 y6, LeO (impl_objectBytes.l0 k y0 y1 y2 y3 y4 y5 y6) (impl_objectBytes.l0 (k + 1) y0 y1 y2 y3 y4 y5 y6))
  | 0 => fun _ _ _ _ _ _ _ r h => by simp [impl_objectBytes.l0] at h
  | k + 1 => by
    have ih0 := impl_objectBytes.mono_l k
    · intro y0 y1 y2 y3 y4 y5 y6
      unfold impl_objectBytes.l0
      repeat' first
      | (with_reducible exact ih0 _ _ _ _ _ _ _)
      | (with_reducible exact impl_WordBytes.mono _ _)
      | (with_reducible exact LeO.refl _)
      | (with_reducible exact LeO.none _)
      | (with_reducible refine LeO.ite ?_ ?_)
      | (with_reducible refine LeO.bind ?_ (fun _ => ?_))
      | exact ih0 _ _ _ _ _ _ _
      | exact impl_WordBytes.mono _ _
      | exact LeO.none _
      | refine LeO.ite ?_ ?_
      | refine LeO.bind ?_ (fun _ => ?_)
theorem impl_objectBytes.mono : ∀ a0 a1 a2 k, LeO (impl_objectBytes.f k a0 a1 a2) (impl_objectBytes.f (k + 1) a0 a1 a2) := by
  intro a0 a1 a2 k
  have ih0 := impl_objectBytes.mono_l k
  unfold impl_objectBytes.f
  repeat' first
      | (with_reducible exact ih0 _ _ _ _ _ _ _)
      | (with_reducible exact impl_WordBytes.mono _ _)
      | (with_reducible exact LeO.refl _)
      | (with_reducible exact LeO.none _)
      | (with_reducible refine LeO.ite ?_ ?_)
      | (with_reducible refine LeO.bind ?_ (fun _ => ?_))
      | exact ih0 _ _ _ _ _ _ _
      | exact impl_WordBytes.mono _ _
      | exact LeO.none _
      | refine LeO.ite ?_ ?_
      | refine LeO.bind ?_ (fun _ => ?_)
set_option maxHeartbeats 8000000 in
set_option maxRecDepth 100000 in
theorem impl_objectBytes.calls (k : Nat) (A0 : Option Addr) (c0 : Nat) (l0 : List ByteArray) (a1_0 : Int) (A1_1 : Option Addr) (c1_1 : Nat) (l1_1 : List Int) (r : ByteArray) (w : World) (hr0 : Kd.C Kd.string w A0 l0.length l0) (hc0 : l0.length ≤ c0) (hr1_1 : Kd.C (Kd.int .i64) w A1_1 l1_1.length l1_1) (hc1_1 : l1_1.length ≤ c1_1) (h : impl_objectBytes.f k l0 a1_0 l1_1 = some r) :
    Calls Tryd.prog 92 #[.slice A0 l0.length c0, .agg #[.int .i64 a1_0, .slice A1_1 l1_1.length c1_1]] w fun e w' => e = .returned (.string r) ∧ Below w.heap.size w w' := by
 have hu46 := Tryd.underlying46; have HR0 := mK hr0; have HC0 := mK hc0; clear hr0 hc0; have HR1_1 := mK hr1_1; have HC1_1 := mK hc1_1; clear hr1_1 hc1_1; have HB := mK (Below.refl w.heap.size w); have H : ((impl_WordBytes.f k (wrap64 (a1_0 + 1))).bind fun t156 => (impl_objectBytes.l0 k l0 t156 l1_1 (l1_1.length : Int) 0 a1_0 l1_1)) = some r := h; clear h; replace H := Option.bind_eq_some_iff.mp H; obtain ⟨t156, A30, H⟩ := H; replace H : (impl_objectBytes.l0 k l0 t156 l1_1 (l1_1.length : Int) 0 a1_0 l1_1) = some r := H; have A3 := mK A30; clear A30; have H' := mK H; clear H; go_enter Tryd.func92, Tryd.ntmps92; go_wp2_with (first | ((with_reducible refine gate_dst (N := 3) rfl ?_); refine box_event ?hg (N := 3) ?hd (cs := #[.int .i64 a1_0, .slice A1_1 l1_1.length c1_1]) (t := 46) ?hr ?_; (case hd => rfl); (case hg => rfl); (case hr => first | (go_simp; done) | (go_simp; rfl)); intro gb155 hg w4 hbox hb; have n0_ := mK (lT (by repeat (first | (with_reducible first | exact HB.out | apply lA | apply lN | apply lD) | exact HB.out)) hb); have n1_ := mK (hbox); have n2_ := mK ((by rw [hg]; exact (below_size (by repeat (first | (with_reducible first | exact HB.out | apply lA | apply lN | apply lD) | exact HB.out))) : w.heap.size ≤ gb155)); have n3_ := mK ((by rw [hg]; exact (below_size (by repeat (first | (with_reducible first | exact HB.out | apply lA | apply lN | apply lD) | exact HB.out))) : w.heap.size ≤ gb155)); clear HB; have HB := n0_; have BK155 := n1_; have GW155 := n2_; have GE155 := n3_; clear n0_ n1_ n2_ n3_; clear hb hbox hg; have hcz5_0 : w4.cell? ⟨gb155, 0, none⟩ = some (.int .i64 a1_0) := (bC BK155.out 0).trans rfl; have hcz5_1 : w4.cell? ⟨gb155, 1, none⟩ = some (.slice A1_1 l1_1.length c1_1) := (bC BK155.out 1).trans rfl; have hfz5_0 := bF BK155.out 0; have hfz5_1 := bF BK155.out 1) | ((with_reducible refine gate_callee (f := 121) rfl ?_); refine goesL_ (some 11) rfl rfl Tryd.func121 (by kernel_rfl) rfl #[.int .i64 (wrap64 (a1_0 + 1))] rfl (by (try simp only [List.map_toArray, List.map_cons, List.map_nil]); first | done | rfl | (simp only [List.length_drop, List.length_take]; rfl) | ((try simp only [decide_eq_false_iff_not, decide_eq_true_eq, eq_iff_iff, iff_true, iff_false, Int.not_lt, Int.not_le, Nat.not_lt, Nat.not_le, ByteArray.size_append, ByteArray.size_extract] at *); (rw [show wrap64 (a1_0 + 1) = a1_0 + 1 from by unfold Go.RowKit.wrap64; omega]); rfl)) ?_; (with_reducible refine (impl_WordBytes.calls k (wrap64 (a1_0 + 1)) t156 _ A3.out).mono ?_); rintro e w6 ⟨rfl, hb⟩; refine ⟨_, rfl, ?_⟩; have n0_ := mK (bB (g := gb155) (o := .cells #[.int .i64 a1_0, .slice A1_1 l1_1.length c1_1] 46 (0, 0)) (by (with_reducible repeat (first | apply bN | apply bD | apply bA)); exact BK155.out) hb); have n1_ := mK (lT (by repeat (first | (with_reducible first | exact HB.out | apply lA | apply lN | apply lD | refine lS ?_ GE155.out) | exact HB.out)) hb); clear BK155; clear HB; have BK155 := n0_; have HB := n1_; clear n0_ n1_; (try clear hb); (try clear hb2); (try clear hk); (try clear hi); have hcz7_0 : w6.cell? ⟨gb155, 0, none⟩ = some (.int .i64 a1_0) := (bC BK155.out 0).trans rfl; have hcz7_1 : w6.cell? ⟨gb155, 1, none⟩ = some (.slice A1_1 l1_1.length c1_1) := (bC BK155.out 1).trans rfl; have hfz7_0 := bF BK155.out 0; have hfz7_1 := bF BK155.out 1)); go_loopg [5, 15] k (fun kq v5 v15 w' => ∃ (x5_1 : ByteArray) (x15_1 : Int), v5 = .string x5_1 ∧ v15 = .int .i64 x15_1 ∧ Aside0 (impl_objectBytes.l0 kq l0 x5_1 l1_1 (l1_1.length : Int) x15_1 a1_0 l1_1 = some r) ∧ Aside0 (kq ≤ k) ∧ Aside0 (w'.heap[gb155]? = some (.cells #[.int .i64 a1_0, (.slice A1_1 l1_1.length c1_1)] 46 (0, 0))) ∧ Aside0 (Below w.heap.size w w')); (case atStart => exact ⟨(t156), (0), (by first | rfl | (simp; done) | (simp [*]; done)), (by first | rfl | (simp; done) | (simp [*]; done)), H', ⟨Nat.le_refl _⟩, ⟨by (with_reducible repeat (first | apply bN | apply bD | apply bA)); exact BK155.out⟩, ⟨by repeat (first | (with_reducible first | exact HB.out | apply lA | apply lN | apply lD | refine lS ?_ GE155.out) | exact HB.out)⟩⟩)
 case round =>
  clear H'; (try clear c1); (try clear p2); (try clear p6); (try clear hcz5_0); (try clear hcz5_1); (try clear hcz7_0); (try clear hcz7_1); (try clear hfz5_0); (try clear hfz5_1); (try clear hfz7_0); (try clear hfz7_1); obtain ⟨x5_1, x15_1, rfl, rfl, HA, HK1, BK155, HB⟩ := hrel
  cases gk with
  | zero => exact absurd HA.out (by simp [impl_objectBytes.l0])
  | succ k1 =>
   have H := HA.out; clear HA; simp only [impl_objectBytes.l0] at H; by_cases c8 : x15_1 < (l1_1.length : Int)
   ·rw [if_pos c8] at H; have c8b0 : decide (x15_1 < (l1_1.length : Int)) = true := decide_eq_true c8; clear c8; by_cases c9 : 0 ≤ x15_1
    ·rw [if_pos c9] at H; have c9b0 : decide (0 ≤ x15_1) = true := decide_eq_true c9; clear c9; by_cases c10 : x15_1 < (l1_1.length : Int)
     ·rw [if_pos c10] at H; have c10b0 : decide (x15_1 < (l1_1.length : Int)) = true := decide_eq_true c10; clear c10; replace H := Option.bind_eq_some_iff.mp H; obtain ⟨t158, A110, H⟩ := H; replace H : (if x5_1.size + t158.size ≤ 9223372036854775807 then (impl_objectBytes.l0 k1 l0 (x5_1 ++ t158) l1_1 (l1_1.length : Int) (wrap64 (x15_1 + 1)) a1_0 l1_1) else (none)) = some r := H; have A11 := mK A110; clear A110; by_cases c12 : x5_1.size + t158.size ≤ 9223372036854775807
      ·rw [if_pos c12] at H; have c12b0 := eq_true c12; have c12b1 : decide (x5_1.size + t158.size ≤ 9223372036854775807) = true := decide_eq_true c12; (try have c12b2 : (9223372036854775807 < x5_1.size + t158.size) = False := eq_false (Nat.not_lt.2 c12)); have H' := mK H; clear H; have p157 : 0 ≤ (x15_1 : Int) := of_decide_eq_true (by first | (with_reducible assumption) | assumption); have q157 : x15_1 < (l1_1.length : Int) := of_decide_eq_true (by first | (with_reducible assumption) | assumption); obtain ⟨ad157, e157, hx157_0⟩ := Kd.at_int HR1_1.out x15_1 p157 q157; cases e157; replace hx157_0 := (HB.out.cell (World.block_lt_of_cell? w _ hx157_0)).trans hx157_0; replace p157 := eq_true p157; replace q157 := eq_true q157; go_wp2_with (first | ((with_reducible refine gate_callee (f := 121) rfl ?_); refine goesL_ (some 21) rfl rfl Tryd.func121 (by kernel_rfl) rfl #[.int .i64 (rd l1_1 x15_1)] rfl (by (try simp only [List.map_toArray, List.map_cons, List.map_nil]); first | done | rfl | (simp only [List.length_drop, List.length_take]; rfl)) ?_; (with_reducible refine (impl_WordBytes.calls k1 (rd l1_1 x15_1) t158 _ A11.out).mono ?_); rintro e w13 ⟨rfl, hb⟩; refine ⟨_, rfl, ?_⟩; have n0_ := mK (bB (g := gb155) (o := .cells #[.int .i64 a1_0, .slice (some ad157) l1_1.length c1_1] 46 (0, 0)) (by (with_reducible repeat (first | apply bN | apply bD | apply bA)); exact BK155.out) hb); have n1_ := mK (lT (by repeat (first | (with_reducible first | exact HB.out | apply lA | apply lN | apply lD | refine lS ?_ GE155.out) | exact HB.out)) hb); clear BK155; clear HB; have BK155 := n0_; have HB := n1_; clear n0_ n1_; (try clear hb); (try clear hb2); (try clear hk); (try clear hi))); go_roundg k1; (case measure => have := HK1.out; omega); (case rel => exact ⟨(x5_1 ++ t158), (wrap64 (x15_1 + 1)), (by first | rfl | (simp; done) | (simp [*]; done)), (by first | rfl | (simp; done) | (simp [*]; done)), H', ⟨by have := HK1.out; omega⟩, ⟨by (with_reducible repeat (first | apply bN | apply bD | apply bA)); exact BK155.out⟩, ⟨by repeat (first | (with_reducible first | exact HB.out | apply lA | apply lN | apply lD | refine lS ?_ GE155.out) | exact HB.out)⟩⟩)
      (·rw [if_neg c12] at H; exact absurd H (by simp))
     (·rw [if_neg c10] at H; exact absurd H (by simp))
    (·rw [if_neg c9] at H; exact absurd H (by simp))
   ·rw [if_neg c8] at H; have c8b0 : decide (x15_1 < (l1_1.length : Int)) = false := decide_eq_false c8; clear c8; by_cases c14 : 0 ≤ a1_0
    ·rw [if_pos c14] at H; have c14b0 : decide (0 ≤ a1_0) = true := decide_eq_true c14; clear c14; by_cases c15 : a1_0 < (l0.length : Int)
     ·rw [if_pos c15] at H; have c15b0 : decide (a1_0 < (l0.length : Int)) = true := decide_eq_true c15; clear c15; replace H := Option.bind_eq_some_iff.mp H; obtain ⟨t160, A160, H⟩ := H; replace H : ((impl_zeros.f (wrap64 ((wrap64 (64 * t160)) - (x5_1.size : Int)))).bind fun t161 => (if x5_1.size + t161.size ≤ 9223372036854775807 then (some (x5_1 ++ t161)) else (none))) = some r := H; have A16 := mK A160; clear A160; replace H := Option.bind_eq_some_iff.mp H; obtain ⟨t161, A170, H⟩ := H; replace H : (if x5_1.size + t161.size ≤ 9223372036854775807 then (some (x5_1 ++ t161)) else (none)) = some r := H; have A17 := mK A170; clear A170; by_cases c18 : x5_1.size + t161.size ≤ 9223372036854775807
      ·rw [if_pos c18] at H; have c18b0 := eq_true c18; have c18b1 : decide (x5_1.size + t161.size ≤ 9223372036854775807) = true := decide_eq_true c18; (try have c18b2 : (9223372036854775807 < x5_1.size + t161.size) = False := eq_false (Nat.not_lt.2 c18)); obtain rfl := Option.some.inj H; have hcz19_0 : wr.cell? ⟨gb155, 0, none⟩ = some (.int .i64 a1_0) := (bC BK155.out 0).trans rfl; have hcz19_1 : wr.cell? ⟨gb155, 1, none⟩ = some (.slice A1_1 l1_1.length c1_1) := (bC BK155.out 1).trans rfl; have hfz19_0 := bF BK155.out 0; have hfz19_1 := bF BK155.out 1; have p159 : 0 ≤ (a1_0 : Int) := of_decide_eq_true (by first | (with_reducible assumption) | assumption); have q159 : a1_0 < (l0.length : Int) := of_decide_eq_true (by first | (with_reducible assumption) | assumption); obtain ⟨ad159, e159, hx159_0⟩ := Kd.at_string HR0.out a1_0 p159 q159; cases e159; replace hx159_0 := (HB.out.cell (World.block_lt_of_cell? w _ hx159_0)).trans hx159_0; replace p159 := eq_true p159; replace q159 := eq_true q159; go_wp2_with (first | ((with_reducible refine gate_callee (f := 68) rfl ?_); refine goesL_ (some 30) rfl rfl Tryd.func68 (by kernel_rfl) rfl #[.string (rdOf ByteArray.empty l0 a1_0)] rfl (by (try simp only [List.map_toArray, List.map_cons, List.map_nil]); first | done | rfl | (simp only [List.length_drop, List.length_take]; rfl)) ?_; (with_reducible refine (impl_runOf.calls (rdOf ByteArray.empty l0 a1_0) t160 _ A16.out).mono ?_); rintro e w' ⟨rfl, ⟨nd, rfl⟩⟩; refine ⟨_, rfl, ?_⟩) | ((with_reducible refine gate_callee (f := 98) rfl ?_); refine goesL_ (some 35) rfl rfl Tryd.func98 (by kernel_rfl) rfl #[.int .i64 (wrap64 ((wrap64 (64 * t160)) - (x5_1.size : Int)))] rfl (by (try simp only [List.map_toArray, List.map_cons, List.map_nil]); first | done | rfl | (simp only [List.length_drop, List.length_take]; rfl) | ((try simp only [decide_eq_false_iff_not, decide_eq_true_eq, eq_iff_iff, iff_true, iff_false, Int.not_lt, Int.not_le, Nat.not_lt, Nat.not_le, ByteArray.size_append, ByteArray.size_extract] at *); (rw [show wrap64 (64 * t160) = 64 * t160 from by unfold Go.RowKit.wrap64; omega]); rfl) | ((try simp only [decide_eq_false_iff_not, decide_eq_true_eq, eq_iff_iff, iff_true, iff_false, Int.not_lt, Int.not_le, Nat.not_lt, Nat.not_le, ByteArray.size_append, ByteArray.size_extract] at *); (rw [show wrap64 (64 * t160) = 64 * t160 from by unfold Go.RowKit.wrap64; omega, show wrap64 (((64 * t160)) - (x5_1.size : Int)) = ((64 * t160)) - (x5_1.size : Int) from by unfold Go.RowKit.wrap64; omega]); rfl)) ?_; (with_reducible refine (impl_zeros.calls (wrap64 ((wrap64 (64 * t160)) - (x5_1.size : Int))) t161 _ A17.out).mono ?_); rintro e w20 ⟨rfl, hb⟩; refine ⟨_, rfl, ?_⟩; have n0_ := mK (bB (g := gb155) (o := .cells #[.int .i64 a1_0, .slice A1_1 l1_1.length c1_1] 46 (0, 0)) (by (with_reducible repeat (first | apply bN | apply bD | apply bA)); exact BK155.out) hb); have n1_ := mK (lT (by repeat (first | (with_reducible first | exact HB.out | apply lA | apply lN | apply lD | refine lS ?_ GE155.out) | exact HB.out)) hb); clear BK155; clear HB; have BK155 := n0_; have HB := n1_; clear n0_ n1_; (try clear hb); (try clear hb2); (try clear hk); (try clear hi))); go_ret; exact ⟨by first | rfl | (simp [errW_none, errW_some] <;> rfl) | (simp [*, errW_none, errW_some] <;> rfl), by repeat (first | (with_reducible first | exact HB.out | apply lA | apply lN | apply lD | refine lS ?_ GE155.out) | exact HB.out)⟩
      (·rw [if_neg c18] at H; exact absurd H (by simp))
     (·rw [if_neg c15] at H; exact absurd H (by simp))
    (·rw [if_neg c14] at H; exact absurd H (by simp))

/-! ### impl_ObjectBytes: function 48 -/
def impl_ObjectBytes.f (k : Nat) (l0 : List ByteArray) (a1_0 : Int) (l1_1 : List Int) : Option (ByteArray) := (impl_ObjOk.f l0 a1_0 l1_1).bind fun t163 => (if t163 = true then ((impl_objectBytes.f k l0 a1_0 l1_1).bind fun t164 => (some t164)) else (some (⟨#[]⟩ : ByteArray)))
theorem impl_ObjectBytes.mono : ∀ a0 a1 a2 k, LeO (impl_ObjectBytes.f k a0 a1 a2) (impl_ObjectBytes.f (k + 1) a0 a1 a2) := by
  intro a0 a1 a2 k
  unfold impl_ObjectBytes.f
  repeat' first
      | (with_reducible exact impl_objectBytes.mono _ _ _ _)
      | (with_reducible exact LeO.refl _)
      | (with_reducible exact LeO.none _)
      | (with_reducible refine LeO.ite ?_ ?_)
      | (with_reducible refine LeO.bind ?_ (fun _ => ?_))
      | exact impl_objectBytes.mono _ _ _ _
      | exact LeO.none _
      | refine LeO.ite ?_ ?_
      | refine LeO.bind ?_ (fun _ => ?_)
set_option maxHeartbeats 8000000 in
set_option maxRecDepth 100000 in
theorem impl_ObjectBytes.calls (k : Nat) (A0 : Option Addr) (c0 : Nat) (l0 : List ByteArray) (a1_0 : Int) (A1_1 : Option Addr) (c1_1 : Nat) (l1_1 : List Int) (r : ByteArray) (w : World) (hr0 : Kd.C Kd.string w A0 l0.length l0) (hc0 : l0.length ≤ c0) (hr1_1 : Kd.C (Kd.int .i64) w A1_1 l1_1.length l1_1) (hc1_1 : l1_1.length ≤ c1_1) (h : impl_ObjectBytes.f k l0 a1_0 l1_1 = some r) :
    Calls Tryd.prog 48 #[.slice A0 l0.length c0, .agg #[.int .i64 a1_0, .slice A1_1 l1_1.length c1_1]] w fun e w' => e = .returned (.string r) ∧ Below w.heap.size w w' := by
 have hu46 := Tryd.underlying46; have HR0 := mK hr0; have HC0 := mK hc0; clear hr0 hc0; have HR1_1 := mK hr1_1; have HC1_1 := mK hc1_1; clear hr1_1 hc1_1; have HB := mK (Below.refl w.heap.size w); have H : ((impl_ObjOk.f l0 a1_0 l1_1).bind fun t163 => (if t163 = true then ((impl_objectBytes.f k l0 a1_0 l1_1).bind fun t164 => (some t164)) else (some (⟨#[]⟩ : ByteArray)))) = some r := h; clear h; replace H := Option.bind_eq_some_iff.mp H; obtain ⟨t163, A30, H⟩ := H; replace H : (if t163 = true then ((impl_objectBytes.f k l0 a1_0 l1_1).bind fun t164 => (some t164)) else (some (⟨#[]⟩ : ByteArray))) = some r := H; have A3 := mK A30; clear A30; by_cases c4 : t163 = true
 ·subst c4; (have H1 : ((impl_objectBytes.f k l0 a1_0 l1_1).bind fun t164 => (some t164)) = some r := by rw [if_pos rfl] at H; exact H); clear H; have H := H1; clear H1; replace H := Option.bind_eq_some_iff.mp H; obtain ⟨t164, A50, H⟩ := H; replace H : (some t164) = some r := H; have A5 := mK A50; clear A50; obtain rfl := Option.some.inj H; go_enter Tryd.func48, Tryd.ntmps48; go_wp2_with (first | ((with_reducible refine gate_dst (N := 3) rfl ?_); refine box_event ?hg (N := 3) ?hd (cs := #[.int .i64 a1_0, .slice A1_1 l1_1.length c1_1]) (t := 46) ?hr ?_; (case hd => rfl); (case hg => rfl); (case hr => first | (go_simp; done) | (go_simp; rfl)); intro gb162 hg w6 hbox hb; have n0_ := mK (lT (by repeat (first | (with_reducible first | exact HB.out | apply lA | apply lN | apply lD) | exact HB.out)) hb); have n1_ := mK (hbox); have n2_ := mK ((by rw [hg]; exact (below_size (by repeat (first | (with_reducible first | exact HB.out | apply lA | apply lN | apply lD) | exact HB.out))) : w.heap.size ≤ gb162)); have n3_ := mK ((by rw [hg]; exact (below_size (by repeat (first | (with_reducible first | exact HB.out | apply lA | apply lN | apply lD) | exact HB.out))) : w.heap.size ≤ gb162)); clear HB; have HB := n0_; have BK162 := n1_; have GW162 := n2_; have GE162 := n3_; clear n0_ n1_ n2_ n3_; clear hb hbox hg; have hcz7_0 : w6.cell? ⟨gb162, 0, none⟩ = some (.int .i64 a1_0) := (bC BK162.out 0).trans rfl; have hcz7_1 : w6.cell? ⟨gb162, 1, none⟩ = some (.slice A1_1 l1_1.length c1_1) := (bC BK162.out 1).trans rfl; have hfz7_0 := bF BK162.out 0; have hfz7_1 := bF BK162.out 1) | ((with_reducible refine gate_callee (f := 37) rfl ?_); refine goesL_ (some 7) rfl rfl Tryd.func37 (by kernel_rfl) rfl #[.slice A0 l0.length c0, .agg #[.int .i64 a1_0, .slice A1_1 l1_1.length c1_1]] rfl (by (try simp only [List.map_toArray, List.map_cons, List.map_nil]); first | done | rfl | (simp only [List.length_drop, List.length_take]; rfl)) ?_; (with_reducible refine (impl_ObjOk.calls _ _ l0 a1_0 _ _ l1_1 true _ ?side1 ?side2 ?side3 ?side4 A3.out).mono ?_); (case side1 => repeat (first | exact (Kd.C_below HR0.out HB.out) | (with_reducible refine Kd.C_alloc ?_ _) | (with_reducible refine Kd.C_drewN ?_ _) | (with_reducible refine Kd.C_drew ?_))); (case side2 => exact HC0.out); (case side3 => repeat (first | exact (Kd.C_below HR1_1.out HB.out) | (with_reducible refine Kd.C_alloc ?_ _) | (with_reducible refine Kd.C_drewN ?_ _) | (with_reducible refine Kd.C_drew ?_))); (case side4 => exact HC1_1.out); rintro e w8 ⟨rfl, hb⟩; refine ⟨_, rfl, ?_⟩; have n0_ := mK (bB (g := gb162) (o := .cells #[.int .i64 a1_0, .slice A1_1 l1_1.length c1_1] 46 (0, 0)) (by (with_reducible repeat (first | apply bN | apply bD | apply bA)); exact BK162.out) hb); have n1_ := mK (lT (by repeat (first | (with_reducible first | exact HB.out | apply lA | apply lN | apply lD | refine lS ?_ GE162.out) | exact HB.out)) hb); clear BK162; clear HB; have BK162 := n0_; have HB := n1_; clear n0_ n1_; (try clear hb); (try clear hb2); (try clear hk); (try clear hi); have hcz9_0 : w8.cell? ⟨gb162, 0, none⟩ = some (.int .i64 a1_0) := (bC BK162.out 0).trans rfl; have hcz9_1 : w8.cell? ⟨gb162, 1, none⟩ = some (.slice A1_1 l1_1.length c1_1) := (bC BK162.out 1).trans rfl; have hfz9_0 := bF BK162.out 0; have hfz9_1 := bF BK162.out 1) | ((with_reducible refine gate_callee (f := 92) rfl ?_); refine goesL_ (some 11) rfl rfl Tryd.func92 (by kernel_rfl) rfl #[.slice A0 l0.length c0, .agg #[.int .i64 a1_0, .slice A1_1 l1_1.length c1_1]] rfl (by (try simp only [List.map_toArray, List.map_cons, List.map_nil]); first | done | rfl | (simp only [List.length_drop, List.length_take]; rfl)) ?_; (with_reducible refine (impl_objectBytes.calls k _ _ l0 a1_0 _ _ l1_1 t164 _ ?side1 ?side2 ?side3 ?side4 A5.out).mono ?_); (case side1 => repeat (first | exact (Kd.C_below HR0.out HB.out) | (with_reducible refine Kd.C_alloc ?_ _) | (with_reducible refine Kd.C_drewN ?_ _) | (with_reducible refine Kd.C_drew ?_))); (case side2 => exact HC0.out); (case side3 => repeat (first | exact (Kd.C_below HR1_1.out HB.out) | (with_reducible refine Kd.C_alloc ?_ _) | (with_reducible refine Kd.C_drewN ?_ _) | (with_reducible refine Kd.C_drew ?_))); (case side4 => exact HC1_1.out); rintro e w10 ⟨rfl, hb⟩; refine ⟨_, rfl, ?_⟩; have n0_ := mK (bB (g := gb162) (o := .cells #[.int .i64 a1_0, .slice A1_1 l1_1.length c1_1] 46 (0, 0)) (by (with_reducible repeat (first | apply bN | apply bD | apply bA)); exact BK162.out) hb); have n1_ := mK (lT (by repeat (first | (with_reducible first | exact HB.out | apply lA | apply lN | apply lD | refine lS ?_ GE162.out) | exact HB.out)) hb); clear BK162; clear HB; have BK162 := n0_; have HB := n1_; clear n0_ n1_; (try clear hb); (try clear hb2); (try clear hk); (try clear hi))); go_ret; exact ⟨by first | rfl | (simp [errW_none, errW_some] <;> rfl) | (simp [*, errW_none, errW_some] <;> rfl), by repeat (first | (with_reducible first | exact HB.out | apply lA | apply lN | apply lD | refine lS ?_ GE162.out) | exact HB.out)⟩
 ·replace c4 := Bool.eq_false_iff.mpr c4; subst c4; (have H1 : (some (⟨#[]⟩ : ByteArray)) = some r := by rw [if_neg (show ¬ (false = true) by decide)] at H; exact H); clear H; have H := H1; clear H1; obtain rfl := Option.some.inj H; go_enter Tryd.func48, Tryd.ntmps48; go_wp2_with (first | ((with_reducible refine gate_dst (N := 3) rfl ?_); refine box_event ?hg (N := 3) ?hd (cs := #[.int .i64 a1_0, .slice A1_1 l1_1.length c1_1]) (t := 46) ?hr ?_; (case hd => rfl); (case hg => rfl); (case hr => first | (go_simp; done) | (go_simp; rfl)); intro gb162 hg w11 hbox hb; have n0_ := mK (lT (by repeat (first | (with_reducible first | exact HB.out | apply lA | apply lN | apply lD) | exact HB.out)) hb); have n1_ := mK (hbox); have n2_ := mK ((by rw [hg]; exact (below_size (by repeat (first | (with_reducible first | exact HB.out | apply lA | apply lN | apply lD) | exact HB.out))) : w.heap.size ≤ gb162)); have n3_ := mK ((by rw [hg]; exact (below_size (by repeat (first | (with_reducible first | exact HB.out | apply lA | apply lN | apply lD) | exact HB.out))) : w.heap.size ≤ gb162)); clear HB; have HB := n0_; have BK162 := n1_; have GW162 := n2_; have GE162 := n3_; clear n0_ n1_ n2_ n3_; clear hb hbox hg; have hcz12_0 : w11.cell? ⟨gb162, 0, none⟩ = some (.int .i64 a1_0) := (bC BK162.out 0).trans rfl; have hcz12_1 : w11.cell? ⟨gb162, 1, none⟩ = some (.slice A1_1 l1_1.length c1_1) := (bC BK162.out 1).trans rfl; have hfz12_0 := bF BK162.out 0; have hfz12_1 := bF BK162.out 1) | ((with_reducible refine gate_callee (f := 37) rfl ?_); refine goesL_ (some 7) rfl rfl Tryd.func37 (by kernel_rfl) rfl #[.slice A0 l0.length c0, .agg #[.int .i64 a1_0, .slice A1_1 l1_1.length c1_1]] rfl (by (try simp only [List.map_toArray, List.map_cons, List.map_nil]); first | done | rfl | (simp only [List.length_drop, List.length_take]; rfl)) ?_; (with_reducible refine (impl_ObjOk.calls _ _ l0 a1_0 _ _ l1_1 false _ ?side1 ?side2 ?side3 ?side4 A3.out).mono ?_); (case side1 => repeat (first | exact (Kd.C_below HR0.out HB.out) | (with_reducible refine Kd.C_alloc ?_ _) | (with_reducible refine Kd.C_drewN ?_ _) | (with_reducible refine Kd.C_drew ?_))); (case side2 => exact HC0.out); (case side3 => repeat (first | exact (Kd.C_below HR1_1.out HB.out) | (with_reducible refine Kd.C_alloc ?_ _) | (with_reducible refine Kd.C_drewN ?_ _) | (with_reducible refine Kd.C_drew ?_))); (case side4 => exact HC1_1.out); rintro e w13 ⟨rfl, hb⟩; refine ⟨_, rfl, ?_⟩; have n0_ := mK (bB (g := gb162) (o := .cells #[.int .i64 a1_0, .slice A1_1 l1_1.length c1_1] 46 (0, 0)) (by (with_reducible repeat (first | apply bN | apply bD | apply bA)); exact BK162.out) hb); have n1_ := mK (lT (by repeat (first | (with_reducible first | exact HB.out | apply lA | apply lN | apply lD | refine lS ?_ GE162.out) | exact HB.out)) hb); clear BK162; clear HB; have BK162 := n0_; have HB := n1_; clear n0_ n1_; (try clear hb); (try clear hb2); (try clear hk); (try clear hi))); go_ret; exact ⟨by first | rfl | (simp [errW_none, errW_some] <;> rfl) | (simp [*, errW_none, errW_some] <;> rfl), by repeat (first | (with_reducible first | exact HB.out | apply lA | apply lN | apply lD | refine lS ?_ GE162.out) | exact HB.out)⟩

end Go.Proofs.YtknllhfhcgahiaaDoor.PFnExactReadObject
