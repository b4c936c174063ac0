-- the row of a law, by wip/lawdev3.py
import Derived.Test.YtknllhfhcgahiaaDoorFacts
import Derived.Test.YtknllhfhcgahiaaDoorOFnExactForwarded
import Derived.Test.YtknllhfhcgahiaaDoorRows
import Derived.Test.YtknllhfhcgahiaaDoorMet
import Derived.Test.YtknllhfhcgahiaaDoorTie
import Derived.Test.YtknllhfhcgahiaaDoorCards
import Derived.SevenTiedAt
import Derived.Stop.Joined
import Derived.Test.YtknllhfhcgahiaaDoorPFnExactForwardedx6
import Derived.Test.YtknllhfhcgahiaaDoorPureFnExactForwarded
import Derived.WalkKit
import Derived.ProofKit
import Derived.OpenShut
import Derived.ShutString
import Derived.ChangeOld
import Derived.Below
import Derived.SizedLaws
import Derived.Lib.SmallJoins
namespace Go.Proofs.YtknllhfhcgahiaaDoor.fnExactForwarded
open Go.Proofs.YtknllhfhcgahiaaDoorW.PrintWords
open Go.ChangeShapes Go.WideShapes Go.ChangeAt Go.RowKit Go.Joins
open Go.ChangeMaps (open_string shut_string)
set_option linter.unusedVariables false
theorem own : ownKnob Tryd.prog.godebug = none := by kernel_rfl
theorem laidOut : laidOutB Tryd.prog = true := Facts.laid
set_option maxRecDepth 100000 in
theorem lifted (os : Os) (started : os.Started) (H : Type) (enc : TypeId × Value → H) :
    ReturnsInHanded {} Tryd.checked os 9 .any (fun w args => (Rows.fnExactForwardedSpec.pre enc Tryd.prog Tryd.f9 [] false w args ∧ laidMetH Tryd.prog Met.laid w) ∧ sizedMet enc Tryd.prog Tryd.f9 (OpenSpec.ofChange Rows.fnExactForwardedSpec) false w args) (Rows.fnExactForwardedSpec.post enc Tryd.prog Tryd.f9 false true false false) := by
  refine returnsInHanded_of_change_and (C := Tryd.checked) (X := fun w _ => laidMetH Tryd.prog Met.laid w) (fun _ _ _ hh h => h.of_heap hh) own started (by kernel_rfl) Tryd.func9
    (ChangeSpec.witness_shaped (enc := enc) (C := Tryd.checked) (os := os) (X := fun w _ => laidMetH Tryd.prog Met.laid w) false (Met.world os) #[.slice none 0 0, .agg #[.int .i64 0, .slice none 0 0], .slice none 0 0, .slice none 0 0] 8 (Met.world_os os) (Met.shaped os _) (by kernel_rfl) (by kernel_rfl) (by kernel_rfl) (Met.met os _)) ?_
  intro W base args ds gs before hval0 hW hcnd hsz0 hL0 _
  have hsz : (DataW.weightsEach Tryd.prog (Tryd.f9.params.toList ++ Rows.fnExactForwardedSpec.plain.varTypes Tryd.prog) (ds ++ gs)).all (· ≤ reachBytes) = true := hsz0
  have hval : ∀ (j : Nat) t v, Tryd.f9.params[j]? = some t → args[j]? = some v → Value.okWide Tryd.prog W .any base t v := hval0
  have hW' := hW
  obtain ⟨p, q, hA0, hV, rfl, hfz, hnd⟩ := hW
  have hA : DataW.TrodAll enc Tryd.prog W 0 (fun _ => true) true Tryd.f9.params.toList args.toList ds p := hA0
  rw [Tryd.params9] at hA hval hsz
  obtain ⟨v0, vs0, d0, ds0, p0, q0, hargs, rfl, rfl, h0, r0⟩ := trodAll_cons hA
  obtain ⟨v1, vs1, d1, ds1, p1, q1, rfl, rfl, rfl, h1, r1⟩ := trodAll_cons r0
  obtain ⟨v2, vs2, d2, ds2, p2, q2, rfl, rfl, rfl, h2, r2⟩ := trodAll_cons r1
  obtain ⟨v3, vs3, d3, ds3, p3, q3, rfl, rfl, rfl, h3, r3⟩ := trodAll_cons r2
  obtain ⟨rfl, rfl, rfl⟩ := trodAll_nil r3
  obtain rfl : args = #[v0, v1, v2, v3] := by cases args; simp_all
  obtain ⟨rfl, rfl⟩ := trodVars_none hV
  have k0 := h0
  have lt0 : ∀ x ∈ p0, x.block < W.heap.size := by obtain ⟨m, hm⟩ := k0; exact DataW.trod_lt m _ _ _ hm
  have hs9_0 : Tryd.prog.cellsOf 9 = 1 := by kernel_rfl
  obtain ⟨A0, n0, c0, rfl⟩ := okWide_slice Tryd.underlying24 (hval 0 24 v0 rfl rfl)
  obtain ⟨m0, hm0⟩ := h0
  obtain ⟨xs0, ⟨B0, e0, ec0, hlc0, hC0⟩, hxl0, hwf0⟩ := (Opens.slice (Opens.string Tryd.underlying9 hs9_0) Tryd.underlying24 (by kernel_rfl)).opens hm0
  obtain ⟨rfl, rfl, rfl⟩ := Value.slice.inj (List.cons.inj ec0).1
  have k1 := h1
  have lt1 : ∀ x ∈ p1, x.block < W.heap.size := by obtain ⟨m, hm⟩ := k1; exact DataW.trod_lt m _ _ _ hm
  obtain ⟨u1, v1_1, z1_0, z1_1, m1, rfl, rfl, rfl, t1_0, t1_1⟩ := open_agg2 Tryd.underlying43 (by kernel_rfl) (by kernel_rfl) (hval 1 43 v1 rfl rfl) h1
  obtain ⟨a1_0, e1_0, _, w1_0⟩ := DataW.trod_int Tryd.underlying2 t1_0
  obtain rfl := (List.cons.inj e1_0).1
  have y1_0 : -9223372036854775808 ≤ a1_0 ∧ a1_0 ≤ 9223372036854775807 := by have h_ := w1_0; simp [Lit.wf, IntKind.min, IntKind.max, IntKind.bits, IntKind.signed] at h_; omega
  obtain ⟨xs1, ⟨A1, c1, ec1, hlc1, hC1⟩, hxl1, hwf1⟩ := (Opens.slice (Opens.int (k := .i64) Tryd.underlying2 (by kernel_rfl)) Tryd.underlying41 (by kernel_rfl)).opens t1_1
  obtain rfl := (List.cons.inj ec1).1
  have k2 := h2
  have lt2 : ∀ x ∈ p2, x.block < W.heap.size := by obtain ⟨m, hm⟩ := k2; exact DataW.trod_lt m _ _ _ hm
  obtain ⟨A2, n2, c2, rfl⟩ := okWide_slice Tryd.underlying41 (hval 2 41 v2 rfl rfl)
  obtain ⟨m2, hm2⟩ := h2
  obtain ⟨xs2, ⟨B2, e2, ec2, hlc2, hC2⟩, hxl2, hwf2⟩ := (Opens.slice (Opens.int (k := .i64) Tryd.underlying2 (by kernel_rfl)) Tryd.underlying41 (by kernel_rfl)).opens hm2
  obtain ⟨rfl, rfl, rfl⟩ := Value.slice.inj (List.cons.inj ec2).1
  have k3 := h3
  have lt3 : ∀ x ∈ p3, x.block < W.heap.size := by obtain ⟨m, hm⟩ := k3; exact DataW.trod_lt m _ _ _ hm
  obtain ⟨A3, n3, c3, rfl⟩ := okWide_slice Tryd.underlying41 (hval 3 41 v3 rfl rfl)
  obtain ⟨m3, hm3⟩ := h3
  obtain ⟨xs3, ⟨B3, e3, ec3, hlc3, hC3⟩, hxl3, hwf3⟩ := (Opens.slice (Opens.int (k := .i64) Tryd.underlying2 (by kernel_rfl)) Tryd.underlying41 (by kernel_rfl)).opens hm3
  obtain ⟨rfl, rfl, rfl⟩ := Value.slice.inj (List.cons.inj ec3).1
  clear hA0 hval0 hsz0 hsz
  obtain ⟨k, hk⟩ := Pure.FnExactForwarded xs0 a1_0 xs1 xs2 xs3 (by have := hxl0; unfold maxLen at this; omega) (fun s hs => by have := hwf0 s hs; unfold maxLen at this; omega) y1_0 (by have := hxl1; unfold maxLen at this; omega) hwf1 (by have := hxl2; unfold maxLen at this; omega) (by have := hxl3; unfold maxLen at this; omega)
  refine (PFnExactForwarded.laws_FnExactForwarded.calls k A0 c0 xs0 a1_0 A1 c1 xs1 A2 c2 xs2 A3 c3 xs3 true W hC0 hlc0 hC1 hlc1 hC2 hlc2 hC3 hlc3 hk).mono fun e W' ⟨he, bel⟩ => ?_
  subst he
  exact ⟨_, rfl, _, _, _, [], _, [], hW', trodAll_mk1 (shut_bool Tryd.underlying4 _), (trodAll_cons_mk (Below.trod laidOut (by kernel_rfl) (of_decide_eq_true (by kernel_rfl)) k0 bel lt0) (trodAll_cons_mk (Below.trod laidOut (by kernel_rfl) (of_decide_eq_true (by kernel_rfl)) k1 bel lt1) (trodAll_cons_mk (Below.trod laidOut (by kernel_rfl) (of_decide_eq_true (by kernel_rfl)) k2 bel lt2) (trodAll_cons_mk (Below.trod laidOut (by kernel_rfl) (of_decide_eq_true (by kernel_rfl)) k3 bel lt3) trodAll_mk0)))), rfl, bel.frame _, fun h => by cases h⟩
theorem b1 : (Rows.fnExactForwardedRow.inPlace == Tryd.prog.inPlace 9) = true := by kernel_rfl
theorem b2 : (Rows.fnExactForwardedRow.unfollowed == Tryd.prog.unfollowed 9) = true := by kernel_rfl
theorem b3 : (Rows.fnExactForwardedRow.recurses == Tryd.prog.recurses 9) = true := by kernel_rfl
theorem b4 : (Rows.fnExactForwardedRow.named == Tryd.prog.varsNamed 9) = true := by kernel_rfl
theorem e1 : (Rows.fnExactForwardedRow.plainKeys == Tryd.prog.plainKeys) = true := by kernel_rfl
theorem e5 : (Rows.fnExactForwardedRow.lifted == Tryd.prog.liftsFinal) = true := by rw [Facts.lifts]; rfl
theorem e6 : (Tryd.prog.make == some Rows.fnExactForwardedRow.make) = true := by rw [Facts.make]; rfl
theorem closed : joinedFacts Tryd.prog 9 Tryd.f9 Rows.fnExactForwardedSpec Rows.fnExactForwardedRow = true :=
  Facts.joined_of (by kernel_rfl) Facts.laid Facts.maps (by kernel_rfl) (by kernel_rfl) rfl Facts.stops rfl Facts.stopKnobs b1 b2 b3 b4 (by kernel_rfl) (by kernel_rfl) (by kernel_rfl) (by kernel_rfl) (by kernel_rfl) (by kernel_rfl) (by kernel_rfl) (by kernel_rfl) (by kernel_rfl) e1 rfl Facts.heard Facts.enter e5 e6 (by kernel_rfl) (by kernel_rfl) (by kernel_rfl) (by kernel_rfl)
theorem over : Rows.fnExactForwardedRow.holds Tryd.pinned (OpenSpec.ofChange Rows.fnExactForwardedSpec) :=
  OpenClaim.holds_of_wide 9 Tryd.f9 rfl rfl rfl rfl rfl rfl rfl ⟨rfl, rfl, rfl, rfl, rfl⟩ rfl rfl rfl rfl rfl (by kernel_rfl) Tryd.func9 closed
    (of_decide_eq_true (by kernel_rfl)) (by unfold Func.isWrapper; first | (rw [if_pos (by decide +kernel)]; kernel_rfl) | (rw [if_neg (by decide +kernel)]; exact ⟨rfl, rfl⟩))
    (fun os started H enc _ => lifted os started H enc)
theorem proved : Rows.FnExactForwardedSaid := over
#print axioms proved
theorem goes : false = Rows.fnExactForwardedRow.goesBy Tryd.prog := by kernel_rfl
theorem wf : Rows.fnExactForwardedRow.wfByText (OpenSpec.ofChange Rows.fnExactForwardedSpec) = true := by kernel_rfl
theorem named : Tryd.prog.funcNamed "loop.example/g00648/laws.FnExactForwarded" = some 9 := by kernel_rfl
theorem carded : Rows.FnExactForwardedCardSaid :=
  Claim7.holds_tied_plain_at .later [] [.data, .pinned] true (true, "2724205c5b33d330592fdd4db0b103600ec031231a21d2fa73314b70c8403806") false
    over (fun _ h => by cases h) wf (fun _ h => by cases h) fnExactForwarded_row_tie rfl ⟨rfl, rfl⟩ Met.mainIs rfl
    (fun f fn hf hfn => by
      obtain rfl : f = 9 := Option.some.inj (named.symm.trans hf) |>.symm
      obtain rfl : fn = Tryd.f9 := (Option.some.inj (Tryd.func9.symm.trans hfn)).symm
      exact ⟨Met.looks, fun j t ht => Met.plain_at Tryd.f9.params (by kernel_rfl) j t ht⟩)
    goes
#print axioms carded
end Go.Proofs.YtknllhfhcgahiaaDoor.fnExactForwarded
namespace Go.Proofs.YtknllhfhcgahiaaDoor
/-- The row, under a short name, for the claim. -/
theorem fnExactForwarded_holds : Rows.FnExactForwardedCardSaid := fnExactForwarded.carded
end Go.Proofs.YtknllhfhcgahiaaDoor
