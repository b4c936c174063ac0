-- the row of a law, by wip/lawdev3.py
import Derived.Test.YtknllhfhcgahiaaDoorFacts
import Derived.Test.YtknllhfhcgahiaaDoorOFnExactObjectBytes
import Derived.Test.YtknllhfhcgahiaaDoorRows
import Derived.Test.YtknllhfhcgahiaaDoorMet
import Derived.Test.YtknllhfhcgahiaaDoorTie
import Derived.Test.YtknllhfhcgahiaaDoorCards
import Derived.SevenTiedAt
import Derived.Stop.Joined
import Derived.Test.YtknllhfhcgahiaaDoorPFnExactObjectBytesx5
import Derived.Test.YtknllhfhcgahiaaDoorPureFnExactObjectBytes
import Derived.WalkKit
import Derived.ProofKit
import Derived.OpenShut
import Derived.ShutString
import Derived.ChangeOld
import Derived.Below
import Derived.SizedLaws
import Derived.Lib.SmallJoins
namespace Go.Proofs.YtknllhfhcgahiaaDoor.fnExactObjectBytes
open Go.Proofs.YtknllhfhcgahiaaDoorW.PrintWords
open Go.ChangeShapes Go.WideShapes Go.ChangeAt Go.RowKit Go.Joins
open Go.ChangeMaps (open_string shut_string)
set_option linter.unusedVariables false
theorem own : ownKnob Tryd.prog.godebug = none := by kernel_rfl
theorem laidOut : laidOutB Tryd.prog = true := Facts.laid
set_option maxRecDepth 100000 in
theorem lifted (os : Os) (started : os.Started) (H : Type) (enc : TypeId × Value → H) :
    ReturnsInHanded {} Tryd.checked os 10 .any (fun w args => (Rows.fnExactObjectBytesSpec.pre enc Tryd.prog Tryd.f10 [] false w args ∧ laidMetH Tryd.prog Met.laid w) ∧ sizedMet enc Tryd.prog Tryd.f10 (OpenSpec.ofChange Rows.fnExactObjectBytesSpec) false w args) (Rows.fnExactObjectBytesSpec.post enc Tryd.prog Tryd.f10 false true false false) := by
  refine returnsInHanded_of_change_and (C := Tryd.checked) (X := fun w _ => laidMetH Tryd.prog Met.laid w) (fun _ _ _ hh h => h.of_heap hh) own started (by kernel_rfl) Tryd.func10
    (ChangeSpec.witness_shaped (enc := enc) (C := Tryd.checked) (os := os) (X := fun w _ => laidMetH Tryd.prog Met.laid w) false (Met.world os) #[.slice none 0 0, .agg #[.int .i64 0, .slice none 0 0]] 8 (Met.world_os os) (Met.shaped os _) (by kernel_rfl) (by kernel_rfl) (by kernel_rfl) (Met.met os _)) ?_
  intro W base args ds gs before hval0 hW hcnd hsz0 hL0 _
  have hsz : (DataW.weightsEach Tryd.prog (Tryd.f10.params.toList ++ Rows.fnExactObjectBytesSpec.plain.varTypes Tryd.prog) (ds ++ gs)).all (· ≤ reachBytes) = true := hsz0
  have hval : ∀ (j : Nat) t v, Tryd.f10.params[j]? = some t → args[j]? = some v → Value.okWide Tryd.prog W .any base t v := hval0
  have hW' := hW
  obtain ⟨p, q, hA0, hV, rfl, hfz, hnd⟩ := hW
  have hA : DataW.TrodAll enc Tryd.prog W 0 (fun _ => true) true Tryd.f10.params.toList args.toList ds p := hA0
  rw [Tryd.params10] at hA hval hsz
  obtain ⟨v0, vs0, d0, ds0, p0, q0, hargs, rfl, rfl, h0, r0⟩ := trodAll_cons hA
  obtain ⟨v1, vs1, d1, ds1, p1, q1, rfl, rfl, rfl, h1, r1⟩ := trodAll_cons r0
  obtain ⟨rfl, rfl, rfl⟩ := trodAll_nil r1
  obtain rfl : args = #[v0, v1] := by cases args; simp_all
  obtain ⟨rfl, rfl⟩ := trodVars_none hV
  have k0 := h0
  have lt0 : ∀ x ∈ p0, x.block < W.heap.size := by obtain ⟨m, hm⟩ := k0; exact DataW.trod_lt m _ _ _ hm
  have hs9_0 : Tryd.prog.cellsOf 9 = 1 := by kernel_rfl
  obtain ⟨A0, n0, c0, rfl⟩ := okWide_slice Tryd.underlying24 (hval 0 24 v0 rfl rfl)
  obtain ⟨m0, hm0⟩ := h0
  obtain ⟨xs0, ⟨B0, e0, ec0, hlc0, hC0⟩, hxl0, hwf0⟩ := (Opens.slice (Opens.string Tryd.underlying9 hs9_0) Tryd.underlying24 (by kernel_rfl)).opens hm0
  obtain ⟨rfl, rfl, rfl⟩ := Value.slice.inj (List.cons.inj ec0).1
  have k1 := h1
  have lt1 : ∀ x ∈ p1, x.block < W.heap.size := by obtain ⟨m, hm⟩ := k1; exact DataW.trod_lt m _ _ _ hm
  obtain ⟨u1, v1_1, z1_0, z1_1, m1, rfl, rfl, rfl, t1_0, t1_1⟩ := open_agg2 Tryd.underlying43 (by kernel_rfl) (by kernel_rfl) (hval 1 43 v1 rfl rfl) h1
  obtain ⟨a1_0, e1_0, _, w1_0⟩ := DataW.trod_int Tryd.underlying2 t1_0
  obtain rfl := (List.cons.inj e1_0).1
  have y1_0 : -9223372036854775808 ≤ a1_0 ∧ a1_0 ≤ 9223372036854775807 := by have h_ := w1_0; simp [Lit.wf, IntKind.min, IntKind.max, IntKind.bits, IntKind.signed] at h_; omega
  obtain ⟨xs1, ⟨A1, c1, ec1, hlc1, hC1⟩, hxl1, hwf1⟩ := (Opens.slice (Opens.int (k := .i64) Tryd.underlying2 (by kernel_rfl)) Tryd.underlying41 (by kernel_rfl)).opens t1_1
  obtain rfl := (List.cons.inj ec1).1
  clear hA0 hval0 hsz0 hsz
  obtain ⟨k, hk⟩ := Pure.FnExactObjectBytes xs0 a1_0 xs1 (by have := hxl0; unfold maxLen at this; omega) (fun s hs => by have := hwf0 s hs; unfold maxLen at this; omega) y1_0 (by have := hxl1; unfold maxLen at this; omega) hwf1
  refine (PFnExactObjectBytes.laws_FnExactObjectBytes.calls k A0 c0 xs0 a1_0 A1 c1 xs1 true W hC0 hlc0 hC1 hlc1 hk).mono fun e W' ⟨he, bel⟩ => ?_
  subst he
  exact ⟨_, rfl, _, _, _, [], _, [], hW', trodAll_mk1 (shut_bool Tryd.underlying4 _), (trodAll_cons_mk (Below.trod laidOut (by kernel_rfl) (of_decide_eq_true (by kernel_rfl)) k0 bel lt0) (trodAll_cons_mk (Below.trod laidOut (by kernel_rfl) (of_decide_eq_true (by kernel_rfl)) k1 bel lt1) trodAll_mk0)), rfl, bel.frame _, fun h => by cases h⟩
theorem b1 : (Rows.fnExactObjectBytesRow.inPlace == Tryd.prog.inPlace 10) = true := by kernel_rfl
theorem b2 : (Rows.fnExactObjectBytesRow.unfollowed == Tryd.prog.unfollowed 10) = true := by kernel_rfl
theorem b3 : (Rows.fnExactObjectBytesRow.recurses == Tryd.prog.recurses 10) = true := by kernel_rfl
theorem b4 : (Rows.fnExactObjectBytesRow.named == Tryd.prog.varsNamed 10) = true := by kernel_rfl
theorem e1 : (Rows.fnExactObjectBytesRow.plainKeys == Tryd.prog.plainKeys) = true := by kernel_rfl
theorem e5 : (Rows.fnExactObjectBytesRow.lifted == Tryd.prog.liftsFinal) = true := by rw [Facts.lifts]; rfl
theorem e6 : (Tryd.prog.make == some Rows.fnExactObjectBytesRow.make) = true := by rw [Facts.make]; rfl
theorem closed : joinedFacts Tryd.prog 10 Tryd.f10 Rows.fnExactObjectBytesSpec Rows.fnExactObjectBytesRow = true :=
  Facts.joined_of (by kernel_rfl) Facts.laid Facts.maps (by kernel_rfl) (by kernel_rfl) rfl Facts.stops rfl Facts.stopKnobs b1 b2 b3 b4 (by kernel_rfl) (by kernel_rfl) (by kernel_rfl) (by kernel_rfl) (by kernel_rfl) (by kernel_rfl) (by kernel_rfl) (by kernel_rfl) (by kernel_rfl) e1 rfl Facts.heard Facts.enter e5 e6 (by kernel_rfl) (by kernel_rfl) (by kernel_rfl) (by kernel_rfl)
theorem over : Rows.fnExactObjectBytesRow.holds Tryd.pinned (OpenSpec.ofChange Rows.fnExactObjectBytesSpec) :=
  OpenClaim.holds_of_wide 10 Tryd.f10 rfl rfl rfl rfl rfl rfl rfl ⟨rfl, rfl, rfl, rfl, rfl⟩ rfl rfl rfl rfl rfl (by kernel_rfl) Tryd.func10 closed
    (of_decide_eq_true (by kernel_rfl)) (by unfold Func.isWrapper; first | (rw [if_pos (by decide +kernel)]; kernel_rfl) | (rw [if_neg (by decide +kernel)]; exact ⟨rfl, rfl⟩))
    (fun os started H enc _ => lifted os started H enc)
theorem proved : Rows.FnExactObjectBytesSaid := over
#print axioms proved
theorem goes : false = Rows.fnExactObjectBytesRow.goesBy Tryd.prog := by kernel_rfl
theorem wf : Rows.fnExactObjectBytesRow.wfByText (OpenSpec.ofChange Rows.fnExactObjectBytesSpec) = true := by kernel_rfl
theorem named : Tryd.prog.funcNamed "loop.example/g00648/laws.FnExactObjectBytes" = some 10 := by kernel_rfl
theorem carded : Rows.FnExactObjectBytesCardSaid :=
  Claim7.holds_tied_plain_at .later [] [.data, .pinned] true (true, "2724205c5b33d330592fdd4db0b103600ec031231a21d2fa73314b70c8403806") false
    over (fun _ h => by cases h) wf (fun _ h => by cases h) fnExactObjectBytes_row_tie rfl ⟨rfl, rfl⟩ Met.mainIs rfl
    (fun f fn hf hfn => by
      obtain rfl : f = 10 := Option.some.inj (named.symm.trans hf) |>.symm
      obtain rfl : fn = Tryd.f10 := (Option.some.inj (Tryd.func10.symm.trans hfn)).symm
      exact ⟨Met.looks, fun j t ht => Met.plain_at Tryd.f10.params (by kernel_rfl) j t ht⟩)
    goes
#print axioms carded
end Go.Proofs.YtknllhfhcgahiaaDoor.fnExactObjectBytes
namespace Go.Proofs.YtknllhfhcgahiaaDoor
/-- The row, under a short name, for the claim. -/
theorem fnExactObjectBytes_holds : Rows.FnExactObjectBytesCardSaid := fnExactObjectBytes.carded
end Go.Proofs.YtknllhfhcgahiaaDoor
