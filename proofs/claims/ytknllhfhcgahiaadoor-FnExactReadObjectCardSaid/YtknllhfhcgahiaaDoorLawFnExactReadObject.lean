-- the row of a law, by wip/lawdev3.py
import Derived.Test.YtknllhfhcgahiaaDoorFacts
import Derived.Test.YtknllhfhcgahiaaDoorOFnExactReadObject
import Derived.Test.YtknllhfhcgahiaaDoorRows
import Derived.Test.YtknllhfhcgahiaaDoorMet
import Derived.Test.YtknllhfhcgahiaaDoorTie
import Derived.Test.YtknllhfhcgahiaaDoorCards
import Derived.SevenTiedAt
import Derived.Stop.Joined
import Derived.Test.YtknllhfhcgahiaaDoorPFnExactReadObjectx7
import Derived.Test.YtknllhfhcgahiaaDoorPureFnExactReadObject
import Derived.WalkKit
import Derived.ProofKit
import Derived.OpenShut
import Derived.ShutString
import Derived.ChangeOld
import Derived.Below
import Derived.SizedLaws
import Derived.Lib.SmallJoins
namespace Go.Proofs.YtknllhfhcgahiaaDoor.fnExactReadObject
open Go.Proofs.YtknllhfhcgahiaaDoorW.PrintWords
open Go.ChangeShapes Go.WideShapes Go.ChangeAt Go.RowKit Go.Joins
open Go.ChangeMaps (open_string shut_string)
set_option linter.unusedVariables false
theorem own : ownKnob Tryd.prog.godebug = none := by kernel_rfl
theorem laidOut : laidOutB Tryd.prog = true := Facts.laid
set_option maxRecDepth 100000 in
theorem lifted (os : Os) (started : os.Started) (H : Type) (enc : TypeId × Value → H) :
    ReturnsInHanded {} Tryd.checked os 14 .any (fun w args => (Rows.fnExactReadObjectSpec.pre enc Tryd.prog Tryd.f14 [] false w args ∧ laidMetH Tryd.prog Met.laid w) ∧ sizedMet enc Tryd.prog Tryd.f14 (OpenSpec.ofChange Rows.fnExactReadObjectSpec) false w args) (Rows.fnExactReadObjectSpec.post enc Tryd.prog Tryd.f14 false true false false) := by
  refine returnsInHanded_of_change_and (C := Tryd.checked) (X := fun w _ => laidMetH Tryd.prog Met.laid w) (fun _ _ _ hh h => h.of_heap hh) own started (by kernel_rfl) Tryd.func14
    (ChangeSpec.witness_shaped (enc := enc) (C := Tryd.checked) (os := os) (X := fun w _ => laidMetH Tryd.prog Met.laid w) false (Met.world os) #[.slice none 0 0, .string ByteArray.empty] 8 (Met.world_os os) (Met.shaped os _) (by kernel_rfl) (by kernel_rfl) (by kernel_rfl) (Met.met os _)) ?_
  intro W base args ds gs before hval0 hW hcnd hsz0 hL0 _
  have hsz : (DataW.weightsEach Tryd.prog (Tryd.f14.params.toList ++ Rows.fnExactReadObjectSpec.plain.varTypes Tryd.prog) (ds ++ gs)).all (· ≤ reachBytes) = true := hsz0
  have hval : ∀ (j : Nat) t v, Tryd.f14.params[j]? = some t → args[j]? = some v → Value.okWide Tryd.prog W .any base t v := hval0
  have hW' := hW
  obtain ⟨p, q, hA0, hV, rfl, hfz, hnd⟩ := hW
  have hA : DataW.TrodAll enc Tryd.prog W 0 (fun _ => true) true Tryd.f14.params.toList args.toList ds p := hA0
  rw [Tryd.params14] at hA hval hsz
  obtain ⟨v0, vs0, d0, ds0, p0, q0, hargs, rfl, rfl, h0, r0⟩ := trodAll_cons hA
  obtain ⟨v1, vs1, d1, ds1, p1, q1, rfl, rfl, rfl, h1, r1⟩ := trodAll_cons r0
  obtain ⟨rfl, rfl, rfl⟩ := trodAll_nil r1
  obtain rfl : args = #[v0, v1] := by cases args; simp_all
  obtain ⟨rfl, rfl⟩ := trodVars_none hV
  have k0 := h0
  have lt0 : ∀ x ∈ p0, x.block < W.heap.size := by obtain ⟨m, hm⟩ := k0; exact DataW.trod_lt m _ _ _ hm
  have hs9_0 : Tryd.prog.cellsOf 9 = 1 := by kernel_rfl
  obtain ⟨A0, n0, c0, rfl⟩ := okWide_slice Tryd.underlying24 (hval 0 24 v0 rfl rfl)
  obtain ⟨m0, hm0⟩ := h0
  obtain ⟨xs0, ⟨B0, e0, ec0, hlc0, hC0⟩, hxl0, hwf0⟩ := (Opens.slice (Opens.string Tryd.underlying9 hs9_0) Tryd.underlying24 (by kernel_rfl)).opens hm0
  obtain ⟨rfl, rfl, rfl⟩ := Value.slice.inj (List.cons.inj ec0).1
  have k1 := h1
  have lt1 : ∀ x ∈ p1, x.block < W.heap.size := by obtain ⟨m, hm⟩ := k1; exact DataW.trod_lt m _ _ _ hm
  obtain ⟨a1, rfl, rfl, rfl, w1⟩ := open_string Tryd.underlying9 (hval 1 9 v1 rfl rfl) h1
  clear hA0 hval0 hsz0 hsz
  obtain ⟨k, hk⟩ := Pure.FnExactReadObject xs0 a1 (by have := hxl0; unfold maxLen at this; omega) (fun s hs => by have := hwf0 s hs; unfold maxLen at this; omega) (by have := w1; unfold maxLen at this; omega)
  refine (PFnExactReadObject.laws_FnExactReadObject.calls k A0 c0 xs0 a1 true W hC0 hlc0 hk).mono fun e W' ⟨he, bel⟩ => ?_
  subst he
  exact ⟨_, rfl, _, _, _, [], _, [], hW', trodAll_mk1 (shut_bool Tryd.underlying4 _), (trodAll_cons_mk (Below.trod laidOut (by kernel_rfl) (of_decide_eq_true (by kernel_rfl)) k0 bel lt0) (trodAll_cons_mk (Below.trod laidOut (by kernel_rfl) (of_decide_eq_true (by kernel_rfl)) k1 bel lt1) trodAll_mk0)), rfl, bel.frame _, fun h => by cases h⟩
theorem b1 : (Rows.fnExactReadObjectRow.inPlace == Tryd.prog.inPlace 14) = true := by kernel_rfl
theorem b2 : (Rows.fnExactReadObjectRow.unfollowed == Tryd.prog.unfollowed 14) = true := by kernel_rfl
theorem b3 : (Rows.fnExactReadObjectRow.recurses == Tryd.prog.recurses 14) = true := by kernel_rfl
theorem b4 : (Rows.fnExactReadObjectRow.named == Tryd.prog.varsNamed 14) = true := by kernel_rfl
theorem e1 : (Rows.fnExactReadObjectRow.plainKeys == Tryd.prog.plainKeys) = true := by kernel_rfl
theorem e5 : (Rows.fnExactReadObjectRow.lifted == Tryd.prog.liftsFinal) = true := by rw [Facts.lifts]; rfl
theorem e6 : (Tryd.prog.make == some Rows.fnExactReadObjectRow.make) = true := by rw [Facts.make]; rfl
theorem closed : joinedFacts Tryd.prog 14 Tryd.f14 Rows.fnExactReadObjectSpec Rows.fnExactReadObjectRow = true :=
  Facts.joined_of (by kernel_rfl) Facts.laid Facts.maps (by kernel_rfl) (by kernel_rfl) rfl Facts.stops rfl Facts.stopKnobs b1 b2 b3 b4 (by kernel_rfl) (by kernel_rfl) (by kernel_rfl) (by kernel_rfl) (by kernel_rfl) (by kernel_rfl) (by kernel_rfl) (by kernel_rfl) (by kernel_rfl) e1 rfl Facts.heard Facts.enter e5 e6 (by kernel_rfl) (by kernel_rfl) (by kernel_rfl) (by kernel_rfl)
theorem over : Rows.fnExactReadObjectRow.holds Tryd.pinned (OpenSpec.ofChange Rows.fnExactReadObjectSpec) :=
  OpenClaim.holds_of_wide 14 Tryd.f14 rfl rfl rfl rfl rfl rfl rfl ⟨rfl, rfl, rfl, rfl, rfl⟩ rfl rfl rfl rfl rfl (by kernel_rfl) Tryd.func14 closed
    (of_decide_eq_true (by kernel_rfl)) (by unfold Func.isWrapper; first | (rw [if_pos (by decide +kernel)]; kernel_rfl) | (rw [if_neg (by decide +kernel)]; exact ⟨rfl, rfl⟩))
    (fun os started H enc _ => lifted os started H enc)
theorem proved : Rows.FnExactReadObjectSaid := over
#print axioms proved
theorem goes : false = Rows.fnExactReadObjectRow.goesBy Tryd.prog := by kernel_rfl
theorem wf : Rows.fnExactReadObjectRow.wfByText (OpenSpec.ofChange Rows.fnExactReadObjectSpec) = true := by kernel_rfl
theorem named : Tryd.prog.funcNamed "loop.example/g00648/laws.FnExactReadObject" = some 14 := by kernel_rfl
theorem carded : Rows.FnExactReadObjectCardSaid :=
  Claim7.holds_tied_plain_at .later [] [.data, .pinned] true (true, "2724205c5b33d330592fdd4db0b103600ec031231a21d2fa73314b70c8403806") false
    over (fun _ h => by cases h) wf (fun _ h => by cases h) fnExactReadObject_row_tie rfl ⟨rfl, rfl⟩ Met.mainIs rfl
    (fun f fn hf hfn => by
      obtain rfl : f = 14 := Option.some.inj (named.symm.trans hf) |>.symm
      obtain rfl : fn = Tryd.f14 := (Option.some.inj (Tryd.func14.symm.trans hfn)).symm
      exact ⟨Met.looks, fun j t ht => Met.plain_at Tryd.f14.params (by kernel_rfl) j t ht⟩)
    goes
#print axioms carded
end Go.Proofs.YtknllhfhcgahiaaDoor.fnExactReadObject
namespace Go.Proofs.YtknllhfhcgahiaaDoor
/-- The row, under a short name, for the claim. -/
theorem fnExactReadObject_holds : Rows.FnExactReadObjectCardSaid := fnExactReadObject.carded
end Go.Proofs.YtknllhfhcgahiaaDoor
