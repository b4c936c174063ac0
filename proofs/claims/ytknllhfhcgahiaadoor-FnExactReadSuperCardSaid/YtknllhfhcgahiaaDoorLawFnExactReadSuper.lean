-- by a patched copy of the print (wip/tools/patch_print.py)
import Derived.Test.YtknllhfhcgahiaaDoorFacts
import Derived.Test.YtknllhfhcgahiaaDoorRows
import Derived.Test.YtknllhfhcgahiaaDoorMet
import Derived.Test.YtknllhfhcgahiaaDoorTie
import Derived.Test.YtknllhfhcgahiaaDoorCards
import Derived.SevenTiedAt
import Derived.Stop.Joined
import Derived.Test.YtknllhfhcgahiaaDoorPFnExactReadSuperx11
import Derived.Test.YtknllhfhcgahiaaDoorPureFnExactReadSuper
import Derived.WalkKit
import Derived.ProofKit
import Derived.OpenShut
import Derived.ShutString
import Derived.ChangeOld
import Derived.Below
import Derived.SizedLaws
namespace Go.Proofs.YtknllhfhcgahiaaDoor.fnExactReadSuper
open Go.ChangeShapes Go.WideShapes Go.ChangeAt Go.RowKit
open Go.ChangeMaps (open_string shut_string)
set_option linter.unusedVariables false
theorem own : ownKnob Tryd.prog.godebug = none := by kernel_rfl
set_option maxRecDepth 100000 in
theorem lifted (os : Os) (started : os.Started) (H : Type) (enc : TypeId × Value → H) :
    ReturnsInHanded {} Tryd.checked os 15 .any (fun w args => (Rows.fnExactReadSuperSpec.pre enc Tryd.prog Tryd.f15 [] false w args ∧ laidMetH Tryd.prog Met.laid w) ∧ sizedMet enc Tryd.prog Tryd.f15 (OpenSpec.ofChange Rows.fnExactReadSuperSpec) false w args) (Rows.fnExactReadSuperSpec.post enc Tryd.prog Tryd.f15 false true false false) := by
  refine returnsInHanded_of_change_and (C := Tryd.checked) (X := fun w _ => laidMetH Tryd.prog Met.laid w) (fun _ _ _ hh h => h.of_heap hh) own started (by kernel_rfl) Tryd.func15
    (ChangeSpec.witness_shaped (enc := enc) (C := Tryd.checked) (os := os) (X := fun w _ => laidMetH Tryd.prog Met.laid w) false (Met.world os) #[.string ByteArray.empty] 8 (Met.world_os os) (Met.shaped os _) (by kernel_rfl) (by kernel_rfl) (by kernel_rfl) (Met.met os _)) ?_
  intro W base args ds gs before hval0 hW hcnd hsz0 hL0 _
  have hsz : (DataW.weightsEach Tryd.prog (Tryd.f15.params.toList ++ Rows.fnExactReadSuperSpec.plain.varTypes Tryd.prog) (ds ++ gs)).all (· ≤ reachBytes) = true := hsz0
  have hval : ∀ (j : Nat) t v, Tryd.f15.params[j]? = some t → args[j]? = some v → Value.okWide Tryd.prog W .any base t v := hval0
  have hW' := hW
  obtain ⟨p, q, hA0, hV, rfl, hfz, hnd⟩ := hW
  have hA : DataW.TrodAll enc Tryd.prog W 0 (fun _ => true) true Tryd.f15.params.toList args.toList ds p := hA0
  rw [Tryd.params15] at hA hval hsz
  obtain ⟨v0, vs0, d0, ds0, p0, q0, hargs, rfl, rfl, h0, r0⟩ := trodAll_cons hA
  obtain ⟨rfl, rfl, rfl⟩ := trodAll_nil r0
  obtain rfl : args = #[v0] := by cases args; simp_all
  obtain ⟨rfl, rfl⟩ := trodVars_none hV
  obtain ⟨a0, rfl, rfl, rfl, y0⟩ := open_string Tryd.underlying9 (hval 0 9 v0 rfl rfl) h0
  have w0 : a0.size ≤ 140737488351232 := by
    have z := sized_string hsz (j := 0) (t := 9) rfl rfl
    rw [Array.length_toList] at z
    exact z
  clear hA0 hval0 hsz0 hsz
  refine (PFnExactReadSuper.laws_FnExactReadSuper.walk Pure.FnExactReadSuper a0 W w0).mono fun e W' ⟨he, bel⟩ => ?_
  subst he
  exact ⟨_, rfl, _, _, _, [], _, [], hW', trodAll_mk1 (shut_bool Tryd.underlying4 _), (trodAll_cons_mk (shut_string Tryd.underlying9 y0) trodAll_mk0), rfl, bel.frame _, fun h => by cases h⟩
theorem b1 : (Rows.fnExactReadSuperRow.inPlace == Tryd.prog.inPlace 15) = true := by kernel_rfl
theorem b2 : (Rows.fnExactReadSuperRow.unfollowed == Tryd.prog.unfollowed 15) = true := by kernel_rfl
theorem b3 : (Rows.fnExactReadSuperRow.recurses == Tryd.prog.recurses 15) = true := by kernel_rfl
theorem b4 : (Rows.fnExactReadSuperRow.named == Tryd.prog.varsNamed 15) = true := by kernel_rfl
theorem e1 : (Rows.fnExactReadSuperRow.plainKeys == Tryd.prog.plainKeys) = true := by kernel_rfl
theorem e5 : (Rows.fnExactReadSuperRow.lifted == Tryd.prog.liftsFinal) = true := by rw [Facts.lifts]; rfl
theorem e6 : (Tryd.prog.make == some Rows.fnExactReadSuperRow.make) = true := by rw [Facts.make]; rfl
theorem closed : joinedFacts Tryd.prog 15 Tryd.f15 Rows.fnExactReadSuperSpec Rows.fnExactReadSuperRow = true :=
  Facts.joined_of (by kernel_rfl) Facts.laid Facts.maps (by kernel_rfl) (by kernel_rfl) rfl Facts.stops rfl Facts.stopKnobs b1 b2 b3 b4 (by kernel_rfl) (by kernel_rfl) (by kernel_rfl) (by kernel_rfl) (by kernel_rfl) (by kernel_rfl) (by kernel_rfl) (by kernel_rfl) (by kernel_rfl) e1 rfl Facts.heard Facts.enter e5 e6 (by kernel_rfl) (by kernel_rfl) (by kernel_rfl) (by kernel_rfl)
theorem over : Rows.fnExactReadSuperRow.holds Tryd.pinned (OpenSpec.ofChange Rows.fnExactReadSuperSpec) :=
  OpenClaim.holds_of_wide 15 Tryd.f15 rfl rfl rfl rfl rfl rfl rfl ⟨rfl, rfl, rfl, rfl, rfl⟩ rfl rfl rfl rfl rfl (by kernel_rfl) Tryd.func15 closed
    (of_decide_eq_true (by kernel_rfl)) (by unfold Func.isWrapper; first | (rw [if_pos (by decide +kernel)]; kernel_rfl) | (rw [if_neg (by decide +kernel)]; exact ⟨rfl, rfl⟩))
    (fun os started H enc _ => lifted os started H enc)
theorem proved : Rows.FnExactReadSuperSaid := over
#print axioms proved
theorem goes : false = Rows.fnExactReadSuperRow.goesBy Tryd.prog := by kernel_rfl
theorem wf : Rows.fnExactReadSuperRow.wfByText (OpenSpec.ofChange Rows.fnExactReadSuperSpec) = true := by kernel_rfl
theorem named : Tryd.prog.funcNamed "loop.example/g00648/laws.FnExactReadSuper" = some 15 := by kernel_rfl
theorem carded : Rows.FnExactReadSuperCardSaid :=
  Claim7.holds_tied_plain_at .later [] [.data, .pinned] true (true, "2724205c5b33d330592fdd4db0b103600ec031231a21d2fa73314b70c8403806") false
    over (fun _ h => by cases h) wf (fun _ h => by cases h) fnExactReadSuper_row_tie rfl ⟨rfl, rfl⟩ Met.mainIs rfl
    (fun f fn hf hfn => by
      obtain rfl : f = 15 := Option.some.inj (named.symm.trans hf) |>.symm
      obtain rfl : fn = Tryd.f15 := (Option.some.inj (Tryd.func15.symm.trans hfn)).symm
      exact ⟨Met.looks, fun j t ht => Met.plain_at Tryd.f15.params (by kernel_rfl) j t ht⟩)
    goes
#print axioms carded
end Go.Proofs.YtknllhfhcgahiaaDoor.fnExactReadSuper
namespace Go.Proofs.YtknllhfhcgahiaaDoor
/-- The row, under a short name, for the claim. -/
theorem fnExactReadSuper_holds : Rows.FnExactReadSuperCardSaid := fnExactReadSuper.carded
end Go.Proofs.YtknllhfhcgahiaaDoor
