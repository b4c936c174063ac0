-- the row of a law, by wip/lawdev3.py
import Derived.Test.YtbbbajnnoficbaaFacts
import Derived.Test.YtbbbajnnoficbaaOFnSealed
import Derived.Test.YtbbbajnnoficbaaRows
import Derived.Test.YtbbbajnnoficbaaPFnSealedx2
import Derived.Test.YtbbbajnnoficbaaPureFnSealed
import Derived.WalkKit
import Derived.ProofKit
import Derived.OpenShut
import Derived.ShutString
import Derived.ChangeOld
import Derived.Below
import Derived.SizedLaws
import Derived.Lib.SmallJoins
namespace Go.Proofs.Ytbbbajnnoficbaa.fnSealed
open Go.Proofs.YtbbbajnnoficbaaW.PrintWords
open Go.ChangeShapes Go.WideShapes Go.ChangeAt Go.RowKit Go.Joins
open Go.ChangeMaps (open_string shut_string)
set_option linter.unusedVariables false
theorem own : ownKnob Try.prog.godebug = none := by kernel_rfl
theorem laidOut : laidOutB Try.prog = true := Facts.laid
set_option maxRecDepth 100000 in
theorem lifted (os : Os) (started : os.Started) (H : Type) (enc : TypeId × Value → H) :
    ReturnsInHanded {} Try.checked os 15 .any (Rows.fnSealedSpec.pre6 enc Try.prog Try.f15 Rows.fnSealedRow.domain false) (Rows.fnSealedSpec.post enc Try.prog Try.f15 false true false false) := by
  refine returnsInHanded_of_change_sized (C := Try.checked) own started (by kernel_rfl) Try.func15
    (ChangeSpec.witness6 (enc := enc) (C := Try.checked) false ⟨#[], #[.slice none 0 0], []⟩ 8 (by kernel_rfl) (by kernel_rfl) (by kernel_rfl) (by kernel_rfl)) ?_
  intro W base args ds gs before hval0 hW hcnd hsz0 _
  have hsz : (DataW.weightsEach Try.prog (Try.f15.params.toList ++ Rows.fnSealedSpec.plain.varTypes Try.prog) (ds ++ gs)).all (· ≤ reachBytes) = true := hsz0
  have hval : ∀ (j : Nat) t v, Try.f15.params[j]? = some t → args[j]? = some v → Value.okWide Try.prog W .any base t v := hval0
  have hW' := hW
  obtain ⟨p, q, hA0, hV, rfl, hfz, hnd⟩ := hW
  have hA : DataW.TrodAll enc Try.prog W 0 (fun _ => true) true Try.f15.params.toList args.toList ds p := hA0
  rw [Try.params15] at hA hval hsz
  obtain ⟨v0, vs0, d0, ds0, p0, q0, hargs, rfl, rfl, h0, r0⟩ := trodAll_cons hA
  obtain ⟨rfl, rfl, rfl⟩ := trodAll_nil r0
  obtain rfl : args = #[v0] := by cases args; simp_all
  obtain ⟨rfl, rfl⟩ := trodVars_none hV
  have k0 := h0
  have lt0 : ∀ x ∈ p0, x.block < W.heap.size := by obtain ⟨m, hm⟩ := k0; exact DataW.trod_lt m _ _ _ hm
  obtain ⟨A0, n0, c0, rfl⟩ := okWide_slice Try.underlying50 (hval 0 50 v0 rfl rfl)
  obtain ⟨m0, hm0⟩ := h0
  obtain ⟨xs0, ⟨B0, e0, ec0, hlc0, hC0⟩, hxl0, hwf0⟩ := (Opens.slice (Opens.int (k := .u8) Try.underlying5 (by kernel_rfl)) Try.underlying50 (by kernel_rfl)).opens hm0
  obtain ⟨rfl, rfl, rfl⟩ := Value.slice.inj (List.cons.inj ec0).1
  clear hA0 hval0 hsz0 hsz
  obtain ⟨k, hk⟩ := Pure.FnSealed xs0 (by have := hxl0; unfold maxLen at this; omega) hwf0
  refine (PFnSealed.laws_FnSealed.calls k A0 c0 xs0 true W hC0 hlc0 hk).mono fun e W' ⟨he, bel⟩ => ?_
  subst he
  exact ⟨_, rfl, _, _, _, [], _, [], hW', trodAll_mk1 (shut_bool Try.underlying4 _), (trodAll_cons_mk (Below.trod laidOut (by kernel_rfl) (of_decide_eq_true (by kernel_rfl)) k0 bel lt0) trodAll_mk0), rfl, bel.frame _, fun h => by cases h⟩
theorem b1 : (Rows.fnSealedRow.inPlace == Try.prog.inPlace 15) = true := by kernel_rfl
theorem b2 : (Rows.fnSealedRow.unfollowed == Try.prog.unfollowed 15) = true := by kernel_rfl
theorem b3 : (Rows.fnSealedRow.recurses == Try.prog.recurses 15) = true := by kernel_rfl
theorem b4 : (Rows.fnSealedRow.named == Try.prog.varsNamed 15) = true := by kernel_rfl
theorem e1 : (Rows.fnSealedRow.plainKeys == Try.prog.plainKeys) = true := by kernel_rfl
theorem e5 : (Rows.fnSealedRow.lifted == Try.prog.liftsFinal) = true := by rw [Facts.lifts]; rfl
theorem e6 : (Try.prog.make == some Rows.fnSealedRow.make) = true := by rw [Facts.make]; rfl
theorem closed : joinedFacts Try.prog 15 Try.f15 Rows.fnSealedSpec Rows.fnSealedRow = true :=
  Facts.joined_of (by kernel_rfl) Facts.laid Facts.maps (by kernel_rfl) (by kernel_rfl) rfl Facts.stops rfl Facts.stopKnobs b1 b2 b3 b4 (by kernel_rfl) (by kernel_rfl) (by kernel_rfl) (by kernel_rfl) (by kernel_rfl) (by kernel_rfl) (by kernel_rfl) (by kernel_rfl) (by kernel_rfl) e1 rfl Facts.heard Facts.enter e5 e6 (by kernel_rfl) (by kernel_rfl) (by kernel_rfl) (by kernel_rfl)
theorem over : Rows.fnSealedRow.holds Try.pinned (OpenSpec.ofChange Rows.fnSealedSpec) :=
  OpenClaim.holds_of_wide 15 Try.f15 rfl rfl rfl rfl rfl rfl rfl ⟨rfl, rfl, rfl, rfl, rfl⟩ rfl rfl rfl rfl rfl (by kernel_rfl) Try.func15 closed
    (of_decide_eq_true (by kernel_rfl)) (by unfold Func.isWrapper; first | (rw [if_pos (by decide +kernel)]; kernel_rfl) | (rw [if_neg (by decide +kernel)]; exact ⟨rfl, rfl⟩))
    (fun os started H enc _ => lifted os started H enc)
theorem proved : Rows.FnSealedSaid := over
#print axioms proved
end Go.Proofs.Ytbbbajnnoficbaa.fnSealed
namespace Go.Proofs.Ytbbbajnnoficbaa
/-- The row, under a short name, for the claim. -/
theorem fnSealed_holds : Rows.FnSealedSaid := fnSealed.proved
end Go.Proofs.Ytbbbajnnoficbaa
