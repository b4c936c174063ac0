-- the row of a law over a struct, by hand after the printed rows
import Derived.Test.YtfcnangllgaliaaFacts
import Derived.Test.YtfcnangllgaliaaRows
import Derived.Test.YtfcnangllgaliaaPFnExactRecordLinex5
import Derived.Test.YtfcnangllgaliaaPureFnExactRecordLine
import Derived.WalkKit
import Derived.ProofKit
import Derived.OpenShut
import Derived.ShutString
import Derived.ChangeOld
import Derived.Below
import Derived.SizedLaws
import Derived.Lib.SmallJoins
namespace Go.Proofs.Ytfcnangllgaliaa.fnExactRecordLine
open Go.ChangeShapes Go.WideShapes Go.ChangeAt Go.RowKit Go.Joins
open Go.ChangeMaps (open_string shut_string)
set_option linter.unusedVariables false
theorem own : ownKnob Try.prog.godebug = none := by kernel_rfl
set_option maxRecDepth 100000 in
theorem lifted (os : Os) (started : os.Started) (H : Type) (enc : TypeId × Value → H) :
    ReturnsInHanded {} Try.checked os 12 .any (Rows.fnExactRecordLineSpec.pre6 enc Try.prog Try.f12 Rows.fnExactRecordLineRow.domain false) (Rows.fnExactRecordLineSpec.post enc Try.prog Try.f12 false true false false) := by
  refine returnsInHanded_of_change_sized (C := Try.checked) own started (by kernel_rfl) Try.func12
    (ChangeSpec.witness6 (enc := enc) (C := Try.checked) false ⟨#[], #[.agg #[.int .i64 0, .int .i64 0, .int .i64 0, .string ByteArray.empty]], []⟩ 8 (by kernel_rfl) (by kernel_rfl) (by kernel_rfl) (by kernel_rfl)) ?_
  intro W base args ds gs before hval0 hW hcnd hsz0 _
  have hsz : (DataW.weightsEach Try.prog (Try.f12.params.toList ++ Rows.fnExactRecordLineSpec.plain.varTypes Try.prog) (ds ++ gs)).all (· ≤ reachBytes) = true := hsz0
  have hval : ∀ (j : Nat) t v, Try.f12.params[j]? = some t → args[j]? = some v → Value.okWide Try.prog W .any base t v := hval0
  have hW' := hW
  obtain ⟨p, q, hA0, hV, rfl, hfz, hnd⟩ := hW
  have hA : DataW.TrodAll enc Try.prog W 0 (fun _ => true) true Try.f12.params.toList args.toList ds p := hA0
  rw [Try.params12] at hA hval hsz
  obtain ⟨v0, vs0, d0, ds0, p0, q0, hargs, rfl, rfl, h0, r0⟩ := trodAll_cons hA
  obtain ⟨rfl, rfl, rfl⟩ := trodAll_nil r0
  obtain rfl : args = #[v0] := by cases args; simp_all
  obtain ⟨rfl, rfl⟩ := trodVars_none hV
  obtain ⟨u0, u1, u2, u3, x0, x1, x2, x3, m, rfl, rfl, rfl, t0, t1, t2, t3⟩ := open_agg4 Try.underlying58 (by kernel_rfl) (by kernel_rfl) (hval 0 58 v0 rfl rfl) h0
  obtain ⟨a0, e0, rfl, w0⟩ := DataW.trod_int Try.underlying2 t0
  obtain ⟨a1, e1, rfl, w1⟩ := DataW.trod_int Try.underlying2 t1
  obtain ⟨a2, e2, rfl, w2⟩ := DataW.trod_int Try.underlying2 t2
  obtain ⟨a3, e3, rfl, w3⟩ := DataW.trod_string Try.underlying9 t3
  obtain rfl := (List.cons.inj e0).1
  obtain rfl := (List.cons.inj e1).1
  obtain rfl := (List.cons.inj e2).1
  obtain rfl := (List.cons.inj e3).1
  clear hA0 hval0 hsz0 hsz
  obtain ⟨k, hk⟩ := Pure.FnExactRecordLine a0 a1 a2 a3
  refine (PFnExactRecordLine.laws_FnExactRecordLine.calls k a0 a1 a2 a3 true W hk).mono fun e W' ⟨he, bel⟩ => ?_
  subst he
  exact ⟨_, rfl, _, _, _, [], _, [], hW', trodAll_mk1 (shut_bool Try.underlying4 _), (trodAll_cons_mk (shut_agg4 Try.underlying58 (by kernel_rfl) (by kernel_rfl) (field_of_Trod (shut_int Try.underlying2 w0) rfl) (field_of_Trod (shut_int Try.underlying2 w1) rfl) (field_of_Trod (shut_int Try.underlying2 w2) rfl) (field_of_Trod (shut_string Try.underlying9 w3) rfl)) trodAll_mk0), rfl, bel.frame _, fun h => by cases h⟩
theorem b1 : (Rows.fnExactRecordLineRow.inPlace == Try.prog.inPlace 12) = true := by kernel_rfl
theorem b2 : (Rows.fnExactRecordLineRow.unfollowed == Try.prog.unfollowed 12) = true := by kernel_rfl
theorem b3 : (Rows.fnExactRecordLineRow.recurses == Try.prog.recurses 12) = true := by kernel_rfl
theorem b4 : (Rows.fnExactRecordLineRow.named == Try.prog.varsNamed 12) = true := by kernel_rfl
theorem e1 : (Rows.fnExactRecordLineRow.plainKeys == Try.prog.plainKeys) = true := by kernel_rfl
theorem e5 : (Rows.fnExactRecordLineRow.lifted == Try.prog.liftsFinal) = true := by rw [Facts.lifts]; rfl
theorem e6 : (Try.prog.make == some Rows.fnExactRecordLineRow.make) = true := by rw [Facts.make]; rfl
theorem closed : joinedFacts Try.prog 12 Try.f12 Rows.fnExactRecordLineSpec Rows.fnExactRecordLineRow = true :=
  Facts.joined_of (by kernel_rfl) Facts.laid Facts.maps (by kernel_rfl) (by kernel_rfl) rfl Facts.stops rfl Facts.stopKnobs b1 b2 b3 b4 (by kernel_rfl) (by kernel_rfl) (by kernel_rfl) (by kernel_rfl) (by kernel_rfl) (by kernel_rfl) (by kernel_rfl) (by kernel_rfl) (by kernel_rfl) e1 rfl Facts.heard Facts.enter e5 e6 (by kernel_rfl) (by kernel_rfl) (by kernel_rfl) (by kernel_rfl)
theorem over : Rows.fnExactRecordLineRow.holds Try.pinned (OpenSpec.ofChange Rows.fnExactRecordLineSpec) :=
  OpenClaim.holds_of_wide 12 Try.f12 rfl rfl rfl rfl rfl rfl rfl ⟨rfl, rfl, rfl, rfl, rfl⟩ rfl rfl rfl rfl rfl (by kernel_rfl) Try.func12 closed
    (of_decide_eq_true (by kernel_rfl)) (by unfold Func.isWrapper; first | (rw [if_pos (by decide +kernel)]; kernel_rfl) | (rw [if_neg (by decide +kernel)]; exact ⟨rfl, rfl⟩))
    (fun os started H enc _ => lifted os started H enc)
theorem proved : Rows.FnExactRecordLineSaid := over
#print axioms proved
end Go.Proofs.Ytfcnangllgaliaa.fnExactRecordLine
namespace Go.Proofs.Ytfcnangllgaliaa
/-- The row, under a short name, for the claim. -/
theorem fnExactRecordLine_holds : Rows.FnExactRecordLineSaid := fnExactRecordLine.proved
end Go.Proofs.Ytfcnangllgaliaa
