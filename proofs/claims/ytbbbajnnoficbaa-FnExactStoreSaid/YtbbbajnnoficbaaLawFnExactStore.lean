-- the row of a law, by wip/lawdev3.py
import Derived.Test.YtbbbajnnoficbaaFacts
import Derived.Test.YtbbbajnnoficbaaOFnExactStore
import Derived.Test.YtbbbajnnoficbaaRows
import Derived.Test.YtbbbajnnoficbaaPFnExactStorex8
import Derived.Test.YtbbbajnnoficbaaPureFnExactStore
import Derived.WalkKit
import Derived.ProofKit
import Derived.OpenShut
import Derived.ShutString
import Derived.ChangeOld
import Derived.Below
import Derived.SizedLaws
import Derived.Lib.SmallJoins
namespace Go.Proofs.Ytbbbajnnoficbaa.fnExactStore
open Go.Proofs.YtbbbajnnoficbaaW.PrintWords
open Go.ChangeShapes Go.WideShapes Go.ChangeAt Go.RowKit Go.Joins
open Go.ChangeMaps (open_string shut_string)
set_option linter.unusedVariables false
theorem own : ownKnob Try.prog.godebug = none := by kernel_rfl
theorem laidOut : laidOutB Try.prog = true := Facts.laid
theorem openLine : Opens Try.prog PFnExactStore.k92 92 (fun x => (Lit.int .i64 x.f0).wf = true ∧ x.f1.size ≤ maxLen ∧ x.f2.size ≤ maxLen) := by
  have h2 : Try.prog.cellsOf 2 = 1 := by kernel_rfl
  have h9 : Try.prog.cellsOf 9 = 1 := by kernel_rfl
  unfold PFnExactStore.k92
  exact Opens.struct3 (w0 := fun (n : Int) => (Lit.int .i64 n).wf = true) (w1 := fun (s : ByteArray) => s.size ≤ maxLen) (w2 := fun (s : ByteArray) => s.size ≤ maxLen) (f0 := { name := "At", type := 2, offset := 0, embedded := false, tag := "", pkgPath := "", byteOffset := 0 }) (f1 := { name := "Data", type := 9, offset := 1, embedded := false, tag := "", pkgPath := "", byteOffset := 8 }) (f2 := { name := "Sent", type := 9, offset := 2, embedded := false, tag := "", pkgPath := "", byteOffset := 24 })
    (fun x => ⟨x.1, x.2.1, x.2.2⟩) (fun _ => rfl) (Opens.int Try.underlying2 h2) (Opens.string Try.underlying9 h9) (Opens.string Try.underlying9 h9) Try.underlying92 (by kernel_rfl) rfl rfl rfl
set_option maxRecDepth 100000 in
theorem lifted (os : Os) (started : os.Started) (H : Type) (enc : TypeId × Value → H) :
    ReturnsInHanded {} Try.checked os 10 .any (Rows.fnExactStoreSpec.pre6 enc Try.prog Try.f10 Rows.fnExactStoreRow.domain false) (Rows.fnExactStoreSpec.post enc Try.prog Try.f10 false true false false) := by
  refine returnsInHanded_of_change_sized (C := Try.checked) own started (by kernel_rfl) Try.func10
    (ChangeSpec.witness6 (enc := enc) (C := Try.checked) false ⟨#[], #[.agg #[.string ByteArray.empty, .slice none 0 0], .int .i64 0, .string ByteArray.empty], []⟩ 8 (by kernel_rfl) (by kernel_rfl) (by kernel_rfl) (by kernel_rfl)) ?_
  intro W base args ds gs before hval0 hW hcnd hsz0 _
  have hsz : (DataW.weightsEach Try.prog (Try.f10.params.toList ++ Rows.fnExactStoreSpec.plain.varTypes Try.prog) (ds ++ gs)).all (· ≤ reachBytes) = true := hsz0
  have hval : ∀ (j : Nat) t v, Try.f10.params[j]? = some t → args[j]? = some v → Value.okWide Try.prog W .any base t v := hval0
  have hW' := hW
  obtain ⟨p, q, hA0, hV, rfl, hfz, hnd⟩ := hW
  have hA : DataW.TrodAll enc Try.prog W 0 (fun _ => true) true Try.f10.params.toList args.toList ds p := hA0
  rw [Try.params10] at hA hval hsz
  obtain ⟨v0, vs0, d0, ds0, p0, q0, hargs, rfl, rfl, h0, r0⟩ := trodAll_cons hA
  obtain ⟨v1, vs1, d1, ds1, p1, q1, rfl, rfl, rfl, h1, r1⟩ := trodAll_cons r0
  obtain ⟨v2, vs2, d2, ds2, p2, q2, rfl, rfl, rfl, h2, r2⟩ := trodAll_cons r1
  obtain ⟨rfl, rfl, rfl⟩ := trodAll_nil r2
  obtain rfl : args = #[v0, v1, v2] := by cases args; simp_all
  obtain ⟨rfl, rfl⟩ := trodVars_none hV
  have k0 := h0
  have lt0 : ∀ x ∈ p0, x.block < W.heap.size := by obtain ⟨m, hm⟩ := k0; exact DataW.trod_lt m _ _ _ hm
  obtain ⟨u0, y0, x0, z0, m0, rfl, rfl, rfl, t0, g0⟩ := open_agg2 Try.underlying24 (by kernel_rfl) (by kernel_rfl) (hval 0 24 v0 rfl rfl) h0
  obtain ⟨a0, e0, _, w0⟩ := DataW.trod_string Try.underlying9 t0
  obtain rfl := (List.cons.inj e0).1
  obtain ⟨xs0, ⟨A0, c0, ec0, hlc0, hC0⟩, hxl0, _⟩ := (Opens.slice openLine Try.underlying22 (by kernel_rfl)).opens g0
  obtain rfl := (List.cons.inj ec0).1
  have k1 := h1
  have lt1 : ∀ x ∈ p1, x.block < W.heap.size := by obtain ⟨m, hm⟩ := k1; exact DataW.trod_lt m _ _ _ hm
  obtain ⟨a1, rfl, rfl, rfl, w1⟩ := open_int Try.underlying2 (hval 1 2 v1 rfl rfl) h1
  have y1 : -9223372036854775808 ≤ a1 ∧ a1 ≤ 9223372036854775807 := by have h_ := w1; simp [Lit.wf, IntKind.min, IntKind.max, IntKind.bits, IntKind.signed] at h_; omega
  have k2 := h2
  have lt2 : ∀ x ∈ p2, x.block < W.heap.size := by obtain ⟨m, hm⟩ := k2; exact DataW.trod_lt m _ _ _ hm
  obtain ⟨a2, rfl, rfl, rfl, w2⟩ := open_string Try.underlying9 (hval 2 9 v2 rfl rfl) h2
  clear hA0 hval0 hsz0 hsz
  obtain ⟨k, hk⟩ := Pure.FnExactStore a0 xs0 a1 a2 (by have := w0; unfold maxLen at this; omega) (by have := hxl0; unfold maxLen at this; omega) y1 (by have := w2; unfold maxLen at this; omega)
  refine (PFnExactStore.laws_FnExactStore.calls k a0 A0 c0 xs0 a1 a2 true W hC0 hlc0 hk).mono fun e W' ⟨he, bel⟩ => ?_
  subst he
  exact ⟨_, rfl, _, _, _, [], _, [], hW', trodAll_mk1 (shut_bool Try.underlying4 _), (trodAll_cons_mk (Below.trod laidOut (by kernel_rfl) (of_decide_eq_true (by kernel_rfl)) k0 bel lt0) (trodAll_cons_mk (Below.trod laidOut (by kernel_rfl) (of_decide_eq_true (by kernel_rfl)) k1 bel lt1) (trodAll_cons_mk (Below.trod laidOut (by kernel_rfl) (of_decide_eq_true (by kernel_rfl)) k2 bel lt2) trodAll_mk0))), rfl, bel.frame _, fun h => by cases h⟩
theorem b1 : (Rows.fnExactStoreRow.inPlace == Try.prog.inPlace 10) = true := by kernel_rfl
theorem b2 : (Rows.fnExactStoreRow.unfollowed == Try.prog.unfollowed 10) = true := by kernel_rfl
theorem b3 : (Rows.fnExactStoreRow.recurses == Try.prog.recurses 10) = true := by kernel_rfl
theorem b4 : (Rows.fnExactStoreRow.named == Try.prog.varsNamed 10) = true := by kernel_rfl
theorem e1 : (Rows.fnExactStoreRow.plainKeys == Try.prog.plainKeys) = true := by kernel_rfl
theorem e5 : (Rows.fnExactStoreRow.lifted == Try.prog.liftsFinal) = true := by rw [Facts.lifts]; rfl
theorem e6 : (Try.prog.make == some Rows.fnExactStoreRow.make) = true := by rw [Facts.make]; rfl
theorem closed : joinedFacts Try.prog 10 Try.f10 Rows.fnExactStoreSpec Rows.fnExactStoreRow = true :=
  Facts.joined_of (by kernel_rfl) Facts.laid Facts.maps (by kernel_rfl) (by kernel_rfl) rfl Facts.stops rfl Facts.stopKnobs b1 b2 b3 b4 (by kernel_rfl) (by kernel_rfl) (by kernel_rfl) (by kernel_rfl) (by kernel_rfl) (by kernel_rfl) (by kernel_rfl) (by kernel_rfl) (by kernel_rfl) e1 rfl Facts.heard Facts.enter e5 e6 (by kernel_rfl) (by kernel_rfl) (by kernel_rfl) (by kernel_rfl)
theorem over : Rows.fnExactStoreRow.holds Try.pinned (OpenSpec.ofChange Rows.fnExactStoreSpec) :=
  OpenClaim.holds_of_wide 10 Try.f10 rfl rfl rfl rfl rfl rfl rfl ⟨rfl, rfl, rfl, rfl, rfl⟩ rfl rfl rfl rfl rfl (by kernel_rfl) Try.func10 closed
    (of_decide_eq_true (by kernel_rfl)) (by unfold Func.isWrapper; first | (rw [if_pos (by decide +kernel)]; kernel_rfl) | (rw [if_neg (by decide +kernel)]; exact ⟨rfl, rfl⟩))
    (fun os started H enc _ => lifted os started H enc)
theorem proved : Rows.FnExactStoreSaid := over
#print axioms proved
end Go.Proofs.Ytbbbajnnoficbaa.fnExactStore
namespace Go.Proofs.Ytbbbajnnoficbaa
/-- The row, under a short name, for the claim. -/
theorem fnExactStore_holds : Rows.FnExactStoreSaid := fnExactStore.proved
end Go.Proofs.Ytbbbajnnoficbaa
